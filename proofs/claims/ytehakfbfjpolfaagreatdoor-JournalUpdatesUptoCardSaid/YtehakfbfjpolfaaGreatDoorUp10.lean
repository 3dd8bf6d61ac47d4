/- Texts 10 of 17 that the law rests on: the small library, contracts of functions, printed by a program. -/
import Derived.Lib.AppendZerosOnto
import Derived.Maps.RangeRun
import Derived.MapKept
import Derived.Test.YtehakfbfjpolfaaGreatDoorUp1
import Derived.Test.YtehakfbfjpolfaaGreatDoorUp2
import Derived.Test.YtehakfbfjpolfaaGreatDoorUp3
import Derived.Test.YtehakfbfjpolfaaGreatDoorUp4
import Derived.Test.YtehakfbfjpolfaaGreatDoorUp5
import Derived.Test.YtehakfbfjpolfaaGreatDoorUp6
import Derived.Test.YtehakfbfjpolfaaGreatDoorUp7
import Derived.Test.YtehakfbfjpolfaaGreatDoorUp8
import Derived.Test.YtehakfbfjpolfaaGreatDoorUp9
set_option maxRecDepth 100000
set_option linter.all false
namespace Vw
open Go Go.Lib
theorem zeroCells_u8 (n : Nat) : Builtin.zeroCells (Value.int .u8 0).cells n = ((List.replicate n (0 : UInt8)).map u8v).toArray := by
  apply Array.toList_inj.1
  apply List.ext_getElem?
  intro i
  simp only [Builtin.zeroCells, List.map_replicate]
  rw [List.getElem?_replicate]
  by_cases h : i < n
  · simp [h, Value.cells, u8v, Nat.mod_one]
  · simp [h, Value.cells]
section
variable {P : Program} {ρ : Operand → Value} {K : Value → World → Prop} {w : World}
variable {d : Option Nat} {ty : TypeId} {pos : String} {after : Array Edge} {g : Option (Nat × Bool)}
variable {σ : Sig} {L L' R : List Asrt}
theorem run_append_room_zeros (t tn ty e : TypeId) (i : TypeInfo) (kq kn : IntKind) (ht : P.underlying t = some (.slice e)) (htn : P.underlying tn = some (.int kn)) (hi : P.info? e = some i) (hz : i.zero = some (.int .u8 0)) (hs1 : i.size = 1)
    (b sLen sCap : Nat) (cur : List Value) (hg : w.heap[b]? = some (.cells cur.toArray e (0, 0))) (n : Nat) (h0 : 0 < n) (hn : (n : Int) ≤ 9223372036854775807) (hroom : sLen + n ≤ sCap) (hfit : sLen + n ≤ cur.length) (h48 : n * i.bytes ≤ 281474976710656) :
    (Builtin.append_ #[t, tn] ty #[.slice (some ⟨b, 0, none⟩) sLen sCap, .int kq n]).run P w =
      .ok (.slice (some ⟨b, 0, none⟩) (sLen + n) sCap) (w.setRow b (cur.take sLen ++ (List.replicate n (0 : UInt8)).map u8v ++ cur.drop (sLen + n)).toArray) := by
  have hst := run_storeCells_at P b sLen e ((List.replicate n (0 : UInt8)).map u8v) 0 cur.toArray w hg (by simpa using hfit) (by intro v hv; obtain ⟨x, _, rfl⟩ := List.mem_map.1 hv; rfl)
  simp only [Nat.add_zero, List.length_map, List.length_replicate] at hst
  have hzc := zeroCells_u8 n
  have hk : n ≠ 0 := by omega
  have hw : IntKind.i64.wrap (n : Int) = n := wrap_i64 (by omega) (by omega)
  have hneg : ¬ ((n : Int) < 0) := by omega
  have h48i : ¬ (281474976710656 < (n : Int) * (i.bytes : Int)) := by
    rw [← Int.natCast_mul]
    omega
  simp [Builtin.append_, run_underlying ht, run_underlying htn, Go.sizeOf, typeInfo, zeroValue, hi, hz, hs1, asInt, asIntOf, hw, hneg, h48i, hk, hroom, Addr.add_lit, hzc]
  have hst' := hst
  simp at hst'
  rw [hst']
  simp
theorem y_appendZ {t tn e n : Nat} {x y : Operand} {v : Value} {l : List UInt8} {kq kn : IntKind} {ni : Int} (hs : St σ w L) (ht : SlT P t e 1 1 (.int .u8 0)) (htn : P.underlying tn = some (.int kn))
    (hx : ρ x = v) (hy : ρ y = .int kq ni) (hni : ni = n) (h0 : 0 < n) (tk : Take (slB e v l) L R) (hb : l.length + n ≤ 140737488355328)
    (h : ∀ v' w', St σ w' (slB e v' (l ++ List.replicate n 0) :: R) → K v' w') :
    Does P ρ ⟨d, .call ⟨.builtin .append, #[x, y], #[t, tn]⟩, ty, pos, after, g⟩ w K := by
  subst hni
  obtain ⟨inf, h4, h5, h6, h7⟩ := ht.info
  have hs' := hs.take tk
  obtain ⟨hxs, hcase⟩ : (l.map u8v).length = l.length * 1 ∧ ((v = .slice none 0 0 ∧ l.length = 0) ∨
      ∃ b cap cur, v = .slice (some ⟨b, 0, none⟩) l.length cap ∧ l.length ≤ cap ∧ cap ≤ maxLen ∧ cur.length = cap * 1 ∧ cur.take (l.length * 1) = l.map u8v ∧ St σ w (cb b e cur :: R)) := by
    obtain ⟨hh, hhp, A0, r0, d0, la, lr, ha, hr0⟩ := hs'.has
    refine ⟨ha.1, ?_⟩
    rcases ha.2 with x | ⟨b, cap, cur, e1, e2, e3, e4, e5, e6⟩
    · exact .inl x
    · exact .inr ⟨b, cap, cur, e1, e2, e3, e4, e5, hs'.kept, hh, hhp, A0, r0, d0, la, lr, e6, hr0⟩
  simp only [Nat.mul_one] at hcase
  have hz1 : (Value.int IntKind.u8 0).cells.size = 1 := rfl
  have h63 : l.length + n ≤ maxLen := by rw [maxLen_eq]; omega
  have grown : ∀ (old : Nat), old < l.length + n → St σ (w.drew.alloc (.cells ((l.map u8v).toArray ++ Builtin.zeroCells (Value.int .u8 0).cells n ++ Builtin.zeroCells (Value.int .u8 0).cells (grownCap w (l.length + n) old e - (l.length + n))) e))
      (slB e (.slice (some ⟨w.heap.size, 0, none⟩) (l.length + n) (grownCap w (l.length + n) old e)) (l ++ List.replicate n 0) :: R) := by
    intro old ho
    have hge := grownCap_ge w (l.length + n) old e
    have hcm : grownCap w (l.length + n) old e ≤ maxLen := grownCap_le_maxLen w (l.length + n) old e h63
    have hd : St σ w.drew R := hs'.drop.same rfl rfl rfl rfl
    have := hd.alloc (.cells ((l.map u8v).toArray ++ Builtin.zeroCells (Value.int .u8 0).cells n ++ Builtin.zeroCells (Value.int .u8 0).cells (grownCap w (l.length + n) old e - (l.length + n))) e)
    refine this.imp fun hh hb => ?_
    have e0 : ∀ k, (Builtin.zeroCells (Value.int .u8 0).cells k).toList.length = k := fun k => by rw [Array.length_toList, size_zeroCells, hz1, Nat.mul_one]
    refine ⟨by simp, .inr ⟨w.heap.size, _, ((l ++ List.replicate n 0).map u8v ++ (Builtin.zeroCells (Value.int .u8 0).cells (grownCap w (l.length + n) old e - (l.length + n))).toList), by rw [List.length_append, List.length_replicate], by rw [List.length_append, List.length_replicate]; exact hge, hcm, ?_, ?_, ?_⟩⟩
    · rw [List.length_append, List.length_map, List.length_append, List.length_replicate, e0]; omega
    · rw [Nat.mul_one]
      have : (l ++ List.replicate n (0 : UInt8)).length = ((l ++ List.replicate n (0 : UInt8)).map u8v).length := by simp
      rw [this, List.take_left]
    · show hh w.heap.size = _
      rw [show hh w.heap.size = _ from hb]
      congr 2
      apply Array.toList_inj.1
      have hzc := zeroCells_u8 n
      simp [hzc]
  have fin : ∀ v' w', (Builtin.append_ #[t, tn] ty #[v, .int kq n]).run P w = .ok v' w' → K v' w' → Does P ρ ⟨d, .call ⟨.builtin .append, #[x, y], #[t, tn]⟩, ty, pos, after, g⟩ w K := by
    intro v' w' hrun hk
    refine .value (v := v') (w' := w') ?_ hk
    simp only [execOp, resolve, invoke, builtin, Sem.run_bind, Sem.run_pure, Result.andThen_ok, List.map_toArray, List.map_cons, List.map_nil, hx, hy, hrun]
  rcases hcase with ⟨rfl, hn⟩ | ⟨b, cap, cur, rfl, hnc, hcm, hcl2, htk, hsb⟩
  · have hx0 : l = [] := List.eq_nil_of_length_eq_zero hn
    subst hx0
    have hrun := run_append_nil_zeros (P := P) w t tn ty e inf _ kq kn ht.und htn h4 h7 n h0 (by omega) (by simp at hb; omega) (by rw [h6]; simp at hb; omega)
    have hgr := grown 0 (by simp; omega)
    simp only [List.length_nil, Nat.zero_add, List.nil_append, List.map_nil, Array.empty_append] at hgr hrun h ⊢
    exact fin _ _ hrun (h _ _ (by simpa using hgr))
  · by_cases hroom : l.length + n ≤ cap
    · have hbk : w.heap[b]? = some (.cells cur.toArray e (0, 0)) := hsb.head
      have hrun := run_append_room_zeros (P := P) (w := w) t tn ty e inf kq kn ht.und htn h4 h7 h5 b l.length cap cur hbk n h0 (by omega) hroom (by omega) (by rw [h6]; omega)
      refine fin _ _ hrun (h _ _ ((hsb.wrote (setRow_wrote hbk)).imp fun hh hb' => ⟨by simp, .inr ⟨b, cap, _, by rw [List.length_append, List.length_replicate], by rw [List.length_append, List.length_replicate]; exact hroom, hcm, ?_, ?_, hb'⟩⟩))
      · simp; omega
      · rw [List.length_append, List.length_replicate, Nat.mul_one, htk, ← List.map_append]
        have : l.length + n = ((l ++ List.replicate n (0 : UInt8)).map u8v).length := by simp
        rw [this]
        exact List.take_left
    · have holds : ∀ j u, (l.map u8v)[j]? = some u → w.cell? ((⟨b, 0, none⟩ : Addr).add j) = some u := by
        intro j u hu
        have hadd : (⟨b, 0, none⟩ : Addr).add j = ⟨b, j, none⟩ := by unfold Addr.add; split <;> simp_all
        rw [hadd]
        refine hsb.cell (.here _) ?_
        rw [← htk, List.getElem?_take] at hu
        split at hu
        · exact hu
        · cases hu
      have hold := run_firstCells_some (P := P) w.drew inf.size l.length ⟨b, 0, none⟩ l.length cap (l.map u8v) (by rw [h5]; simp) (by simpa using holds)
      have hrun := run_append_grow_zeros (P := P) w t tn ty e inf _ kq kn ht.und htn h4 h7 (some ⟨b, 0, none⟩) l.length cap (l.map u8v) hold n h0 (by omega) (by omega) (by omega) (by rw [h6]; omega)
        (by rw [h6]; exact growslice_fits (by omega) (by omega))
      exact fin _ _ hrun (h _ _ (grown cap (by omega)))
end
structure Ent where
  sec : Nat
  born : Nat
  val : Value
  ps : List (Nat × Value × List UInt8)
def Ent.mem (e : Ent) : MapEntry := ⟨.int .i64 e.sec, e.val, e.born⟩
abbrev Pt := Nat × Value × List UInt8
def pcF (p : Pt) : List Value := [.int .i64 p.1, p.2.1]
def pcOf (p : Pt) : Pc := (p.1, p.2.2)
def datA (T : Nat) : List Pt → Asrt
  | [] => fun _ => True
  | p :: r => star (slB T p.2.1 p.2.2) (datA T r)
def entA (Q T : Nat) (e : Ent) : Asrt := star (sl Q 2 e.val e.ps.length (e.ps.flatMap pcF)) (datA T e.ps)
def entsA (Q T : Nat) : List Ent → Asrt
  | [] => fun _ => True
  | e :: r => star (entA Q T e) (entsA Q T r)
abbrev mapA (m : Nat) (es : List Ent) (clock : Nat) : Asrt := blk m (.map (es.map Ent.mem).toArray clock)
structure MOk (es : List Ent) (clock : Nat) : Prop where
  secs : (es.map (·.sec)).Nodup
  born : ∀ e ∈ es, e.born < clock
  borns : (es.map (·.born)).Nodup
def eps (es : List Ent) (s : Nat) : List Pc := match es.find? (fun e => decide (e.sec = s)) with
  | some e => e.ps.map pcOf
  | none => []
def Grp (es : List Ent) (pcs : List Pc) : Prop := ∀ s, eps es s = secP pcs s
theorem MOk.nil (c : Nat) : MOk [] c := ⟨by simp, by simp, by simp⟩
theorem Grp.nil : Grp [] [] := fun s => rfl
theorem datA_push {σ : Sig} {w : World} {T : Nat} {p : Pt} : ∀ {ps : List Pt} {R : List Asrt}, St σ w (datA T ps :: slB T p.2.1 p.2.2 :: R) → St σ w (datA T (ps ++ [p]) :: R)
  | [], R, hs => by
    have h1 : St σ w (slB T p.2.1 p.2.2 :: R) := hs.drop
    exact ((h1.emp (A := fun _ => True) (fun _ => trivial)).take (.there _ (.here _))).unstar
  | q :: ps, R, hs => by
    have h1 := hs.star
    have h2 : St σ w (datA T ps :: slB T p.2.1 p.2.2 :: slB T q.2.1 q.2.2 :: R) := (h1.take (.there _ (.there _ (.here _)))) |>.take (.there _ (.there _ (.here _)))
    have h3 := datA_push h2
    exact (h3.take (.there _ (.here _))).unstar
theorem entsA_take {σ : Sig} {w : World} {Q T : Nat} {e : Ent} {post : List Ent} : ∀ {pre : List Ent} {R : List Asrt}, St σ w (entsA Q T (pre ++ e :: post) :: R) → St σ w (entA Q T e :: entsA Q T (pre ++ post) :: R)
  | [], R, hs => hs.star
  | q :: pre, R, hs => by
    have h1 := hs.star
    have h2 : St σ w (entsA Q T (pre ++ e :: post) :: entA Q T q :: R) := h1.take (.there _ (.here _))
    have h3 := entsA_take h2
    have h4 : St σ w (entA Q T q :: entsA Q T (pre ++ post) :: entA Q T e :: R) := (h3.take (.there _ (.here _))).take (.there _ (.there _ (.here _)))
    exact (h4.unstar).take (.there _ (.here _))
theorem entsA_give {σ : Sig} {w : World} {Q T : Nat} {e : Ent} {post : List Ent} : ∀ {pre : List Ent} {R : List Asrt}, St σ w (entA Q T e :: entsA Q T (pre ++ post) :: R) → St σ w (entsA Q T (pre ++ e :: post) :: R)
  | [], R, hs => hs.unstar
  | q :: pre, R, hs => by
    have h1 : St σ w (entsA Q T (q :: (pre ++ post)) :: entA Q T e :: R) := hs.take (.there _ (.here _))
    have h2 := h1.star
    have h3 : St σ w (entA Q T e :: entsA Q T (pre ++ post) :: entA Q T q :: R) := (h2.take (.there _ (.here _))).take (.there _ (.there _ (.here _)))
    have h4 := entsA_give h3
    exact (h4.take (.there _ (.here _))).unstar
theorem split_sec (s : Nat) : ∀ es : List Ent, (∃ pre e post, es = pre ++ e :: post ∧ e.sec = s ∧ ∀ x ∈ pre, x.sec ≠ s) ∨ ∀ x ∈ es, x.sec ≠ s
  | [] => .inr (by simp)
  | e :: es => by
    by_cases h : e.sec = s
    · exact .inl ⟨[], e, es, rfl, h, by simp⟩
    · rcases split_sec s es with ⟨pre, e', post, rfl, h1, h2⟩ | h1
      · exact .inl ⟨e :: pre, e', post, rfl, h1, fun x hx => by rcases List.mem_cons.1 hx with rfl | hx; exact h; exact h2 x hx⟩
      · exact .inr fun x hx => by rcases List.mem_cons.1 hx with rfl | hx; exact h; exact h1 x hx
theorem eps_in {pre post : List Ent} {e : Ent} (h : ∀ x ∈ pre, x.sec ≠ e.sec) : eps (pre ++ e :: post) e.sec = e.ps.map pcOf := by
  unfold eps
  have : (pre ++ e :: post).find? (fun x => decide (x.sec = e.sec)) = some e := by
    rw [List.find?_append, List.find?_eq_none.2 (by intro x hx; simpa using h x hx)]
    simp
  rw [this]
theorem eps_out {es : List Ent} {s : Nat} (h : ∀ x ∈ es, x.sec ≠ s) : eps es s = [] := by
  unfold eps
  rw [List.find?_eq_none.2 (by intro x hx; simpa using h x hx)]
theorem eps_other {pre post : List Ent} {e e' : Ent} {s : Nat} (h1 : e.sec ≠ s) (h2 : e'.sec ≠ s) : eps (pre ++ e :: post) s = eps (pre ++ e' :: post) s := by
  unfold eps
  rw [List.find?_append, List.find?_append, List.find?_cons, List.find?_cons]
  simp [h1, h2]
theorem eps_push {es : List Ent} {e : Ent} {s : Nat} (h : e.sec ≠ s) : eps (es ++ [e]) s = eps es s := by
  unfold eps
  rw [List.find?_append]
  simp [h]
theorem findNow_none {s : Nat} : ∀ (l : List Ent) (i : Nat), (∀ e ∈ l, e.sec ≠ s) → Instr.findNow (.int .i64) (.int .i64 (s : Int)) (l.map Ent.mem) i = some none
  | [], _, _ => rfl
  | e :: l, i, h => by
    have h1 : ((s : Int) == (e.sec : Int)) = false := by have := h e (by simp); simp; omega
    simp only [List.map_cons, Instr.findNow, Ent.mem, Instr.sameNow, if_true, h1]
    exact findNow_none l (i + 1) fun x hx => h x (by simp [hx])
theorem findNow_some {e : Ent} {post : List Ent} : ∀ (pre : List Ent) (i : Nat), (∀ x ∈ pre, x.sec ≠ e.sec) → Instr.findNow (.int .i64) (.int .i64 (e.sec : Int)) ((pre ++ e :: post).map Ent.mem) i = some (some (i + pre.length, e.val))
  | [], i, _ => by simp [Instr.findNow, Ent.mem, Instr.sameNow]
  | x :: pre, i, h => by
    have h1 : ((e.sec : Int) == (x.sec : Int)) = false := by have := h x (by simp); simp; omega
    have ih := findNow_some (e := e) (post := post) pre (i + 1) fun y hy => h y (by simp [hy])
    simp only [List.cons_append, List.map_cons, Instr.findNow, Ent.mem, Instr.sameNow, if_true, h1] at ih ⊢
    rw [ih]
    simp only [List.length_cons]
    congr 3
    omega
theorem setObj_wrote {w : World} {r : Nat} {o o' : Obj} (hb : w.heap[r]? = some o) : Wrote w { w with heap := w.heap.setIfInBounds r o' } r o' := by
  have hlt : r < w.heap.size := (Array.getElem?_eq_some_iff.1 hb).1
  exact ⟨rfl, rfl, rfl, by simp, by simp [hlt], fun k hk => by simp [Array.getElem?_setIfInBounds, Ne.symm hk]⟩
structure MpT (P : Program) (t kt et : Nat) : Prop where
  und : P.underlying t = some (.map kt et)
  key : P.underlying kt = some (.int .i64)
  zero : ∀ w, (zeroValue et).run P w = .ok (.slice none 0 0) w
section
variable {P : Program} {ρ : Operand → Value} {K : Value → World → Prop} {w : World}
variable {d : Option Nat} {ty : TypeId} {pos : String} {after : Array Edge} {g : Option (Nat × Bool)}
variable {σ : Sig} {L L' R : List Asrt}
theorem run_updIn {t kt et m clock : Nat} {pre post : List Ent} {e : Ent} {v : Value} (ht : MpT P t kt et) (hb : w.heap[m]? = some (.map ((pre ++ e :: post).map Ent.mem).toArray clock)) (hpre : ∀ x ∈ pre, x.sec ≠ e.sec) :
    ∃ w', (Instr.mapUpdate t (.map (some m)) (.int .i64 (e.sec : Int)) v).run P w = .ok () w' ∧ Wrote w w' m (.map ((pre ++ { e with val := v } :: post).map Ent.mem).toArray clock) := by
  refine ⟨_, ?_, setObj_wrote hb⟩
  have hk : MapKept.IsKey (.int .i64) (.int .i64 (e.sec : Int)) := rfl
  have hf := findNow_some (e := e) (post := post) pre 0 hpre
  have hfk := MapKept.run_findKey (P := P) (w := w) (kt := kt) ht.key hf
  have hc := MapKept.run_checkKey (P := P) (w := w) ht.key hk false 9999
  have hst := MapKept.run_keyThatStays (P := P) (w := w) (d := .int .i64) (k := .int .i64 (e.sec : Int)) hk
  have hget : (((pre ++ e :: post).map Ent.mem).toArray[0 + pre.length]?).map (·.key) = some (.int .i64 (e.sec : Int)) := by simp [Ent.mem]
  have hmod : ((pre ++ e :: post).map Ent.mem).toArray.modify (0 + pre.length) (fun x => { x with key := .int .i64 (e.sec : Int), val := v }) = ((pre ++ { e with val := v } :: post).map Ent.mem).toArray := by
    apply Array.toList_inj.1
    apply List.ext_getElem?
    intro j
    simp only [Array.getElem?_toList, Array.getElem?_modify, List.getElem?_toArray, List.map_append, List.map_cons, Nat.zero_add]
    by_cases hj : pre.length = j
    · subst hj; simp [Ent.mem]
    · rw [if_neg hj]
      simp only [List.getElem?_append, List.length_map]
      split
      · rfl
      · obtain ⟨k, hk⟩ : ∃ k, j - pre.length = k + 1 := ⟨j - pre.length - 1, by omega⟩
        rw [hk]; simp
  simp only [Instr.mapUpdate, Sem.run_bind, run_underlying ht.und, Result.andThen_ok, MapKept.run_getObj_map hb, hc, hfk, hget, Option.getD_some, hst, hmod, MapKept.run_setObj_map _ hb]
theorem run_updOut {t kt et m clock s : Nat} {es : List Ent} {v : Value} (ps : List Pt) (ht : MpT P t kt et) (hb : w.heap[m]? = some (.map (es.map Ent.mem).toArray clock)) (hpre : ∀ x ∈ es, x.sec ≠ s) :
    ∃ w', (Instr.mapUpdate t (.map (some m)) (.int .i64 (s : Int)) v).run P w = .ok () w' ∧ Wrote w w' m (.map ((es ++ [(⟨s, clock, v, ps⟩ : Ent)]).map Ent.mem).toArray (clock + 1)) := by
  refine ⟨_, ?_, setObj_wrote hb⟩
  have hk : MapKept.IsKey (.int .i64) (.int .i64 (s : Int)) := rfl
  have hfk := MapKept.run_findKey (P := P) (w := w) (kt := kt) ht.key (findNow_none es 0 hpre)
  have hc := MapKept.run_checkKey (P := P) (w := w) ht.key hk false 9999
  have hpush : (es.map Ent.mem).toArray.push { key := .int .i64 (s : Int), val := v, born := clock } = ((es ++ [(⟨s, clock, v, ps⟩ : Ent)]).map Ent.mem).toArray := by simp [Ent.mem]
  simp only [Instr.mapUpdate, Sem.run_bind, run_underlying ht.und, Result.andThen_ok, MapKept.run_getObj_map hb, hc, hfk, hpush, MapKept.run_setObj_map _ hb]
theorem run_lookIn {t kt et m clock : Nat} {pre post : List Ent} {e : Ent} (ht : MpT P t kt et) (hb : w.heap[m]? = some (.map ((pre ++ e :: post).map Ent.mem).toArray clock)) (hpre : ∀ x ∈ pre, x.sec ≠ e.sec) :
    (Instr.lookup t (.map (some m)) (.int .i64 (e.sec : Int)) false).run P w = .ok e.val w := by
  have hk : MapKept.IsKey (.int .i64) (.int .i64 (e.sec : Int)) := rfl
  have hf := findNow_some (e := e) (post := post) pre 0 hpre
  have hfk := MapKept.run_findKey (P := P) (w := w) (kt := kt) ht.key hf
  have hc := fun b => MapKept.run_checkKey (P := P) (w := w) ht.key hk b 9999
  simp only [Instr.lookup, Sem.run_bind, run_underlying ht.und, Result.andThen_ok, MapKept.run_getObj_map hb, hc, Sem.run_pure, hfk]
  rfl
theorem run_lookOut {t kt et m clock s : Nat} {es : List Ent} (ht : MpT P t kt et) (hb : w.heap[m]? = some (.map (es.map Ent.mem).toArray clock)) (hpre : ∀ x ∈ es, x.sec ≠ s) :
    (Instr.lookup t (.map (some m)) (.int .i64 (s : Int)) false).run P w = .ok (.slice none 0 0) w := by
  have hk : MapKept.IsKey (.int .i64) (.int .i64 (s : Int)) := rfl
  have hfk := MapKept.run_findKey (P := P) (w := w) (kt := kt) ht.key (findNow_none es 0 hpre)
  have hc := fun b => MapKept.run_checkKey (P := P) (w := w) ht.key hk b 9999
  simp only [Instr.lookup, Sem.run_bind, run_underlying ht.und, Result.andThen_ok, MapKept.run_getObj_map hb, hc, Sem.run_pure, hfk, ht.zero]
  rfl
theorem map_open {t kt et m clock Q T : Nat} {es : List Ent} (s : Nat) (ht : MpT P t kt et) (hok : MOk es clock) (hs : St σ w (mapA m es clock :: entsA Q T es :: R)) :
    ∃ (v : Value) (ps : List Pt) (er : List Ent), ps.map pcOf = eps es s ∧ St σ w (sl Q 2 v ps.length (ps.flatMap pcF) :: datA T ps :: mapA m es clock :: entsA Q T er :: R) ∧
      (∀ w' : World, w'.heap[m]? = some (.map (es.map Ent.mem).toArray clock) → (Instr.lookup t (.map (some m)) (.int .i64 (s : Int)) false).run P w' = .ok v w') ∧
      ∀ (v' : Value) (ps' : List Pt), ∃ es' clock', MOk es' clock' ∧ eps es' s = ps'.map pcOf ∧ (∀ s', s' ≠ s → eps es' s' = eps es s') ∧
        ∀ w', St σ w' (sl Q 2 v' ps'.length (ps'.flatMap pcF) :: datA T ps' :: mapA m es clock :: entsA Q T er :: R) →
          ∃ w'', (Instr.mapUpdate t (.map (some m)) (.int .i64 (s : Int)) v').run P w' = .ok () w'' ∧ St σ w'' (mapA m es' clock' :: entsA Q T es' :: R) := by
  rcases split_sec s es with ⟨pre, e, post, rfl, rfl, hpre⟩ | hout
  · refine ⟨e.val, e.ps, pre ++ post, (eps_in hpre).symm, ?_, fun w' hb => run_lookIn ht hb hpre, fun v' ps' => ?_⟩
    · have h1 : St σ w (entsA Q T (pre ++ e :: post) :: mapA m (pre ++ e :: post) clock :: R) := hs.take (.there _ (.here _))
      have h2 := (entsA_take h1).star
      exact ((h2.take (.there _ (.there _ (.there _ (.here _))))).take (.there _ (.there _ (.here _)))).take (.there _ (.there _ (.here _)))
    · refine ⟨pre ++ { e with val := v', ps := ps' } :: post, clock, ⟨?_, ?_, ?_⟩, eps_in (e := { e with val := v', ps := ps' }) hpre, fun s' hs' => eps_other (Ne.symm hs') (Ne.symm hs'), fun w' hs' => ?_⟩
      · have := hok.secs; simpa using this
      · intro x hx
        rcases List.mem_append.1 hx with hx | hx
        · exact hok.born x (by simp [hx])
        · rcases List.mem_cons.1 hx with rfl | hx
          · exact hok.born e (by simp)
          · exact hok.born x (by simp [hx])
      · have := hok.borns; simpa using this
      · have h1 : St σ w' (mapA m (pre ++ e :: post) clock :: sl Q 2 v' ps'.length (ps'.flatMap pcF) :: datA T ps' :: entsA Q T (pre ++ post) :: R) := hs'.take (.there _ (.there _ (.here _)))
        obtain ⟨w'', hr, hw⟩ := run_updIn (v := v') ht h1.head hpre
        refine ⟨w'', hr, ?_⟩
        have em : (pre ++ { e with val := v' } :: post).map Ent.mem = (pre ++ { e with val := v', ps := ps' } :: post).map Ent.mem := by simp [Ent.mem]
        rw [em] at hw
        have h2 := h1.wrote hw
        have h3 : St σ w'' (sl Q 2 v' ps'.length (ps'.flatMap pcF) :: datA T ps' :: entsA Q T (pre ++ post) :: mapA m (pre ++ { e with val := v', ps := ps' } :: post) clock :: R) :=
          ((h2.take (.there _ (.there _ (.there _ (.here _))))).take (.there _ (.there _ (.there _ (.here _))))).take (.there _ (.there _ (.there _ (.here _))))
        have h4 : St σ w'' (entA Q T { e with val := v', ps := ps' } :: entsA Q T (pre ++ post) :: mapA m (pre ++ { e with val := v', ps := ps' } :: post) clock :: R) := h3.unstar
        exact (entsA_give h4).take (.there _ (.here _))
  · refine ⟨.slice none 0 0, [], es, (eps_out hout).symm, ?_, fun w' hb => run_lookOut ht hb hout, fun v' ps' => ?_⟩
    · exact (hs.emp (A := datA T []) (fun _ => trivial)).emp (A := sl Q 2 (.slice none 0 0) 0 []) (fun _ => ⟨rfl, .inl ⟨rfl, rfl⟩⟩)
    · refine ⟨es ++ [⟨s, clock, v', ps'⟩], clock + 1, ⟨?_, ?_, ?_⟩, eps_in (pre := es) (e := ⟨s, clock, v', ps'⟩) (post := []) hout, fun s' hs' => eps_push (Ne.symm hs'), fun w' hs' => ?_⟩
      · rw [List.map_append, List.nodup_append]
        refine ⟨hok.secs, by simp, ?_⟩
        intro a ha b hb
        obtain ⟨x, hx, rfl⟩ := List.mem_map.1 ha
        simp at hb; subst hb
        exact hout x hx
      · intro x hx
        rcases List.mem_append.1 hx with hx | hx
        · exact Nat.lt_succ_of_lt (hok.born x hx)
        · simp at hx; subst hx; exact Nat.lt_succ_self _
      · rw [List.map_append, List.nodup_append]
        refine ⟨hok.borns, by simp, ?_⟩
        intro a ha b hb
        obtain ⟨x, hx, rfl⟩ := List.mem_map.1 ha
        simp at hb; subst hb
        exact Nat.ne_of_lt (hok.born x hx)
      · have h1 : St σ w' (mapA m es clock :: sl Q 2 v' ps'.length (ps'.flatMap pcF) :: datA T ps' :: entsA Q T es :: R) := hs'.take (.there _ (.there _ (.here _)))
        obtain ⟨w'', hr, hw⟩ := run_updOut (v := v') ps' ht h1.head hout
        refine ⟨w'', hr, ?_⟩
        have h2 := h1.wrote hw
        have h3 : St σ w'' (sl Q 2 v' ps'.length (ps'.flatMap pcF) :: datA T ps' :: entsA Q T es :: mapA m (es ++ [⟨s, clock, v', ps'⟩]) (clock + 1) :: R) :=
          ((h2.take (.there _ (.there _ (.there _ (.here _))))).take (.there _ (.there _ (.there _ (.here _))))).take (.there _ (.there _ (.there _ (.here _))))
        have h4 : St σ w'' (entA Q T ⟨s, clock, v', ps'⟩ :: entsA Q T (es ++ []) :: mapA m (es ++ [⟨s, clock, v', ps'⟩]) (clock + 1) :: R) := by rw [List.append_nil]; exact h3.unstar
        exact (entsA_give h4).take (.there _ (.here _))
theorem x_lookup {t : TypeId} {x y : Operand} {vm vk v : Value} (hx : ρ x = vm) (hy : ρ y = vk) (hr : (Instr.lookup t vm vk false).run P w = .ok v w) :
    (execOp ρ ⟨d, .lookup t x y false, ty, pos, after, g⟩).run P w = .ok (.value v) w := by
  simp only [execOp, hx, hy, Sem.run_bind, hr, Result.andThen_ok, Sem.run_pure]
theorem y_mapUpdate {t : TypeId} {m x y : Operand} {vm vk v : Value} {w' : World} (hm : ρ m = vm) (hx : ρ x = vk) (hy : ρ y = v) (hr : (Instr.mapUpdate t vm vk v).run P w = .ok () w') (h : K undef w') :
    Does P ρ ⟨d, .mapUpdate t m x y, ty, pos, after, g⟩ w K := by
  refine .skip (w' := w') ?_ h
  simp only [execOp, hm, hx, hy, Sem.run_bind, hr, Result.andThen_ok, Sem.run_pure]
theorem y_range {t k e m clock : Nat} {x : Operand} {arr : Array MapEntry} (hs : St σ w L) (ht : P.underlying t = some (.map k e)) (hx : ρ x = .map (some m)) (tk : Take (blk m (.map arr clock)) L R)
    (h : ∀ r w', St σ w' (blk r (.mapIter (some m) clock #[] clock) :: L) → K (.pointer (some ⟨r, 0, none⟩)) w') : Does P ρ ⟨d, .range t x, ty, pos, after, g⟩ w K := by
  have hb := hs.blk_at tk
  have hr := run_range_map (P := P) w t k e m arr clock ht hb
  refine .value (v := .pointer (some ⟨w.heap.size, 0, none⟩)) ?_ (h _ _ (hs.alloc _))
  simp only [execOp, hx, Sem.run_bind, hr, Result.andThen_ok, Sem.run_pure]
theorem y_next {m r since : Nat} {x : Operand} {seen : Array Nat} {es : List Ent} (hs : St σ w L) (hx : ρ x = .pointer (some ⟨r, 0, none⟩)) (tk : Take (mapA m es since) L R) (hok : MOk es since)
    (up : ∀ s' : Array Nat, ∃ L', Up (blk r (.mapIter (some m) since seen since)) (blk r (.mapIter (some m) since s' since)) L L' ∧ (∀ w', St σ w' L' → ∀ e ∈ es, s' = seen.push e.born → e.born ∉ seen.toList → K (.tuple #[.bool true, .int .i64 (e.sec : Int), e.val]) w'))
    (hno : (∀ e ∈ es, e.born ∈ seen.toList) → K (.tuple #[.bool false]) w) : Does P ρ ⟨d, .next x false, ty, pos, after, g⟩ w K := by
  have hb := hs.blk_at tk
  obtain ⟨L0, u0, _⟩ := up seen
  obtain ⟨R0, t1, _⟩ := u0.takes
  have hr := hs.blk_at t1
  have hold : ∀ y ∈ (es.map Ent.mem).toArray.toList, y.born < since := by
    intro y hy
    simp only [List.mem_map] at hy
    obtain ⟨e, he, rfl⟩ := hy
    exact hok.born e he
  rcases run_next_at (P := P) w ty r m since since seen (es.map Ent.mem).toArray since hr hb hold (Nat.le_refl _) with ⟨h1, h2⟩ | ⟨e, he, w1, hw1, h2⟩
  · refine .value (v := .tuple #[.bool false]) (w' := w) (by simp only [execOp, hx, Sem.run_bind, h2, Result.andThen_ok, Sem.run_pure]) (hno fun e he => ?_)
    have hemp : leftOf (es.map Ent.mem).toArray seen = #[] := Array.eq_empty_of_size_eq_zero h1
    unfold leftOf at hemp
    rw [Array.filter_eq_empty_iff] at hemp
    have := hemp e.mem (by simp; exact ⟨e, he, rfl⟩)
    simpa [Ent.mem] using this
  · unfold leftOf at he
    simp only [Array.toList_filter, List.mem_filter, List.mem_map] at he
    obtain ⟨⟨e', he', rfl⟩, hns⟩ := he
    obtain ⟨L', u, hk⟩ := up (seen.push e'.born)
    refine .value (v := .tuple #[.bool true, .int .i64 (e'.sec : Int), e'.val]) (w' := ChangeMaps.setBlock w1 r (.mapIter (some m) since (seen.push e'.born) since)) ?_ (hk _ ?_ e' he' rfl (by simpa [Ent.mem] using hns))
    · simp only [execOp, hx, Sem.run_bind, h2, Result.andThen_ok, Sem.run_pure, Ent.mem]
    · have hs1 : St σ w1 L := by rcases hw1 with rfl | rfl; exact hs; exact hs.same rfl rfl rfl rfl
      exact hs1.wrote_at u (setObj_wrote (hs1.blk_at t1))
end
def szC (l : List Nat) : List Value := l.map fun n : Nat => Value.int .i64 (n : Int)
def rpF (p : Pt) : List Value := [.int .i64 ((p.1 / 512 : Nat) : Int), .int .i64 (p.1 : Int), p.2.1]
structure DM where
  v1 : Value
  v2 : Value
  m : Nat
  v4 : Value
  es : List Ent
  clock : Nat
abbrev dcell (T p : Nat) (s : DS) (x : DM) : Asrt := cb p T [.int .i64 s.room, x.v1, x.v2, .map (some x.m), x.v4, .int .i64 (s.calls : Int), .int .i64 s.fuse, .bool s.dead]
def diskA (T Q U I p : Nat) (s : DS) : Asrt := ex fun x : DM => star (pure_ (MOk x.es x.clock ∧ Grp x.es s.pcs)) (star (dcell T p s x) (star (slB U x.v1 s.now) (star (slB U x.v2 s.dur) (star (mapA x.m x.es x.clock) (star (entsA Q U x.es) (sl I 1 x.v4 s.sizes.length (szC s.sizes)))))))
structure RM where
  v1 : Value
  v2 : Value
  v3 : Value
  v4 : Value
  ps : List Pt
abbrev rcell (T p : Nat) (s : DS) (x : RM) : Asrt := cb p T [.int .i64 s.room, x.v1, x.v2, x.v3, x.v4, .int .i64 (s.calls : Int), .int .i64 s.fuse, .bool (!s.dead)]
def refA (T Q U I p : Nat) (s : DS) : Asrt := ex fun x : RM => star (pure_ (x.ps.map pcOf = s.pcs)) (star (rcell T p s x) (star (slB U x.v1 s.now) (star (slB U x.v2 s.dur) (star (sl Q 3 x.v3 x.ps.length (x.ps.flatMap rpF)) (star (datA U x.ps) (sl I 1 x.v4 s.sizes.length (szC s.sizes)))))))
section
variable {σ : Sig} {w : World} {R : List Asrt} {T Q U I p : Nat} {s : DS}
theorem pure_intro {A : Asrt} {q : Prop} (hq : q) (hs : St σ w (A :: R)) : St σ w (star (Vw.pure_ q) A :: R) := (hs.emp (A := Vw.pure_ q) (fun _ => hq)).unstar
theorem diskA_open (hs : St σ w (diskA T Q U I p s :: R)) : ∃ x : DM, MOk x.es x.clock ∧ Grp x.es s.pcs ∧
    St σ w (dcell T p s x :: slB U x.v1 s.now :: slB U x.v2 s.dur :: mapA x.m x.es x.clock :: entsA Q U x.es :: sl I 1 x.v4 s.sizes.length (szC s.sizes) :: R) := by
  obtain ⟨x, hs⟩ := hs.ex
  obtain ⟨⟨h1, h2⟩, hs⟩ := hs.pure_
  refine ⟨x, h1, h2, ?_⟩
  have h3 := hs.star
  have h4 := (h3.take (.there _ (.here _))).star
  have h5 := (h4.take (.there _ (.here _))).star
  have h6 := (h5.take (.there _ (.here _))).star
  have h7 := (h6.take (.there _ (.here _))).star
  -- entsA, sl, mapA, dur, now, cell
  exact ((((((h7.take (.there _ (.here _))).take (.there _ (.here _))).take (.there _ (.there _ (.here _)))).take (.there _ (.there _ (.there _ (.here _))))).take (.there _ (.there _ (.there _ (.there _ (.here _)))))).take (.there _ (.there _ (.there _ (.there _ (.there _ (.here _)))))))
theorem diskA_close {x : DM} (h1 : MOk x.es x.clock) (h2 : Grp x.es s.pcs)
    (hs : St σ w (dcell T p s x :: slB U x.v1 s.now :: slB U x.v2 s.dur :: mapA x.m x.es x.clock :: entsA Q U x.es :: sl I 1 x.v4 s.sizes.length (szC s.sizes) :: R)) : St σ w (diskA T Q U I p s :: R) := by
  -- bring to: entsA :: sl :: ...
  have h7 : St σ w (entsA Q U x.es :: sl I 1 x.v4 s.sizes.length (szC s.sizes) :: mapA x.m x.es x.clock :: slB U x.v2 s.dur :: slB U x.v1 s.now :: dcell T p s x :: R) :=
    ((((((hs.take (.here _)).take (.there _ (.here _))).take (.there _ (.there _ (.here _)))).take (.there _ (.there _ (.there _ (.here _))))).take (.there _ (.there _ (.there _ (.there _ (.there _ (.here _))))))).take (.there _ (.there _ (.there _ (.there _ (.there _ (.here _)))))))
  have h6 := (h7.unstar.take (.there _ (.here _))).unstar
  have h5 := (h6.take (.there _ (.here _))).unstar
  have h4 := (h5.take (.there _ (.here _))).unstar
  have h3 := (h4.take (.there _ (.here _))).unstar
  exact (pure_intro (And.intro h1 h2) h3).imp fun h hh => ⟨x, hh⟩
theorem refA_open (hs : St σ w (refA T Q U I p s :: R)) : ∃ x : RM, x.ps.map pcOf = s.pcs ∧
    St σ w (rcell T p s x :: slB U x.v1 s.now :: slB U x.v2 s.dur :: sl Q 3 x.v3 x.ps.length (x.ps.flatMap rpF) :: datA U x.ps :: sl I 1 x.v4 s.sizes.length (szC s.sizes) :: R) := by
  obtain ⟨x, hs⟩ := hs.ex
  obtain ⟨h1, hs⟩ := hs.pure_
  refine ⟨x, h1, ?_⟩
  have h3 := hs.star
  have h4 := (h3.take (.there _ (.here _))).star
  have h5 := (h4.take (.there _ (.here _))).star
  have h6 := (h5.take (.there _ (.here _))).star
  have h7 := (h6.take (.there _ (.here _))).star
  exact ((((((h7.take (.there _ (.here _))).take (.there _ (.here _))).take (.there _ (.there _ (.here _)))).take (.there _ (.there _ (.there _ (.here _))))).take (.there _ (.there _ (.there _ (.there _ (.here _)))))).take (.there _ (.there _ (.there _ (.there _ (.there _ (.here _)))))))
theorem refA_close {x : RM} (h1 : x.ps.map pcOf = s.pcs)
    (hs : St σ w (rcell T p s x :: slB U x.v1 s.now :: slB U x.v2 s.dur :: sl Q 3 x.v3 x.ps.length (x.ps.flatMap rpF) :: datA U x.ps :: sl I 1 x.v4 s.sizes.length (szC s.sizes) :: R)) : St σ w (refA T Q U I p s :: R) := by
  have h7 : St σ w (datA U x.ps :: sl I 1 x.v4 s.sizes.length (szC s.sizes) :: sl Q 3 x.v3 x.ps.length (x.ps.flatMap rpF) :: slB U x.v2 s.dur :: slB U x.v1 s.now :: rcell T p s x :: R) :=
    ((((((hs.take (.here _)).take (.there _ (.here _))).take (.there _ (.there _ (.here _)))).take (.there _ (.there _ (.there _ (.here _))))).take (.there _ (.there _ (.there _ (.there _ (.there _ (.here _))))))).take (.there _ (.there _ (.there _ (.there _ (.there _ (.here _)))))))
  have h6 := (h7.unstar.take (.there _ (.here _))).unstar
  have h5 := (h6.take (.there _ (.here _))).unstar
  have h4 := (h5.take (.there _ (.here _))).unstar
  have h3 := (h4.take (.there _ (.here _))).unstar
  exact (pure_intro h1 h3).imp fun h hh => ⟨x, hh⟩
end
end Vw

namespace Vw
open Go
theorem getD_spl (l : List UInt8) (o : Nat) (s : List UInt8) (h : o + s.length ≤ l.length) (x : Nat) : (spl l o s).getD x 0 = if o ≤ x ∧ x < o + s.length then s.getD (x - o) 0 else l.getD x 0 := by
  have e1 : (l.take o).length = o := by rw [List.length_take]; omega
  unfold spl
  simp only [List.getD_eq_getElem?_getD]
  by_cases h1 : x < o
  · rw [if_neg (by omega), List.append_assoc, List.getElem?_append_left (by omega), List.getElem?_take, if_pos h1]
  · by_cases h2 : x < o + s.length
    · rw [if_pos (by omega), List.getElem?_append_left (by rw [List.length_append]; omega), List.getElem?_append_right (by omega), e1]
    · rw [if_neg (by omega), List.getElem?_append_right (by rw [List.length_append]; omega), List.getElem?_drop, List.length_append, e1, show o + s.length + (x - (o + s.length)) = x by omega]
theorem getD_list {l m : List UInt8} (h : l.length = m.length) (hx : ∀ x, x < l.length → l.getD x 0 = m.getD x 0) : l = m := by
  apply List.ext_getElem h
  intro i h1 h2
  have := hx i h1
  simpa [List.getD_eq_getElem?_getD, h1, h2] using this
def covers (p : Pc) (x : Nat) : Prop := p.1 ≤ x ∧ x < p.1 + p.2.length
instance (p : Pc) (x : Nat) : Decidable (covers p x) := by unfold covers; infer_instance
def putP (out : List UInt8) (p : Pc) : List UInt8 := if p.1 < out.length then spl out p.1 (p.2.take (out.length - p.1)) else out
theorem putP_len (out : List UInt8) (p : Pc) : (putP out p).length = out.length := by
  unfold putP; split
  · exact spl_length _ _ _ (by simp; omega)
  · rfl
theorem vis_cons (p : Pc) (ps : List Pc) (x : Nat) (b : UInt8) : vis (p :: ps) x b = vis ps x (vis [p] x b) := rfl
theorem vis_one (p : Pc) (x : Nat) (b : UInt8) : vis [p] x b = if p.1 ≤ x ∧ x < p.1 + p.2.length then p.2.getD (x - p.1) 0 else b := rfl
theorem putP_get (out : List UInt8) (p : Pc) {x : Nat} (hx : x < out.length) : (putP out p).getD x 0 = vis [p] x (out.getD x 0) := by
  rw [vis_one]
  unfold putP
  by_cases h : p.1 < out.length
  · rw [if_pos h, getD_spl _ _ _ (by simp; omega)]
    simp only [List.length_take]
    by_cases h2 : p.1 ≤ x ∧ x < p.1 + p.2.length
    · rw [if_pos h2, if_pos (by omega)]
      simp only [List.getD_eq_getElem?_getD, List.getElem?_take]
      rw [if_pos (by omega)]
    · rw [if_neg h2, if_neg (by omega)]
  · rw [if_neg h, if_neg (by omega)]
def putsP (out : List UInt8) (ps : List Pc) : List UInt8 := ps.foldl putP out
theorem putsP_len : ∀ (ps : List Pc) (out : List UInt8), (putsP out ps).length = out.length
  | [], _ => rfl
  | p :: ps, out => by
    show (putsP (putP out p) ps).length = _
    rw [putsP_len, putP_len]
theorem putsP_get : ∀ (ps : List Pc) (out : List UInt8) {x : Nat}, x < out.length → (putsP out ps).getD x 0 = vis ps x (out.getD x 0)
  | [], _, _, _ => rfl
  | p :: ps, out, x, hx => by
    show (putsP (putP out p) ps).getD x 0 = _
    rw [putsP_get ps _ (by rw [putP_len]; exact hx), putP_get _ _ hx]; rfl
theorem putsP_take {ps : List Pc} {i : Nat} (h : i < ps.length) (out : List UInt8) : putsP out (ps.take (i + 1)) = putP (putsP out (ps.take i)) ps[i] := by
  unfold putsP; rw [List.take_succ_eq_append_getElem h, List.foldl_append]; rfl
theorem vis_other {room : Int} {sec x : Nat} (hx : x / 512 ≠ sec) : ∀ (ps : List Pc) (b : UInt8), (∀ p ∈ ps, PcOk room p ∧ p.1 / 512 = sec) → vis ps x b = b
  | [], _, _ => rfl
  | p :: ps, b, h => by
    rw [vis_cons, vis_other hx ps _ (fun q hq => h q (by simp [hq])), vis_one]
    obtain ⟨⟨h1, h2, h3⟩, h4⟩ := h p (by simp)
    have hl : 0 < p.2.length := List.length_pos_iff.2 h1
    rw [if_neg]
    intro hc
    omega
theorem secP_mem {ps : List Pc} {sec : Nat} {p : Pc} (h : p ∈ secP ps sec) : p ∈ ps ∧ p.1 / 512 = sec := by
  unfold secP at h
  rw [List.mem_filter] at h
  exact ⟨h.1, by simpa using h.2⟩
theorem keptP_ok {s : DS} (hs : DOk s) {c : Ch} {sec : Nat} {p : Pc} (h : p ∈ keptP s c sec) : PcOk s.room p ∧ p.1 / 512 = sec := by
  have := secP_mem (List.mem_of_mem_take h)
  exact ⟨hs.pcs p this.1, this.2⟩
theorem nodup_inj {α : Type} {f : α → Nat} : ∀ {l : List α}, (l.map f).Nodup → ∀ {a b : α}, a ∈ l → b ∈ l → f a = f b → a = b
  | x :: l, h, a, b, ha, hb, e => by
    rw [List.map_cons, List.nodup_cons] at h
    rcases List.mem_cons.1 ha with e1 | h1 <;> rcases List.mem_cons.1 hb with e2 | h2
    · rw [e1, e2]
    · exact (h.1 (List.mem_map.2 ⟨b, h2, by rw [← e, e1]⟩)).elim
    · exact (h.1 (List.mem_map.2 ⟨a, h1, by rw [e, e2]⟩)).elim
    · exact nodup_inj h.2 h1 h2 e
def seenS (es : List Ent) (seen : List Nat) (sec : Nat) : Prop := ∃ e ∈ es, e.sec = sec ∧ e.born ∈ seen
def Fnd (s : DS) (c : Ch) (es : List Ent) (seen : List Nat) (out : List UInt8) : Prop := out.length = outN s c ∧
  ∀ x, x < out.length → (seenS es seen (x / 512) → out.getD x 0 = vis (keptP s c (x / 512)) x (s.dur.getD x 0)) ∧ (¬ seenS es seen (x / 512) → out.getD x 0 = s.dur.getD x 0)
theorem fnd_step {s : DS} (hs : DOk s) {c : Ch} {es : List Ent} {clock : Nat} (hm : MOk es clock) {seen : List Nat} {out : List UInt8} (h : Fnd s c es seen out) {e : Ent} (he : e ∈ es) (hn : e.born ∉ seen) :
    Fnd s c es (seen ++ [e.born]) (putsP out (keptP s c e.sec)) := by
  have hinj : ∀ e' ∈ es, e'.sec = e.sec → e' = e := by
    intro e' he' h1
    have hnd := hm.secs
    exact nodup_inj (f := fun x : Ent => x.sec) hnd he' he h1
  have hinj2 : ∀ e' ∈ es, e'.born = e.born → e' = e := by
    intro e' he' h1
    have hnd := hm.borns
    exact nodup_inj (f := fun x : Ent => x.born) hnd he' he h1
  refine ⟨by rw [putsP_len]; exact h.1, fun x hx => ?_⟩
  rw [putsP_len] at hx
  rw [putsP_get _ _ hx]
  by_cases hx5 : x / 512 = e.sec
  · refine ⟨fun _ => ?_, fun h2 => absurd ⟨e, he, hx5.symm, by simp⟩ h2⟩
    rw [hx5, (h.2 x hx).2]
    rintro ⟨e', he', h1, h2⟩
    rw [hx5] at h1
    have := hinj e' he' h1
    subst this
    exact hn h2
  · rw [vis_other (sec := e.sec) hx5 _ _ (fun p hp => keptP_ok hs hp)]
    refine ⟨fun ⟨e', he', h1, h2⟩ => (h.2 x hx).1 ⟨e', he', h1, ?_⟩, fun h2 => (h.2 x hx).2 fun ⟨e', he', h3, h4⟩ => h2 ⟨e', he', h3, by simp [h4]⟩⟩
    rcases List.mem_append.1 h2 with h2 | h2
    · exact h2
    · exfalso
      have := hinj2 e' he' (by simpa using h2)
      subst this
      exact hx5 h1.symm
theorem fnd_end {s : DS} {c : Ch} {es : List Ent} {seen : List Nat} {out : List UInt8} (hg : Grp es s.pcs) (h : Fnd s c es seen out) (hall : ∀ e ∈ es, e.born ∈ seen) : out = outS s c := by
  refine getD_list (by rw [outS_length]; exact h.1) fun x hx => ?_
  have hx' : x < outN s c := by rw [← h.1]; exact hx
  have e1 : (outS s c).getD x 0 = vis (keptP s c (x / 512)) x (s.dur.getD x 0) := by
    unfold outS
    simp [List.getD_eq_getElem?_getD, hx']
  rw [e1]
  by_cases hin : ∃ e ∈ es, e.sec = x / 512
  · obtain ⟨e, he, h1⟩ := hin
    exact (h.2 x hx).1 ⟨e, he, h1, hall e he⟩
  · have h2 : secP s.pcs (x / 512) = [] := by rw [← hg]; exact eps_out fun e he h3 => hin ⟨e, he, h3⟩
    rw [(h.2 x hx).2 fun ⟨e, he, h3, _⟩ => hin ⟨e, he, h3⟩]
    unfold keptP
    rw [h2, List.take_nil]; rfl
theorem fnd_start (s : DS) (c : Ch) (es : List Ent) {out : List UInt8} (h1 : out.length = outN s c) (h2 : ∀ x, x < out.length → out.getD x 0 = s.dur.getD x 0) : Fnd s c es [] out :=
  ⟨h1, fun x hx => ⟨fun ⟨e, _, _, h⟩ => absurd h (by simp), fun _ => h2 x hx⟩⟩
theorem dur_start (s : DS) (n : Nat) {out : List UInt8} (h : out = spl (List.replicate n 0) 0 (s.dur.take (min s.dur.length n))) : out.length = n ∧ ∀ x, x < out.length → out.getD x 0 = s.dur.getD x 0 := by
  have hl : out.length = n := by rw [h, spl_length _ _ _ (by simp; omega)]; simp
  refine ⟨hl, fun x hx => ?_⟩
  rw [hl] at hx
  rw [h, getD_spl _ _ _ (by simp; omega)]
  simp only [List.length_take, List.getD_eq_getElem?_getD, List.getElem?_take, List.getElem?_replicate]
  by_cases hd : x < s.dur.length
  · rw [if_pos (by omega), if_pos (by omega)]; rfl
  · rw [if_neg (by omega), if_pos hx, List.getElem?_eq_none (by omega)]; rfl
def Fre (s : DS) (c : Ch) (i : Nat) (out : List UInt8) : Prop := out.length = outN s c ∧
  ∀ x, x < out.length → out.getD x 0 = vis ((secP (s.pcs.take i) (x / 512)).take (keepOf c (x / 512)).toNat) x (s.dur.getD x 0)
theorem secP_take_succ {ps : List Pc} {i : Nat} (h : i < ps.length) (sec : Nat) : secP (ps.take (i + 1)) sec = secP (ps.take i) sec ++ (if ps[i].1 / 512 = sec then [ps[i]] else []) := by
  rw [List.take_succ_eq_append_getElem h, secP_append]
  congr 1
  unfold secP
  by_cases h1 : ps[i].1 / 512 = sec <;> simp [h1]
theorem fre_put {s : DS} (hs : DOk s) {c : Ch} {i : Nat} {out : List UInt8} (hi : i < s.pcs.length) (h : Fre s c i out) (hk : ((secP (s.pcs.take i) (s.pcs[i].1 / 512)).length : Int) < keepOf c (s.pcs[i].1 / 512)) : Fre s c (i + 1) (putP out s.pcs[i]) := by
  refine ⟨by rw [putP_len]; exact h.1, fun x hx => ?_⟩
  rw [putP_len] at hx
  rw [putP_get _ _ hx, h.2 x hx, secP_take_succ hi]
  by_cases h5 : s.pcs[i].1 / 512 = x / 512
  · rw [if_pos h5]
    rw [h5] at hk
    rw [List.take_of_length_le (l := secP (s.pcs.take i) (x / 512) ++ [s.pcs[i]]) (by rw [List.length_append, List.length_singleton]; omega), List.take_of_length_le (l := secP (s.pcs.take i) (x / 512)) (by omega), vis_append]
  · rw [if_neg h5, List.append_nil]
    exact vis_other (room := s.room) (sec := s.pcs[i].1 / 512) (Ne.symm h5) [s.pcs[i]] _ (fun p hp => by simp at hp; subst hp; exact ⟨hs.pcs _ (List.getElem_mem hi), rfl⟩)
theorem fre_skip {s : DS} {c : Ch} {i : Nat} {out : List UInt8} (hi : i < s.pcs.length) (h : Fre s c i out) (hk : keepOf c (s.pcs[i].1 / 512) ≤ ((secP (s.pcs.take i) (s.pcs[i].1 / 512)).length : Int)) : Fre s c (i + 1) out := by
  refine ⟨h.1, fun x hx => ?_⟩
  rw [h.2 x hx, secP_take_succ hi]
  by_cases h5 : s.pcs[i].1 / 512 = x / 512
  · rw [if_pos h5]
    rw [h5] at hk
    rw [List.take_append_of_le_length (by omega)]
  · rw [if_neg h5, List.append_nil]
theorem fre_end {s : DS} {c : Ch} {out : List UInt8} (h : Fre s c s.pcs.length out) : out = outS s c := by
  refine getD_list (by rw [outS_length]; exact h.1) fun x hx => ?_
  have hx' : x < outN s c := by rw [← h.1]; exact hx
  rw [h.2 x hx, List.take_length]
  unfold outS keptP
  simp [List.getD_eq_getElem?_getD, hx']
theorem fre_start {s : DS} {c : Ch} {out : List UInt8} (h1 : out.length = outN s c) (h2 : ∀ x, x < out.length → out.getD x 0 = s.dur.getD x 0) : Fre s c 0 out := ⟨h1, fun x hx => by simpa [secP, vis] using h2 x hx⟩
def Full (s : DS) : Prop := ∀ x, x < s.now.length → s.now.getD x 0 = vis (secP s.pcs (x / 512)) x (s.dur.getD x 0)
def Lst (s : DS) : Prop := s.sizes.getLastD s.dur.length = s.now.length
end Vw

namespace Vw
open Go
def Rdy (σ : Sig) (R : List Asrt) (v : Value) (l : List UInt8) : Prop := ∀ (w : World) (L : List Asrt), St σ w (L ++ R) → RdB (hp w) v l
theorem take_append {A : Asrt} {R R' : List Asrt} (tk : Take A R R') : ∀ L : List Asrt, Take A (L ++ R) (L ++ R')
  | [] => tk
  | C :: L => .there C (take_append tk L)
theorem Rdy.own {σ : Sig} {R R' : List Asrt} {T : Nat} {v : Value} {l : List UInt8} (tk : Take (slB T v l) R R') : Rdy σ R v l := fun w L hs => hs.rdB (take_append tk L) fun h => slB_rd
theorem Rdy.old {w0 : World} {R : List Asrt} {v : Value} {l : List UInt8} (h : RdB (hp w0) v l) : Rdy ⟨w0, None_⟩ R v l := fun w L hs => hs.oldB h
theorem Rdy.more {σ : Sig} {R : List Asrt} {v : Value} {l : List UInt8} (h : Rdy σ R v l) (A : List Asrt) : Rdy σ (A ++ R) v l := fun w L hs => h w (L ++ A) (by rw [List.append_assoc]; exact hs)
theorem Rdy.sub {σ : Sig} {R : List Asrt} {a : Option Addr} {n c : Nat} {l : List UInt8} (h : Rdy σ R (.slice a n c) l) (hn : l.length = n) {i j : Nat} (h1 : i ≤ j) (h2 : j ≤ n) : Rdy σ R (.slice (subA a c i 1) (j - i) (c - i)) ((l.drop i).take (j - i)) :=
  fun w L hs => (h w L hs).sub hn h1 h2
section
variable {P : Program} {ρ : Operand → Value} {K : Value → World → Prop} {w : World}
variable {d : Option Nat} {ty : TypeId} {pos : String} {after : Array Edge} {g : Option (Nat × Bool)}
variable {σ : Sig} {L R : List Asrt}
theorem slB_open {T n c b : Nat} {l : List UInt8} (hs1 : St σ w (slB T (.slice (some ⟨b, 0, none⟩) n c) l :: R)) (hl : l.length = n) :
    ∃ cur : List Value, n ≤ c ∧ c ≤ maxLen ∧ cur.length = c ∧ cur.take n = l.map u8v ∧ St σ w (cb b T cur :: R) := by
  replace hs1 : St σ w (ex (fun cur : List Value => star (pure_ (n ≤ c ∧ c ≤ maxLen ∧ cur.length = c * 1 ∧ cur.take (n * 1) = l.map u8v)) (cb b T cur)) :: R) := hs1.imp fun h hh => by
    obtain ⟨_, hh⟩ := hh
    rcases hh with ⟨e, _⟩ | ⟨b', cap, cur, e, h1, h2, h3, h4, h5⟩
    · cases e
    · injection e with e1 e2 e3
      injection e1 with e1
      injection e1 with e1
      subst e1 e3
      rw [hl] at h1 h4
      exact ⟨cur, fun _ => none, h, fun _ => .inl rfl, (fun k o e => by cases e), hle.refl _, ⟨h1, h2, h3, h4⟩, h5⟩
  obtain ⟨cur, hs1⟩ := hs1.ex
  obtain ⟨⟨h1, h2, h3, h4⟩, hs1⟩ := hs1.pure_
  simp only [Nat.mul_one] at h3 h4
  exact ⟨cur, h1, h2, h3, h4, hs1⟩
theorem y_copyAt {t u e by_ n c b o T dn dc : Nat} {z : Value} {x y : Operand} {l s : List UInt8} {sv : Value} (hs : St σ w L) (ht : SlT P t e 1 by_ z)
    (hx : ρ x = .slice (subA (some ⟨b, 0, none⟩) c o 1) dn dc) (hdn : dn = n - o) (hy : ρ y = sv) (tk : Take (slB T (.slice (some ⟨b, 0, none⟩) n c) l) L R) (hr : RdB (hp w) sv s) (ho : o ≤ n) (hl : l.length = n)
    (h : ∀ w', St σ w' (slB T (.slice (some ⟨b, 0, none⟩) n c) (spl l o (s.take (min s.length (n - o)))) :: R) → K (.int .i64 (min s.length (n - o) : Nat)) w') :
    Does P ρ ⟨d, .call ⟨.builtin .copy, #[x, y], #[t, u]⟩, ty, pos, after, g⟩ w K := by
  subst hdn
  obtain ⟨cur, h1, h2, h3, h4, hs1⟩ := slB_open (hs.take tk) hl
  have hsub : ∃ p, subA (some (⟨b, 0, none⟩ : Addr)) c o 1 = some p ∧ (n - o ≠ 0 → p = ⟨b, o, none⟩) := by
    unfold subA
    by_cases hc : c = o
    · rw [if_pos hc]; exact ⟨_, rfl, fun h => by omega⟩
    · rw [if_neg hc]; exact ⟨_, rfl, fun _ => by simp [Addr.add]; omega⟩
  obtain ⟨p, hp1, hp2⟩ := hsub
  rw [hp1] at hx
  have hsl : (s.take (min s.length (n - o))).length = min s.length (n - o) := by rw [List.length_take]; omega
  refine y_copy (o := o) (sn := s.length) (xs := s.map u8v) (T := T) (vs := cur) hs1 ht hx hy hp2 hr (oneCell_of_bytes _) (.here _) (by omega) fun w' hs' => ?_
  refine h w' (hs'.imp fun hh hb => ?_)
  have hlen : (spl l o (s.take (min s.length (n - o)))).length = n := by rw [spl_length _ _ _ (by omega), hl]
  refine ⟨by simp, .inr ⟨b, c, _, by rw [hlen], by rw [hlen]; exact h1, h2, ?_, ?_, hb⟩⟩
  · simp; omega
  · rw [hlen, Nat.mul_one]
    have e1 : (cur.take o ++ (s.map u8v).take (min s.length (n - o)) ++ cur.drop (o + min s.length (n - o))).take n = (cur.take n).take o ++ (s.map u8v).take (min s.length (n - o)) ++ (cur.take n).drop (o + min s.length (n - o)) := by
      rw [List.take_append, List.take_append]
      have ea : (cur.take o).length = o := by rw [List.length_take]; omega
      have eb : ((s.map u8v).take (min s.length (n - o))).length = min s.length (n - o) := by rw [List.length_take, List.length_map]; omega
      rw [List.take_take, List.take_of_length_le (l := (s.map u8v).take _) (by rw [eb, ea]; omega), List.take_take, List.drop_take]
      rw [List.length_append, ea, eb, Nat.min_comm n o]
    rw [e1, h4]
    unfold spl
    rw [hsl]
    simp [List.map_take, List.map_drop]
theorem St.cutSl {T n c m : Nat} {a : Option Addr} {l : List UInt8} (hs : St σ w (slB T (.slice a n c) l :: R)) (hm : m ≤ l.length) : St σ w (slB T (.slice a m c) (l.take m) :: R) := hs.imp fun h hh => slB_take hh hm
end
theorem wrS_dead {s : DS} {off : Int} {data : List UInt8} (h : s.dead = true) : wrS s off data = (12, s) := by unfold wrS; rw [if_pos h]
theorem wrS_neg {s : DS} {off : Int} {data : List UInt8} (h : s.dead = false) (h1 : off < 0) : wrS s off data = (1, s) := by unfold wrS; rw [if_neg (by simp [h]), if_pos h1]
theorem wrS_big {s : DS} {off : Int} {data : List UInt8} (h : s.dead = false) (h1 : 0 ≤ off) (h2 : s.room < data.length ∨ s.room - data.length < off) : wrS s off data = (10, s) := by unfold wrS; rw [if_neg (by simp [h]), if_neg (by omega), if_pos h2]
theorem wrS_fuse {s : DS} {off : Int} {data : List UInt8} (h : s.dead = false) (h1 : 0 ≤ off) (h2 : off + data.length ≤ s.room) (h3 : s.fuse = 0) : wrS s off data = (12, spent s) := by unfold wrS; rw [if_neg (by simp [h]), if_neg (by omega), if_neg (by omega), if_pos h3]
theorem wrS_none {s : DS} {off : Int} {data : List UInt8} (h : s.dead = false) (h1 : 0 ≤ off) (h2 : off + data.length ≤ s.room) (h3 : s.fuse ≠ 0) (h4 : data = []) : wrS s off data = (0, spent s) := by unfold wrS; rw [if_neg (by simp [h]), if_neg (by omega), if_neg (by omega), if_neg h3, if_pos h4]
theorem wrS_some {s : DS} {off : Int} {data : List UInt8} (h : s.dead = false) (h1 : 0 ≤ off) (h2 : off + data.length ≤ s.room) (h3 : s.fuse ≠ 0) (h4 : data ≠ []) : wrS s off data = (0, sized (layW (spent s) off.toNat data) s.now.length) := by unfold wrS; rw [if_neg (by simp [h]), if_neg (by omega), if_neg (by omega), if_neg h3, if_neg h4]
theorem trS_dead {s : DS} {n : Int} (h : s.dead = true) : trS s n = (12, s) := by unfold trS; rw [if_pos h]
theorem trS_neg {s : DS} {n : Int} (h : s.dead = false) (h1 : n < 0) : trS s n = (1, s) := by unfold trS; rw [if_neg (by simp [h]), if_pos h1]
theorem trS_big {s : DS} {n : Int} (h : s.dead = false) (h1 : 0 ≤ n) (h2 : s.room < n) : trS s n = (10, s) := by unfold trS; rw [if_neg (by simp [h]), if_neg (by omega), if_pos h2]
theorem trS_fuse {s : DS} {n : Int} (h : s.dead = false) (h1 : 0 ≤ n) (h2 : n ≤ s.room) (h3 : s.fuse = 0) : trS s n = (12, spent s) := by unfold trS; rw [if_neg (by simp [h]), if_neg (by omega), if_neg (by omega), if_pos h3]
theorem trS_some {s : DS} {n : Int} (h : s.dead = false) (h1 : 0 ≤ n) (h2 : n ≤ s.room) (h3 : s.fuse ≠ 0) : trS s n = (0, sized (trN (spent s) n.toNat) s.now.length) := by unfold trS; rw [if_neg (by simp [h]), if_neg (by omega), if_neg (by omega), if_neg h3]
theorem syS_dead {s : DS} (h : s.dead = true) : syS s = (12, s) := by unfold syS; rw [if_pos h]
theorem syS_fuse {s : DS} (h : s.dead = false) (h3 : s.fuse = 0) : syS s = (12, spent s) := by unfold syS; rw [if_neg (by simp [h]), if_pos h3]
theorem syS_some {s : DS} (h : s.dead = false) (h3 : s.fuse ≠ 0) : syS s = (0, { spent s with dur := s.now, pcs := [], sizes := [] }) := by unfold syS; rw [if_neg (by simp [h]), if_neg h3]
theorem spent_0 {s : DS} (h : s.fuse = 0) : spent s = { s with dead := true } := by unfold spent; rw [if_pos h]
theorem spent_pos {s : DS} (h : 0 < s.fuse) : spent s = { s with fuse := s.fuse - 1, calls := s.calls + 1 } := by unfold spent; rw [if_neg (by omega), if_pos h]
theorem spent_neg {s : DS} (h : s.fuse < 0) : spent s = { s with calls := s.calls + 1 } := by unfold spent; rw [if_neg (by omega), if_neg (by omega)]
theorem sized_eq {s : DS} {n : Nat} (h : s.now.length = n) : sized s n = s := by unfold sized; rw [if_neg (by simpa using h)]
theorem sized_ne {s : DS} {n : Nat} (h : s.now.length ≠ n) : sized s n = { s with sizes := s.sizes ++ [s.now.length] } := by unfold sized; rw [if_pos h]
theorem layW_hole {s : DS} {off : Nat} {data : List UInt8} (h : s.now.length < off) : layW s off data = layS s s.now.length (List.replicate (off - s.now.length) 0 ++ data) := by unfold layW; rw [if_pos h]
theorem layW_in {s : DS} {off : Nat} {data : List UInt8} (h : off ≤ s.now.length) : layW s off data = layS s off data := by unfold layW; rw [if_neg (by omega)]
theorem trC_up {s : DS} {n : Nat} (h : s.now.length < n) : trC s n = layS s s.now.length (List.replicate (n - s.now.length) 0) := by unfold trC; rw [if_pos h]
theorem trC_in {s : DS} {n : Nat} (h : n ≤ s.now.length) : trC s n = s := by unfold trC; rw [if_neg (by omega)]
theorem szC_append (l : List Nat) (n : Nat) : szC (l ++ [n]) = szC l ++ [.int .i64 (n : Int)] := by simp [szC]
theorem eps_len {es : List Ent} {pcs : List Pc} (h : Grp es pcs) (s : Nat) : (eps es s).length ≤ pcs.length := by rw [h]; unfold secP; exact List.length_filter_le _ _
end Vw
namespace Vw
open Go
theorem RdB.pre {h : Heaplet} {a : Option Addr} {n c : Nat} {l : List UInt8} (r : RdB h (.slice a n c) l) (hn : l.length = n) {j : Nat} (h2 : j ≤ n) : RdB h (.slice a j c) (l.take j) := by
  have h0 := RdB.sub (i := 0) (j := j) r hn (by omega) h2
  have e : subA a c 0 1 = a := by unfold subA; split <;> simp [Addr.add]
  rw [e] at h0
  simpa using h0
theorem Rdy.pre {σ : Sig} {R : List Asrt} {a : Option Addr} {n c : Nat} {l : List UInt8} (h : Rdy σ R (.slice a n c) l) (hn : l.length = n) {j : Nat} (h2 : j ≤ n) : Rdy σ R (.slice a j c) (l.take j) := fun w L hs => (h w L hs).pre hn h2
theorem Rdy.rest {σ : Sig} {R : List Asrt} {a : Option Addr} {n c : Nat} {l : List UInt8} (h : Rdy σ R (.slice a n c) l) (hn : l.length = n) {i : Nat} (h1 : i ≤ n) : Rdy σ R (.slice (subA a c i 1) (n - i) (c - i)) (l.drop i) := by
  have := h.sub hn h1 (Nat.le_refl n)
  rwa [List.take_of_length_le (by rw [List.length_drop]; omega)] at this
theorem grp_push {es es' : List Ent} {P : List Pc} {pc : Pc} (hg : Grp es P) (h1 : eps es' (pc.1 / 512) = eps es (pc.1 / 512) ++ [pc]) (h2 : ∀ s, s ≠ pc.1 / 512 → eps es' s = eps es s) : Grp es' (P ++ [pc]) := by
  intro s
  rw [secP_append]
  by_cases e : s = pc.1 / 512
  · subst e
    rw [h1, hg]
    simp [secP]
  · rw [h2 s e, hg]
    have : secP [pc] s = [] := by simp [secP]; omega
    rw [this, List.append_nil]
theorem push_form {σ : Sig} {w : World} {R : List Asrt} {Q T n : Nat} {v u : Value} {at_ : Nat} {d : List UInt8} {ps : List Pt} {xs : List Value} (hs : St σ w (sl Q 2 v n xs :: slB T u d :: datA T ps :: R)) (hn : n = (ps ++ [((at_, u, d) : Pt)]).length) (hx : xs = (ps ++ [((at_, u, d) : Pt)]).flatMap pcF) :
    St σ w (sl Q 2 v (ps ++ [((at_, u, d) : Pt)]).length ((ps ++ [((at_, u, d) : Pt)]).flatMap pcF) :: datA T (ps ++ [((at_, u, d) : Pt)]) :: R) := by
  subst hn hx
  have h1 : St σ w (datA T ps :: slB T u d :: sl Q 2 v (ps ++ [((at_, u, d) : Pt)]).length ((ps ++ [((at_, u, d) : Pt)]).flatMap pcF) :: R) := (hs.take (.there _ (.here _))).take (.there _ (.there _ (.here _)))
  exact (datA_push (p := (at_, u, d)) h1).take (.there _ (.here _))
end Vw
namespace Vw
open Go
theorem St.ofBb {σ : Sig} {w : World} {R : List Asrt} {b T n : Nat} {l : List UInt8} (hs : St σ w (bb b T l :: R)) (hn : l.length = n) (hm : n ≤ 281474976710656) : St σ w (slB T (.slice (some ⟨b, 0, none⟩) n n) l :: R) := by
  subst hn
  refine hs.imp fun h hb => ?_
  have h9 := slB_of_bb (n := l.length) (Nat.le_refl _) (by rw [maxLen_eq]; omega) hb
  rwa [List.take_length] at h9
end Vw

namespace Vw
open Go
def RdyS {α : Type} (f : α → List Value) (sz : Nat) (σ : Sig) (R : List Asrt) (v : Value) (l : List α) : Prop := ∀ (w : World) (L : List Asrt), St σ w (L ++ R) → RdS f sz (hp w) v l
theorem RdyS.old {α : Type} {f : α → List Value} {sz : Nat} {w0 : World} {R : List Asrt} {v : Value} {l : List α} (h : RdS f sz (hp w0) v l) : RdyS f sz ⟨w0, None_⟩ R v l := fun w L hs => hs.old h
theorem RdyS.own {α : Type} {f : α → List Value} {sz T : Nat} {σ : Sig} {R R' : List Asrt} {v : Value} {l : List α} (tk : Take (sl T sz v l.length (l.flatMap f)) R R') : RdyS f sz σ R v l := fun w L hs => hs.rd (take_append tk L) fun h hh => sl_rd hh
def iF (n : Int) : List Value := [.int .i64 n]
theorem RdS.pre {α : Type} {f : α → List Value} {sz : Nat} (hf : ∀ x, (f x).length = sz) {h : Heaplet} {a : Option Addr} {c : Nat} {l : List α} (r : RdS f sz h (.slice a l.length c) l) {m : Nat} (hm : m ≤ l.length) : RdS f sz h (.slice a m c) (l.take m) := by
  have h0 := RdC.sub (l := 0) (m := m) r (by omega) hm
  have e : subA a c 0 sz = a := by unfold subA; split <;> simp [Addr.add]
  rw [e] at h0
  have hlen : ∀ l : List α, (l.flatMap f).length = l.length * sz := by
    intro l
    induction l with
    | nil => simp
    | cons z l ih => simp only [List.flatMap_cons, List.length_append, hf, List.length_cons, Nat.succ_mul, ih]; omega
  have e2 : (l.flatMap f).take (m * sz) = (l.take m).flatMap f := by
    conv => lhs; rw [← List.take_append_drop m l, List.flatMap_append]
    have e3 : ((l.take m).flatMap f).length = m * sz := by rw [hlen, List.length_take, Nat.min_eq_left hm]
    rw [← e3, List.take_left]
  unfold RdS
  have e4 : (l.take m).length = m := by rw [List.length_take]; omega
  rw [e4, ← e2]
  simpa using h0
theorem RdC.get {h : Heaplet} {a : Addr} {sz n c : Nat} {xs : List Value} (r : RdC h (.slice (some a) n c) sz n xs) {j : Nat} {u : Value} (hj : xs[j]? = some u) : cellH h (a.add j) = some u := by
  rcases r.2 with ⟨c', e, hn⟩ | ⟨a', c', e, _, hc⟩
  · cases e
  · cases e; exact hc j u hj
theorem RdC.some {h : Heaplet} {a : Option Addr} {sz n c : Nat} {xs : List Value} (r : RdC h (.slice a n c) sz n xs) (hn : 0 < n) : ∃ a', a = some a' := by
  rcases r.2 with ⟨c', e, h0⟩ | ⟨a', c', e, _⟩
  · omega
  · cases e; exact ⟨a', rfl⟩
theorem RdC.cap {h : Heaplet} {a : Option Addr} {sz n c : Nat} {xs : List Value} (r : RdC h (.slice a n c) sz n xs) : n ≤ c := by
  rcases r.2 with ⟨c', e, hn⟩ | ⟨a', c', e, hc, _⟩
  · omega
  · injection e with e1 e2 e3; omega
theorem pcF_one {h : Heaplet} {p : Pt} (hp : RdB h p.2.1 p.2.2) : ∀ v ∈ pcF p, v.oneCell' = true := by
  obtain ⟨a, c, e⟩ := hp.shape
  intro v hv
  simp only [pcF, List.mem_cons, List.not_mem_nil, or_false] at hv
  rcases hv with rfl | rfl
  · rfl
  · rw [e]; rfl
theorem datA_rd {T : Nat} : ∀ (ps : List Pt) (h : Heaplet), datA T ps h → ∀ p ∈ ps, RdB h p.2.1 p.2.2
  | [], _, _, p, hp => absurd hp (by simp)
  | q :: ps, h, hh, p, hp => by
    obtain ⟨h1, h2, _, l1, l2, a1, a2⟩ := hh
    rcases List.mem_cons.1 hp with rfl | hp
    · exact RdC.mono l1 (slB_rd a1)
    · exact RdC.mono l2 (datA_rd ps h2 a2 p hp)
theorem entsA_rd {Q T : Nat} : ∀ (es : List Ent) (h : Heaplet), entsA Q T es h → ∀ e ∈ es, (∃ a c, e.val = .slice a e.ps.length c) ∧ RdS pcF 2 h e.val e.ps ∧ ∀ p ∈ e.ps, RdB h p.2.1 p.2.2
  | [], _, _, e, he => absurd he (by simp)
  | x :: es, h, hh, e, he => by
    obtain ⟨h1, h2, _, l1, l2, a1, a2⟩ := hh
    rcases List.mem_cons.1 he with rfl | he
    · obtain ⟨h3, h4, _, l3, l4, a3, a4⟩ := a1
      refine ⟨?_, RdC.mono (l3.trans l1) (sl_rd a3), fun p hp => RdC.mono (l4.trans l1) (datA_rd _ h4 a4 p hp)⟩
      rcases a3.2 with ⟨e1, hn⟩ | ⟨b, cap, cur, e1, _⟩
      · exact ⟨none, 0, by rw [e1, hn]⟩
      · exact ⟨_, cap, e1⟩
    · obtain ⟨b1, b2, b3⟩ := entsA_rd es h2 a2 e he
      exact ⟨b1, RdC.mono l2 b2, fun p hp => RdC.mono l2 (b3 p hp)⟩
theorem St.ents {σ : Sig} {w : World} {L R : List Asrt} {Q T : Nat} {es : List Ent} (hs : St σ w L) (tk : Take (entsA Q T es) L R) {e : Ent} (he : e ∈ es) :
    (∃ a c, e.val = .slice a e.ps.length c) ∧ RdS pcF 2 (hp w) e.val e.ps ∧ ∀ p ∈ e.ps, RdB (hp w) p.2.1 p.2.2 := by
  refine (hs.take tk).see fun h hh hA => ?_
  obtain ⟨b1, b2, b3⟩ := entsA_rd es h hA e he
  exact ⟨b1, RdC.mono (fun k o e => hh k o e) b2, fun p hp => RdC.mono (fun k o e => hh k o e) (b3 p hp)⟩
theorem St.dats {σ : Sig} {w : World} {L R : List Asrt} {T : Nat} {ps : List Pt} (hs : St σ w L) (tk : Take (datA T ps) L R) {p : Pt} (hp' : p ∈ ps) : RdB (hp w) p.2.1 p.2.2 := by
  refine (hs.take tk).see fun h hh hA => ?_
  exact RdC.mono (fun k o e => hh k o e) (datA_rd ps h hA p hp')
section
variable {P : Program} {ρ : Operand → Value} {K : Value → World → Prop} {w : World}
variable {d : Option Nat} {ty : TypeId} {pos : String} {after : Array Edge} {g : Option (Nat × Bool)}
variable {σ : Sig} {L L' R R' : List Asrt}
def nxt (b : Bool) (e : Ent) : Array Value := if b then #[.bool true, .int .i64 (e.sec : Int), e.val] else #[.bool false]
def sn (b : Bool) (e : Ent) (seen : Array Nat) : Array Nat := if b then seen.push e.born else seen
theorem nxt_0 (b : Bool) (e : Ent) : (nxt b e)[0]? = some (.bool b) := by cases b <;> rfl
theorem y_nextB {m r since : Nat} {x : Operand} {seen : Array Nat} {es : List Ent} (hs : St σ w (blk r (.mapIter (some m) since seen since) :: R)) (hx : ρ x = .pointer (some ⟨r, 0, none⟩)) (tk : Take (mapA m es since) R R') (hok : MOk es since)
    (h : ∀ (b : Bool) (e : Ent) (w' : World), St σ w' (blk r (.mapIter (some m) since (sn b e seen) since) :: R) → (b = true → e ∈ es ∧ e.born ∉ seen.toList) → (b = false → ∀ e ∈ es, e.born ∈ seen.toList) → K (.tuple (nxt b e)) w') :
    Does P ρ ⟨d, .next x false, ty, pos, after, g⟩ w K := by
  refine y_next hs hx (.there _ tk) hok (fun s' => ⟨_, .here _, fun w' hs' e he h1 h2 => ?_⟩) (fun hall => ?_)
  · subst h1
    exact h true e w' hs' (fun _ => ⟨he, h2⟩) (fun h => by cases h)
  · exact h false ⟨0, 0, .slice none 0 0, []⟩ w hs (fun h => by cases h) (fun _ => hall)
theorem x_entry {m r since clock : Nat} {x : Operand} {seen : Array Nat} {es : List Ent} {e : Ent} (hx : ρ x = .pointer (some ⟨r, 0, none⟩)) (hr : w.heap[r]? = some (.mapIter (some m) since (seen.push e.born) clock)) (hb : w.heap[m]? = some (.map (es.map Ent.mem).toArray clock)) (he : e ∈ es) (hok : MOk es clock) :
    (execOp ρ ⟨d, .entry x, ty, pos, after, g⟩).run P w = .ok (.value (.tuple #[.int .i64 (e.sec : Int), e.val])) w := by
  have hn : ((es.map Ent.mem).toArray.toList.map (·.born)).Nodup := by
    have := hok.borns
    simpa [Ent.mem, Function.comp_def] using this
  have hrun := run_entry_at (P := P) w r m since seen (es.map Ent.mem).toArray clock e.mem (by simpa [Ent.mem] using hr) hb (by simp; exact ⟨e, he, rfl⟩) hn
  simp only [execOp, hx, Sem.run_bind, hrun, Result.andThen_ok, Sem.run_pure, Ent.mem]
theorem x_loadC {t T n c : Nat} {x : Operand} {a : Addr} {xs : List Value} {i : Int} {u : Value} (hs : St σ w L) (ht : ScT P t) (tk : Take (sl T 1 (.slice (some a) n c) n xs) L R) (hx : ρ x = .pointer (some (a.add (i.toNat * 1)))) (hi : xs[i.toNat]? = some u) :
    (execOp ρ ⟨d, .load t x, ty, pos, after, g⟩).run P w = .ok (.value u) w :=
  x_load ht hx (by rw [Nat.mul_one, cell_hp]; exact (hs.rd tk fun h hh => sl_rd hh).get hi)
theorem x_loadI {t c n : Nat} {x : Operand} {a : Addr} {l : List Int} {i : Int} (ht : ScT P t) (hr : RdS iF 1 (hp w) (.slice (some a) n c) l) (hn : l.length = n) (hx : ρ x = .pointer (some (a.add (i.toNat * 1)))) (hi : i.toNat < l.length) :
    (execOp ρ ⟨d, .load t x, ty, pos, after, g⟩).run P w = .ok (.value (.int .i64 l[i.toNat])) w := by
  subst hn
  refine x_load ht hx ?_
  rw [Nat.mul_one, cell_hp]
  have h1 : (l.flatMap iF)[i.toNat * 1 + 0]? = (iF l[i.toNat])[0]? := flatMap_get (sz := 1) (fun _ => rfl) l _ _ hi (by decide)
  refine RdC.get hr ?_
  rw [Nat.mul_one, Nat.add_zero] at h1
  rw [h1]
  rfl
end
theorem unseen_lt {es : List Ent} {seen : Array Nat} {e : Ent} (he : e ∈ es) (hn : e.born ∉ seen.toList) :
    (es.filter fun x => decide (x.born ∉ (seen.push e.born).toList)).length < (es.filter fun x => decide (x.born ∉ seen.toList)).length :=
  filter_lt (fun x => decide (x.born ∉ seen.toList)) (fun x => decide (x.born ∉ (seen.push e.born).toList)) (fun x hx => by simp at hx ⊢; exact hx.1) e (by simpa using hn) (by simp) es he
theorem kept_eq {s : DS} {c : Ch} {es : List Ent} {e : Ent} {clock : Nat} (hm : MOk es clock) (hg : Grp es s.pcs) (he : e ∈ es) : keptP s c e.sec = (e.ps.map pcOf).take (keepOf c e.sec).toNat := by
  unfold keptP
  rw [← hg]
  obtain ⟨pre, post, rfl⟩ := List.append_of_mem he
  rw [eps_in]
  intro x hx
  have hnd := hm.secs
  rw [List.map_append, List.nodup_append] at hnd
  exact hnd.2.2 x.sec (List.mem_map_of_mem hx) e.sec (by simp)
theorem take_min {α : Type} (l : List α) (n : Nat) : l.take (min l.length n) = l.take n := by
  rcases Nat.le_total l.length n with h | h
  · rw [Nat.min_eq_left h, List.take_length, List.take_of_length_le h]
  · rw [Nat.min_eq_right h]
theorem putP_in {out : List UInt8} {p : Pc} (h : p.1 < out.length) : putP out p = spl out p.1 (p.2.take (min p.2.length (out.length - p.1))) := by unfold putP; rw [if_pos h, take_min]
theorem putP_out {out : List UInt8} {p : Pc} (h : out.length ≤ p.1) : putP out p = out := by unfold putP; rw [if_neg (by omega)]
theorem outN_some {s : DS} {c : Ch} (h : 0 < szIx s c) : outN s c = s.sizes.getD ((szIx s c).toNat - 1) 0 := by unfold outN; rw [if_pos h]
theorem outN_none {s : DS} {c : Ch} (h : ¬ 0 < szIx s c) : outN s c = s.dur.length := by unfold outN; rw [if_neg h]
theorem keepOf_in {c : Ch} {sec : Nat} (h : sec < c.2.1.length) : keepOf c sec = c.2.1[sec] := by unfold keepOf; rw [dif_pos h]
theorem keepOf_out {c : Ch} {sec : Nat} (h : ¬ sec < c.2.1.length) : keepOf c sec = c.2.2 := by unfold keepOf; rw [dif_neg h]
theorem szC_get {l : List Nat} {i : Nat} (h : i < l.length) : (szC l)[i]? = some (.int .i64 ((l.getD i 0 : Nat) : Int)) := by simp [szC, h]
end Vw
namespace Vw
open Go
theorem subA_at {b c o : Nat} (h : o < c) : subA (some (⟨b, 0, none⟩ : Addr)) c o 1 = some ⟨b, o, none⟩ := by
  unfold subA
  rw [if_neg (by omega)]
  unfold Addr.add
  simp
  intro h; exact h.symm
end Vw
namespace Vw
open Go
theorem eps_mem {es : List Ent} {e : Ent} {clock : Nat} (hm : MOk es clock) (he : e ∈ es) : eps es e.sec = e.ps.map pcOf := by
  obtain ⟨pre, post, rfl⟩ := List.append_of_mem he
  refine eps_in ?_
  intro x hx
  have hnd := hm.secs
  rw [List.map_append, List.nodup_append] at hnd
  exact hnd.2.2 x.sec (List.mem_map_of_mem hx) e.sec (by simp)
theorem ps_len {es : List Ent} {pcs : List Pc} {e : Ent} {clock : Nat} (hm : MOk es clock) (hg : Grp es pcs) (he : e ∈ es) : e.ps.length ≤ pcs.length := by
  have h1 := eps_len hg e.sec
  rw [eps_mem hm he, List.length_map] at h1
  exact h1
end Vw

namespace Vw
open Go
theorem sl_blk {σ : Sig} {w : World} {R : List Asrt} {T sz n c : Nat} {a : Option Addr} {xs : List Value} (hs : St σ w (sl T sz (.slice a n c) n xs :: R)) (hn : 0 < n) : ∃ b, a = some ⟨b, 0, none⟩ := by
  refine hs.see (p := ∃ b, a = some ⟨b, 0, none⟩) fun h _ hh => ?_
  rcases hh.2 with ⟨e, h0⟩ | ⟨b, cap, cur, e, _⟩
  · omega
  · cases e; exact ⟨b, rfl⟩
def cntC (pcs : List Pc) (i L : Nat) : List Value := (List.range L).map fun sec => Value.int .i64 ((secP (pcs.take i) sec).length : Int)
theorem cntC_len (pcs : List Pc) (i L : Nat) : (cntC pcs i L).length = L := by simp [cntC]
theorem cntC_get (pcs : List Pc) (i : Nat) {L sec : Nat} (h : sec < L) : (cntC pcs i L)[sec]? = some (.int .i64 ((secP (pcs.take i) sec).length : Int)) := by simp [cntC, h]
theorem cntC_0 (pcs : List Pc) (L : Nat) : (madeCells (Value.int .i64 0).cells (L * 1)).toList = cntC pcs 0 L := by
  apply List.ext_getElem?
  intro i
  simp only [madeCells, cntC, List.take_zero]
  by_cases h : i < L
  · simp [h, Value.cells, Nat.mod_one, secP]
  · simp [h]
theorem cntC_set (pcs : List Pc) {i L : Nat} (hi : i < pcs.length) {sec : Nat} (hs : sec = pcs[i].1 / 512) (hl : sec < L) :
    (cntC pcs i L).set sec (.int .i64 (((secP (pcs.take i) sec).length : Int) + 1)) = cntC pcs (i + 1) L := by
  apply List.ext_getElem?
  intro j
  rw [List.getElem?_set]
  by_cases hj : sec = j
  · subst hj
    rw [if_pos rfl, if_pos (by rw [cntC_len]; exact hl), cntC_get _ _ hl, secP_take_succ hi, if_pos hs.symm]
    simp
  · rw [if_neg hj]
    by_cases h2 : j < L
    · rw [cntC_get _ _ h2, cntC_get _ _ h2, secP_take_succ hi, if_neg (by omega), List.append_nil]
    · rw [List.getElem?_eq_none (by rw [cntC_len]; omega), List.getElem?_eq_none (by rw [cntC_len]; omega)]
theorem putP_step {out data : List UInt8} {at_ j : Nat} (h1 : at_ + j < out.length) (hj : j < data.length) : (putP out (at_, data.take j)).set (at_ + j) data[j] = putP out (at_, data.take (j + 1)) := by
  refine getD_list (by rw [List.length_set, putP_len, putP_len]) fun x hx => ?_
  rw [List.length_set, putP_len] at hx
  rw [putP_get _ _ hx, vis_one]
  have e0 : ((putP out (at_, data.take j)).set (at_ + j) data[j]).getD x 0 = if at_ + j = x then data[j] else (putP out (at_, data.take j)).getD x 0 := by
    simp only [List.getD_eq_getElem?_getD, List.getElem?_set]
    by_cases e : at_ + j = x
    · rw [if_pos e, if_pos e, if_pos (by rw [putP_len]; omega)]; rfl
    · rw [if_neg e, if_neg e]
  rw [e0]
  simp only [List.length_take]
  by_cases e : at_ + j = x
  · rw [if_pos e, if_pos (by omega)]
    simp only [List.getD_eq_getElem?_getD, List.getElem?_take]
    rw [if_pos (by omega), show x - at_ = j by omega, List.getElem?_eq_getElem hj]; rfl
  · rw [if_neg e, putP_get _ _ hx, vis_one]
    simp only [List.length_take]
    by_cases h2 : at_ ≤ x ∧ x < at_ + min j data.length
    · rw [if_pos h2, if_pos (by omega)]
      simp only [List.getD_eq_getElem?_getD, List.getElem?_take]
      rw [if_pos (by omega), if_pos (by omega)]
    · rw [if_neg h2, if_neg (by omega)]
theorem putP_stop {out data : List UInt8} {at_ j : Nat} (h : data.length ≤ j ∨ out.length ≤ at_ + j) : putP out (at_, data.take j) = putP out (at_, data) := by
  rcases h with h | h
  · rw [List.take_of_length_le h]
  · unfold putP
    simp only
    by_cases h2 : at_ < out.length
    · rw [if_pos h2, if_pos h2, List.take_take, Nat.min_eq_left (by omega)]
    · rw [if_neg h2, if_neg h2]
theorem putP_zero (out : List UInt8) (at_ : Nat) (data : List UInt8) : putP out (at_, data.take 0) = out := by
  refine getD_list (putP_len _ _) fun x hx => ?_
  rw [putP_len] at hx
  rw [putP_get _ _ hx, vis_one, if_neg (by intro h9; simp at h9; try omega)]
theorem rpF_one {h : Heaplet} {p : Pt} (hp : RdB h p.2.1 p.2.2) : ∀ v ∈ rpF p, v.oneCell' = true := by
  obtain ⟨a, c, e⟩ := hp.shape
  intro v hv
  simp only [rpF, List.mem_cons, List.not_mem_nil, or_false] at hv
  rcases hv with rfl | rfl | rfl
  · rfl
  · rfl
  · rw [e]; rfl
theorem St.datRd {σ : Sig} {w : World} {L R : List Asrt} {T : Nat} {ps : List Pt} (hs : St σ w L) (tk : Take (datA T ps) L R) {i : Nat} (hi : i < ps.length) : RdB (hp w) ps[i].2.1 ps[i].2.2 := hs.dats tk (List.getElem_mem hi)
theorem pcs_get {ps : List Pt} {pcs : List Pc} (h : ps.map pcOf = pcs) {i : Nat} (hi : i < ps.length) : ∃ h2 : i < pcs.length, pcs[i] = (ps[i].1, ps[i].2.2) := by
  subst h
  refine ⟨by simpa using hi, ?_⟩
  rw [List.getElem_map]; rfl
theorem mem_take_get {α : Type} {p : α → Prop} {l : List α} {i : Nat} (hi : i < l.length) (h : ∀ q ∈ l.take i, p q) (h2 : p l[i]) : ∀ q ∈ l.take (i + 1), p q := by
  intro q hq
  rw [List.take_succ_eq_append_getElem hi, List.mem_append] at hq
  rcases hq with hq | hq
  · exact h q hq
  · simp at hq; subst hq; exact h2
end Vw
namespace Vw
open Go
theorem c_join {P : Program} {Q : Exit → Act → World → Prop} {a : Act} {w : World} {N : Nat} {c1 c2 : Code} {L0 : List (Nat × Value)} (I : List (Nat × Value) → World → Prop) (hk : Has N a L0)
    (h1 : c1.wp P (Exit.then (fun a' w' => ∃ M, I M w' ∧ Has N a' (M ++ L0)) Q) a w) (h2 : ∀ M a w, I M w → Has N a (M ++ L0) → c2.wp P Q a w) : (c1.seq c2).wp P Q a w := by
  refine wp_seq (wp_mono h1 fun e a' w' q => ?_)
  cases e with
  | normal => obtain ⟨M, hi, hf⟩ := q; exact h2 M a' w' hi hf
  | _ => exact q
end Vw

namespace Vw
open Go
abbrev DOp := Int × Int × Int × (Option Addr × Nat × List UInt8) × Int × (Option Addr × Nat × List Int) × Int
abbrev opD (o : DOp) : List UInt8 := o.2.2.2.1.2.2
abbrev opV (o : DOp) : Value := .slice o.2.2.2.1.1 o.2.2.2.1.2.2.length o.2.2.2.1.2.1
abbrev opS (o : DOp) : List Int := o.2.2.2.2.2.1.2.2
abbrev opW (o : DOp) : Value := .slice o.2.2.2.2.2.1.1 o.2.2.2.2.2.1.2.2.length o.2.2.2.2.2.1.2.1
abbrev opC (o : DOp) : Ch := (o.2.2.2.2.1, o.2.2.2.2.2.1.2.2, o.2.2.2.2.2.2)
def opF (o : DOp) : List Value := [.int .i64 o.1, .int .i64 o.2.1, .int .i64 o.2.2.1, opV o, .int .i64 o.2.2.2.2.1, opW o, .int .i64 o.2.2.2.2.2.2]
structure DOpG (h : Heaplet) (o : DOp) : Prop where
  data : RdB h (opV o) (opD o)
  secs : RdS iF 1 h (opW o) (opS o)
  len : (opD o).length ≤ 1048576
  slen : (opS o).length ≤ 1048576
  b1 : -9223372036854775808 ≤ o.2.1 ∧ o.2.1 ≤ 9223372036854775807
def chS (s : DS) (o : DOp) : Int × DS := if o.1 = 2 then wrS s o.2.1 (opD o) else if o.1 = 3 then trS s o.2.1 else if o.1 = 4 then syS s else (0, s)
def csS (s : DS) (o : DOp) : DS := if o.1 = 5 then fuS s o.2.1 else (chS s o).2
def refI (room : Int) (o : DOp) : Int :=
  if o.1 = 2 then (if o.2.1 < 0 then 1 else if room < o.2.1 ∨ room - o.2.1 < ((opD o).length : Int) then 10 else 0)
  else if o.1 = 3 then (if o.2.1 < 0 then 1 else if room < o.2.1 then 10 else 0) else 0
theorem chS_ok {s : DS} (h : DOk s) (o : DOp) : DOk (chS s o).2 := by
  unfold chS; split
  · exact wrS_ok h _ _
  · split
    · exact trS_ok h _
    · split
      · exact syS_ok h
      · exact h
theorem chS_b {s : DS} (ho : DOk s) {k : Nat} (h : DB s k) (o : DOp) : DB (chS s o).2 (k + 1) := by
  unfold chS; split
  · exact wrS_b ho h _ _
  · split
    · exact trS_b ho h _
    · split
      · exact syS_b h
      · exact h.up (Nat.le_succ _)
theorem chS_2 {s : DS} {o : DOp} (h : o.1 = 2) : chS s o = wrS s o.2.1 (opD o) := by unfold chS; rw [if_pos h]
theorem chS_3 {s : DS} {o : DOp} (h : o.1 = 3) : chS s o = trS s o.2.1 := by unfold chS; rw [if_neg (by omega), if_pos h]
theorem chS_4 {s : DS} {o : DOp} (h : o.1 = 4) : chS s o = syS s := by unfold chS; rw [if_neg (by omega), if_neg (by omega), if_pos h]
structure Free (s : DS) : Prop where
  dead : s.dead = false
  fuse : s.fuse < 0
end Vw

namespace Vw
open Go
structure Torn (s : DS) (ms : List (List UInt8)) : Prop where
  full : ∀ x, s.now.getD x 0 = vis (secP s.pcs (x / 512)) x (s.dur.getD x 0)
  secs : ∀ sec k, k ≤ (secP s.pcs sec).length → ∃ m ∈ ms, ∀ x, x / 512 = sec → m.getD x 0 = vis ((secP s.pcs sec).take k) x (s.dur.getD x 0)
  szd : ∃ m ∈ ms, m.length = s.dur.length
  szs : ∀ z ∈ s.sizes, ∃ m ∈ ms, m.length = z
def mF (p : Pt) : List Value := [p.2.1]
theorem St.ofCb {σ : Sig} {w : World} {R : List Asrt} {b T sz n : Nat} {vs : List Value} (hs : St σ w (cb b T vs :: R)) (hn : vs.length = n * sz) (hm : n ≤ maxLen) : St σ w (sl T sz (.slice (some ⟨b, 0, none⟩) n n) n vs :: R) :=
  hs.imp fun h hb => ⟨hn, .inr ⟨b, n, vs, rfl, Nat.le_refl _, hm, hn, by rw [List.take_of_length_le (by omega)], hb⟩⟩
end Vw

namespace Vw
open Go
theorem St.or {σ : Sig} {w : World} {R : List Asrt} {A B : Asrt} (hs : St σ w ((fun h => A h ∨ B h) :: R)) : St σ w (A :: R) ∨ St σ w (B :: R) := by
  obtain ⟨h, hh, a, r, d, la, lr, ha, hr⟩ := hs.has
  rcases ha with ha | ha
  · exact .inl ⟨hs.kept, h, hh, a, r, d, la, lr, ha, hr⟩
  · exact .inr ⟨hs.kept, h, hh, a, r, d, la, lr, ha, hr⟩
def same2 (T sz : Nat) (v : Value) (n : Nat) (xs : List Value) (v' : Value) (n' : Nat) (xs' : List Value) : Asrt := fun h =>
  n ≤ n' ∧ xs = xs'.take (n * sz) ∧ ∃ b cap cur, v = .slice (some ⟨b, 0, none⟩) n cap ∧ v' = .slice (some ⟨b, 0, none⟩) n' cap ∧ n' ≤ cap ∧ cap ≤ maxLen ∧ cur.length = cap * sz ∧ cur.take (n' * sz) = xs' ∧ cb b T cur h
def two (T sz : Nat) (v : Value) (n : Nat) (xs : List Value) (v' : Value) (n' : Nat) (xs' : List Value) : Asrt := fun h =>
  star (sl T sz v n xs) (sl T sz v' n' xs') h ∨ same2 T sz v n xs v' n' xs' h
section
variable {P : Program} {ρ : Operand → Value} {K : Value → World → Prop} {w : World}
variable {d : Option Nat} {ty : TypeId} {pos : String} {after : Array Edge} {g : Option (Nat × Bool)}
variable {σ : Sig} {L L' R : List Asrt}
variable {T sz n n' : Nat} {v v' : Value} {xs xs' : List Value}
def twoB (T : Nat) (v : Value) (l : List UInt8) (v' : Value) (l' : List UInt8) : Asrt := two T 1 v l.length (l.map u8v) v' l'.length (l'.map u8v)
end
section
variable {σ : Sig} {w : World} {R : List Asrt} {T : Nat}
end
end Vw
namespace Vw
open Go
theorem bigS_pre : ∀ {L R : List Asrt} {h : Heaplet}, bigS (L ++ R) h → bigS L h
  | [], _, _, _ => trivial
  | A :: L, R, h, hh => star_mono (fun x hx => bigS_pre hx) hh
theorem St.keep {σ : Sig} {w : World} (L R : List Asrt) (hs : St σ w (L ++ R)) : St σ w L := by
  obtain ⟨h, hh, hb⟩ := hs.has
  exact ⟨hs.kept, h, hh, bigS_pre hb⟩
end Vw
namespace Vw
open Go
section
variable {P : Program} {ρ : Operand → Value}
variable {d : Option Nat} {ty : TypeId} {pos : String} {after : Array Edge} {g : Option (Nat × Bool)}
theorem x_fieldAddrG {s f off : Nat} {x : Operand} {p : Addr} (hf : FoT P s f off) (hx : ρ x = .pointer (some p)) (w : World) :
    (execOp ρ ⟨d, .fieldAddr s x f, ty, pos, after, g⟩).run P w = .ok (.value (.pointer (some (p.add off)))) w := by
  obtain ⟨fs, fld, k, h1, h2, h3, h4⟩ := hf.fits
  simp [execOp, Instr.fieldAt, Instr.sureAddr, fieldPlace, go_sem, hx, run_underlying h1, h2, h4, h3]
theorem x_loadF {α : Type} {f : α → List Value} {sz t n c k : Nat} {x : Operand} {p : Addr} {l : List α} {i : Int} {u : Value} {w : World} (ht : ScT P t) (hf : ∀ x, (f x).length = sz) (hr : RdS f sz (hp w) (.slice (some p) n c) l)
    (hx : ρ x = .pointer (some ((p.add (i.toNat * sz)).add k))) (hi : i.toNat < l.length) (hk : (f l[i.toNat])[k]? = some u) :
    (execOp ρ ⟨d, .load t x, ty, pos, after, g⟩).run P w = .ok (.value u) w := by
  refine x_load ht hx ?_
  rcases hr.2 with ⟨c', e, hn⟩ | ⟨a', c', e, _, hc⟩
  · omega
  · cases e
    rw [Addr_add_add, cell_hp]
    refine hc _ _ ?_
    rw [flatMap_get hf l _ _ hi (by have := (List.getElem?_eq_some_iff.1 hk).1; rw [hf] at this; exact this)]
    exact hk
end
end Vw

namespace Vw
open Go
def baseW (content : List UInt8) (n : Nat) : List UInt8 := content.take n ++ List.replicate (n - content.length) 0
theorem baseW_len (content : List UInt8) (n : Nat) : (baseW content n).length = n := by unfold baseW; simp; omega
theorem base_end {content : List UInt8} {n i : Nat} (h1 : i ≤ n) (h2 : i ≤ content.length) (h3 : i = n ∨ i = content.length) : content.take i ++ List.replicate (n - i) 0 = baseW content n := by
  unfold baseW
  rcases h3 with rfl | rfl
  · rw [Nat.sub_self, Nat.sub_eq_zero_of_le h2]
  · rw [List.take_length, List.take_of_length_le h1]
theorem base_spl (content : List UInt8) (n : Nat) : baseW content n = spl (List.replicate n (0 : UInt8)) 0 (content.take (min content.length n)) := by
  unfold spl baseW
  simp only [List.take_zero, List.nil_append, List.length_take, Nat.zero_add, List.drop_replicate]
  rw [show min (min content.length n) content.length = min content.length n by omega]
  by_cases h : content.length ≤ n
  · rw [Nat.min_eq_left h, List.take_length, List.take_of_length_le h]
  · rw [Nat.min_eq_right (by omega), show n - content.length = 0 by omega, Nat.sub_self]
theorem base_step {content : List UInt8} {n i : Nat} (h1 : i < n) (h2 : i < content.length) : (content.take i ++ List.replicate (n - i) 0).set i content[i] = content.take (i + 1) ++ List.replicate (n - (i + 1)) 0 := by
  have hl : (content.take i).length = i := by simp; omega
  rw [List.set_append_right _ _ (by omega), hl, Nat.sub_self]
  obtain ⟨q, hq⟩ : ∃ q, n - i = q + 1 := ⟨n - i - 1, by omega⟩
  rw [hq, show n - (i + 1) = q by omega, List.replicate_succ, List.set_cons_zero, List.take_succ_eq_append_getElem h2, List.append_assoc]
  rfl
def appW (l : List UInt8) (ws : List Wr) : List UInt8 := ws.foldl (fun l z => putP l (z.1.toNat, z.2.2.2)) l
theorem appW_len : ∀ (ws : List Wr) (l : List UInt8), (appW l ws).length = l.length
  | [], _ => rfl
  | z :: ws, l => by
    show (appW (putP l (z.1.toNat, z.2.2.2)) ws).length = _
    rw [appW_len ws, putP_len]
theorem appW_succ {l : List UInt8} {ws : List Wr} {i : Nat} (h : i < ws.length) : appW l (ws.take (i + 1)) = putP (appW l (ws.take i)) (ws[i].1.toNat, ws[i].2.2.2) := by
  unfold appW
  rw [List.take_succ_eq_append_getElem h, List.foldl_append]
  rfl
theorem putP_fit {out data : List UInt8} {at_ : Nat} (h : at_ + data.length ≤ out.length) (h0 : 0 < data.length) : putP out (at_, data) = spl out at_ data := by
  rw [putP_in (by show at_ < out.length; omega)]
  show spl out at_ (data.take (min data.length (out.length - at_))) = _
  rw [Nat.min_eq_left (by omega), List.take_length]
def aplE (cl : Nat) (size : Int) (ws : List Wr) : Int := if ¬ ((cl : Int) ≤ 16777216 ∧ 0 ≤ size ∧ size ≤ 16777216) then 1 else if rgt size ws 0 = false then 143 else 0
def aplR (content : List UInt8) (size : Int) (ws : List Wr) : List UInt8 := if aplE content.length size ws = 0 then appW (baseW content size.toNat) ws else []
theorem aplR_len (content : List UInt8) (size : Int) (ws : List Wr) : (aplR content size ws).length ≤ 16777216 := by
  unfold aplR
  split
  · rename_i h
    rw [appW_len, baseW_len]
    unfold aplE at h
    split at h
    · cases h
    · omega
  · simp
theorem at_addN (b k : Nat) : (⟨b, 0, none⟩ : Addr).add ((k : Int).toNat * 1) = ⟨b, k, none⟩ := by
  rw [Int.toNat_natCast, Nat.mul_one]; unfold Addr.add; split <;> simp_all
end Vw

namespace Vw
open Go
abbrev Sl := Int × Int × Int × Int × Int × Int × Nat
def slF (s : Sl) : List Value := [.int .i64 s.1, .int .i64 s.2.1, .int .i64 s.2.2.1, .int .i64 s.2.2.2.1, .int .i64 s.2.2.2.2.1, .int .i64 s.2.2.2.2.2.1, .int .u32 (s.2.2.2.2.2.2 : Int)]
def fldL (s : Sl) : List Int := [s.1, s.2.1, s.2.2.1, s.2.2.2.1, s.2.2.2.2.1, s.2.2.2.2.2.1, (s.2.2.2.2.2.2 : Int)]
def inF (v : Int) : Bool := decide (0 ≤ v ∧ v ≤ 4294967295)
def slOk (s : Sl) : Bool := decide (2 ≤ s.1 ∧ s.1 ≤ 4) && inF s.2.1 && inF s.2.2.1 && inF s.2.2.2.1 && inF s.2.2.2.2.1 && inF s.2.2.2.2.2.1
def MAG : List UInt8 := [86, 65, 76, 73, 83, 69, 74, 49]
def fb (l : List Int) : List UInt8 := l.flatMap fun v => leB 4 v.toNat
theorem fb_len : ∀ l : List Int, (fb l).length = 4 * l.length
  | [] => rfl
  | x :: l => by
    have := fb_len l
    unfold fb at this ⊢
    rw [List.flatMap_cons, List.length_append, leB_len, this, List.length_cons]; omega
def hdS (s : Sl) : List UInt8 := MAG ++ fb (fldL s)
theorem hdS_len (s : Sl) : (hdS s).length = 36 := by unfold hdS; rw [List.length_append, fb_len]; rfl
def hcS (s : Sl) : List UInt8 := hdS s ++ leB 4 (crcU 0 (hdS s))
theorem hcS_len (s : Sl) : (hcS s).length = 40 := by unfold hcS; rw [List.length_append, hdS_len, leB_len]
def secS (s : Sl) : List UInt8 := hcS s ++ List.replicate 472 0
theorem secS_len (s : Sl) : (secS s).length = 512 := by unfold secS; rw [List.length_append, hcS_len, List.length_replicate]
def encE (s : Sl) : Int := if slOk s = true then 0 else 1
def encV (s : Sl) : List UInt8 := if slOk s = true then secS s else []
theorem encV_len (s : Sl) : (encV s).length ≤ 512 := by unfold encV; split <;> simp [secS_len]
def puts (l : List Int) (d : List UInt8 × Int) : List UInt8 × Int := l.foldl (fun d v => numB d.1 512 d.2 v 4) d
theorem puts_succ {l : List Int} {i : Nat} (h : i < l.length) (d : List UInt8 × Int) : puts (l.take (i + 1)) d = numB (puts (l.take i) d).1 512 (puts (l.take i) d).2 l[i] 4 := by
  unfold puts
  rw [List.take_succ_eq_append_getElem h, List.foldl_append]
  rfl
theorem puts_stuck : ∀ (l : List Int) (d : List UInt8) (b : Int), b ≠ 0 → puts l (d, b) = (d, b)
  | [], _, _, _ => rfl
  | v :: l, d, b, h => by
    show puts l (numB d 512 b v 4) = _
    unfold numB
    rw [if_pos h]
    exact puts_stuck l d b h
theorem puts_ok : ∀ (l : List Int) (d : List UInt8), (∀ v ∈ l, inF v = true) → d.length + 4 * l.length ≤ 512 → puts l (d, 0) = (d ++ fb l, 0)
  | [], d, _, _ => by simp [puts, fb]
  | v :: l, d, h, hl => by
    have hv := of_decide_eq_true (h v (by simp))
    rw [List.length_cons] at hl
    show puts l (numB d 512 0 v 4) = _
    unfold numB
    rw [if_neg (by simp), if_neg (by omega), if_neg (by omega), puts_ok l _ (fun x hx => h x (by simp [hx])) (by rw [List.length_append, leB_len]; omega)]
    unfold fb
    rw [List.flatMap_cons, List.append_assoc]
theorem puts_good : ∀ (l : List Int) (d : List UInt8), d.length + 4 * l.length ≤ 512 → (puts l (d, 0)).2 = 0 → ∀ v ∈ l, inF v = true
  | [], _, _, _, v, hv => absurd hv (by simp)
  | x :: l, d, hl, h, v, hv => by
    rw [List.length_cons] at hl
    have hx : inF x = true := by
      by_cases hx : inF x = true
      · exact hx
      · exfalso
        have e : puts (x :: l) (d, 0) = puts l (numB d 512 0 x 4) := rfl
        rw [e] at h
        unfold numB at h
        have hx' : ¬ (0 ≤ x ∧ x ≤ 4294967295) := fun h9 => hx (decide_eq_true h9)
        rw [if_neg (by simp), if_pos (by omega), puts_stuck _ _ _ (by decide)] at h
        cases h
    rcases List.mem_cons.1 hv with rfl | hv
    · exact hx
    · have hv' := of_decide_eq_true hx
      have e : puts (x :: l) (d, 0) = puts l (numB d 512 0 x 4) := rfl
      rw [e] at h
      unfold numB at h
      rw [if_neg (by simp), if_neg (by omega), if_neg (by omega)] at h
      exact puts_good l _ (by rw [List.length_append, leB_len]; omega) h v hv
theorem slOk_flds {s : Sl} (hs : s.2.2.2.2.2.2 < 4294967296) (h1 : 2 ≤ s.1) (h2 : s.1 ≤ 4) : slOk s = true ↔ ∀ v ∈ fldL s, inF v = true := by
  unfold slOk fldL
  simp only [Bool.and_eq_true, decide_eq_true_eq, List.mem_cons, List.not_mem_nil, or_false, forall_eq_or_imp, forall_eq]
  constructor
  · rintro ⟨⟨⟨⟨⟨_, a1⟩, a2⟩, a3⟩, a4⟩, a5⟩
    exact ⟨decide_eq_true (by omega), a1, a2, a3, a4, a5, decide_eq_true (by omega)⟩
  · rintro ⟨_, a1, a2, a3, a4, a5, _⟩
    exact ⟨⟨⟨⟨⟨⟨h1, h2⟩, a1⟩, a2⟩, a3⟩, a4⟩, a5⟩
theorem slOk_st {s : Sl} (h : slOk s = true) : 2 ≤ s.1 ∧ s.1 ≤ 4 := by
  unfold slOk at h
  simp only [Bool.and_eq_true, decide_eq_true_eq] at h
  exact h.1.1.1.1.1
end Vw
namespace Vw
open Go
theorem r_2c {P : Program} {N : Nat} {a : Act} {w : World} {L : List (Nat × Value)} {fn : Func} {s t u n b T : Nat} {vs : List Value} {v' : Value} {σ : Sig} {L1 R1 : List Asrt} {R : Ending → World → Prop} (hf : Has N a L) (hr : fn.results = #[.cell s t, .tmp u])
    (hv : look L s = some (.pointer (some ⟨b, 0, none⟩))) (hv' : look L u = some v') (hs : St σ w L1) (ht : AgT P t n) (hn : vs.length = n) (tk : Take (cb b T vs) L1 R1) (h : R (.returned (.tuple #[.agg vs.toArray, v'])) w) : bodyPost P fn R .ret a w := by
  refine bodyPost_ret ?_ hf.defers h
  have hl := run_loadCells_list (P := P) w ⟨b, 0, none⟩ vs (fun j v hv => by
    have := hs.cell tk hv
    rwa [show (⟨b, 0, none⟩ : Addr).add j = ⟨b, j, none⟩ by unfold Addr.add; split <;> simp_all])
  rw [hn] at hl
  unfold loadCells at hl
  simp [results, hr, hf.get s _ hv, hf.get u _ hv', asAddr, loadVar, go_sem, ht.agg, ht.size, hl]
def rd32 (l : List UInt8) (k : Nat) : Nat := leN ((l.drop k).take 4)
theorem rd32_lt (l : List UInt8) (k : Nat) : rd32 l k < 4294967296 := leN_lt4 (by simp; omega)
def dsF (l : List UInt8) : Sl := (rd32 l 8, rd32 l 12, rd32 l 16, rd32 l 20, rd32 l 24, rd32 l 28, rd32 l 32)
def zSl : Sl := (0, 0, 0, 0, 0, 0, 0)
def decOk (l : List UInt8) : Bool := decide (l.length = 512) && slOk (dsF l) && decide (secS (dsF l) = l)
def decV (l : List UInt8) : Sl := if decOk l = true then dsF l else zSl
def decE (l : List UInt8) : Int := if decOk l = true then 0 else 140
theorem dec_yes {l : List UInt8} (h : decOk l = true) : decV l = dsF l ∧ decE l = 0 := by unfold decV decE; rw [h]; exact ⟨rfl, rfl⟩
theorem dec_no {l : List UInt8} (h : decOk l = false) : decV l = zSl ∧ decE l = 140 := by unfold decV decE; rw [h]; exact ⟨rfl, rfl⟩
theorem nx4 {n k : Nat} (h : k + 4 ≤ n) : nextC n k 0 4 = (k + 4, 0, 4) := by unfold nextC; rw [if_neg (by simp), if_neg (by omega), if_neg (by omega)]; rfl
theorem nx8 {n : Nat} (h : 8 ≤ n) : nextC n 0 0 8 = (8, 0, 8) := by unfold nextC; rw [if_neg (by simp), if_neg (by omega), if_neg (by omega)]; rfl
theorem nx_le {n k : Nat} (b v : Int) (h : k ≤ n) : (nextC n k b v).1 ≤ n := by
  unfold nextC; split
  · exact h
  · split
    · exact h
    · split
      · exact h
      · simp only []; omega
theorem nx_k (n k : Nat) (b : Int) : (nextC n k b 4).2.2 ≤ 4 := by
  unfold nextC; split
  · simp
  · split
    · simp
    · split
      · simp
      · exact Nat.le_refl _
theorem leN_small {l : List UInt8} {k : Nat} (h : k ≤ 4) : leN (l.take k) < 4294967296 := leN_lt4 (by simp; omega)
end Vw
namespace Vw
open Go
theorem toList_loop (bs : ByteArray) : ∀ (k i : Nat) (r : List UInt8), bs.size = i + k → ByteArray.toList.loop bs i r = r.reverse ++ bs.data.toList.drop i
  | 0, i, r, h => by
    rw [ByteArray.toList.loop]
    have hs : bs.data.toList.length = bs.size := rfl
    rw [if_neg (by omega), List.drop_of_length_le (by omega), List.append_nil]
  | k + 1, i, r, h => by
    rw [ByteArray.toList.loop]
    have hs : bs.data.toList.length = bs.size := rfl
    have hi : i < bs.data.toList.length := by omega
    rw [if_pos (by omega), toList_loop bs k (i + 1) _ (by omega), List.drop_eq_getElem_cons hi, List.reverse_cons, List.append_assoc]
    congr 1
    show [bs.get! i] ++ _ = _
    rw [List.singleton_append]
    congr 1
    simp only [ByteArray.get!, Array.getElem_toList]
    exact getElem!_pos bs.data i (by simpa using hi)
theorem bytes_toList (l : List UInt8) : (⟨l.toArray⟩ : ByteArray).toList = l := by
  rw [ByteArray.toList, toList_loop _ l.length 0 [] (by simp [ByteArray.size])]
  simp
end Vw

namespace Vw
open Go
def zt (l : List UInt8) : Nat := (l.reverse.takeWhile (· == 0)).length
theorem zt_nil : zt [] = 0 := rfl
theorem zt_zero (l : List UInt8) : zt (l ++ [0]) = zt l + 1 := by unfold zt; simp
theorem zt_other (l : List UInt8) {x : UInt8} (h : x ≠ 0) : zt (l ++ [x]) = 0 := by unfold zt; simp [h]
theorem zt_le (l : List UInt8) : zt l ≤ l.length := by
  unfold zt
  have := (List.takeWhile_sublist (p := (· == (0 : UInt8))) (l := l.reverse)).length_le
  simpa using this
theorem zt_take0 {l : List UInt8} {n : Nat} (h : n < l.length) (h0 : l[n] = 0) : zt (l.take (n + 1)) = zt (l.take n) + 1 := by
  rw [List.take_succ_eq_append_getElem h, h0, zt_zero]
theorem zt_take1 {l : List UInt8} {n : Nat} (h : n < l.length) (h0 : l[n] ≠ 0) : zt (l.take (n + 1)) = 0 := by
  rw [List.take_succ_eq_append_getElem h, zt_other _ h0]
def spA (body : List UInt8) (i : Nat) : Nat := rd32 body (8 * i)
def spN (body : List UInt8) (i : Nat) : Nat := rd32 body (8 * i + 4)
def wlk (old : Int) (body : List UInt8) : Nat → Option (Nat × Nat)
  | 0 => some (0, 0)
  | k + 1 => match wlk old body k with
    | none => none
    | some (e, t) => if spN body k < 1 ∨ spA body k < e ∨ old < ((spA body k + spN body k : Nat) : Int) then none else some (spA body k + spN body k, t + spN body k)
theorem wlk_bad {old : Int} {body : List UInt8} {k e t : Nat} (h : wlk old body k = some (e, t)) (hb : spN body k < 1 ∨ spA body k < e ∨ old < ((spA body k + spN body k : Nat) : Int)) : wlk old body (k + 1) = none := by
  simp only [wlk, h]; rw [if_pos hb]
theorem wlk_good {old : Int} {body : List UInt8} {k e t : Nat} (h : wlk old body k = some (e, t)) (hb : ¬ (spN body k < 1 ∨ spA body k < e ∨ old < ((spA body k + spN body k : Nat) : Int))) : wlk old body (k + 1) = some (spA body k + spN body k, t + spN body k) := by
  simp only [wlk, h]; rw [if_neg hb]
theorem wlk_none {old : Int} {body : List UInt8} {k : Nat} (h : wlk old body k = none) : ∀ n, wlk old body (k + n) = none
  | 0 => h
  | n + 1 => by
    have h1 := wlk_none h n
    show wlk old body ((k + n) + 1) = none
    simp only [wlk, h1]
theorem wlk_le {old : Int} {body : List UInt8} (h0 : 0 ≤ old) : ∀ {k e t : Nat}, wlk old body k = some (e, t) → t ≤ e ∧ (e : Int) ≤ old
  | 0, e, t, h => by
    injection h with h; injection h with h1 h2
    subst h1 h2; exact ⟨Nat.le_refl _, by simpa using h0⟩
  | k + 1, e, t, h => by
    cases hw : wlk old body k with
    | none => have := wlk_none hw 1; rw [this] at h; cases h
    | some p =>
      obtain ⟨e1, t1⟩ := p
      have ih := wlk_le h0 hw
      by_cases hb : spN body k < 1 ∨ spA body k < e1 ∨ old < ((spA body k + spN body k : Nat) : Int)
      · rw [wlk_bad hw hb] at h; cases h
      · rw [wlk_good hw hb] at h
        injection h with h; injection h with h1 h2
        omega
def bkOk (s : Sl) (body : List UInt8) : Bool := decide (crcU 0 body = s.2.2.2.2.2.2) && decide (8 * s.2.2.2.2.1 ≤ (body.length : Int)) && (match wlk s.2.2.1 body s.2.2.2.2.1.toNat with | none => false | some (_, t) => decide (8 * s.2.2.2.2.1.toNat + t = body.length))
def totB (old : Int) (body : List UInt8) (k : Nat) : Nat := match wlk old body k with | none => 0 | some (_, t) => t
def bkL (s : Sl) (body : List UInt8) (k : Nat) : List Pc := (List.range k).map fun i => (spA body i, (body.drop (8 * s.2.2.2.2.1.toNat + totB s.2.2.1 body i)).take (spN body i))
theorem bkL_succ (s : Sl) (body : List UInt8) (k : Nat) : bkL s body (k + 1) = bkL s body k ++ [(spA body k, (body.drop (8 * s.2.2.2.2.1.toNat + totB s.2.2.1 body k)).take (spN body k))] := by
  unfold bkL; rw [List.range_succ, List.map_append]; rfl
def spL (body : List UInt8) (k : Nat) : List (Int × Int) := (List.range k).map fun i => ((spA body i : Int), ((spA body i + spN body i : Nat) : Int))
theorem spL_succ (body : List UInt8) (k : Nat) : spL body (k + 1) = spL body k ++ [((spA body k : Int), ((spA body k + spN body k : Nat) : Int))] := by
  unfold spL; rw [List.range_succ, List.map_append]; rfl
end Vw
