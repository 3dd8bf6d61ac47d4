/- The small proof library: slices of slices, copy, append, literals. -/
import Derived.Test.YtehakfbfjpolfaaDoorV7
set_option linter.all false
namespace Vw
open Go

/-- Where a slice of a slice begins. -/
def subA (a : Option Addr) (c l sz : Nat) : Option Addr := if c = l then a else a.map (·.add (l * sz))

theorem Addr_add_add (a : Addr) (m n : Nat) : (a.add m).add n = a.add (m + n) := by
  unfold Addr.add
  by_cases hm : m = 0
  · subst hm; simp
  · by_cases hn : n = 0
    · subst hn; simp
    · simp [hm, hn]; omega

theorem RdC.sub {h : Heaplet} {a : Option Addr} {n c sz : Nat} {xs : List Value} (r : RdC h (.slice a n c) sz n xs) {l m : Nat} (h1 : l ≤ m) (h2 : m ≤ n) :
    RdC h (.slice (subA a c l sz) (m - l) (c - l)) sz (m - l) ((xs.drop (l * sz)).take ((m - l) * sz)) := by
  have hlen : ((xs.drop (l * sz)).take ((m - l) * sz)).length = (m - l) * sz := by
    rw [List.length_take, List.length_drop, r.1, Nat.min_eq_left]
    rw [← Nat.sub_mul]
    exact Nat.mul_le_mul_right _ (by omega)
  refine ⟨hlen, ?_⟩
  rcases r.2 with ⟨c', e, hn⟩ | ⟨a', c', e, hnc, hc⟩
  · cases e
    left
    exact ⟨c - l, by simp [subA]; omega, by omega⟩
  · cases e
    right
    by_cases hcl : c = l
    · refine ⟨a', c - l, by simp [subA, hcl], by omega, fun j u hu => ?_⟩
      have hml : m - l = 0 := by omega
      rw [hml] at hu
      simp at hu
    · refine ⟨a'.add (l * sz), c - l, by simp [subA, hcl], by omega, fun j u hu => ?_⟩
      rw [Addr_add_add]
      refine hc _ _ ?_
      rw [List.getElem?_take] at hu
      split at hu
      · simpa using hu
      · cases hu

/-- A slice that reads as l, cut. -/
theorem RdB.sub {h : Heaplet} {a : Option Addr} {n c : Nat} {l : List UInt8} (r : RdB h (.slice a n c) l) (hn : l.length = n) {i j : Nat} (h1 : i ≤ j) (h2 : j ≤ n) :
    RdB h (.slice (subA a c i 1) (j - i) (c - i)) ((l.drop i).take (j - i)) := by
  subst hn
  have := RdC.sub r h1 h2
  have hl : ((l.drop i).take (j - i)).length = j - i := by simp; omega
  unfold RdB
  rw [hl]
  simpa [List.map_take, List.map_drop] using this

section
variable {P : Program} {ρ : Operand → Value} {K : Value → World → Prop} {w : World}
variable {d : Option Nat} {ty : TypeId} {pos : String} {after : Array Edge} {g : Option (Nat × Bool)}
variable {σ : Sig} {L L' R : List Asrt}

theorem x_slice {t e sz by_ : Nat} {z : Value} {x lo hi : Operand} {a : Option Addr} {n c : Nat} {k k' : IntKind} {l m : Int} (ht : SlT P t e sz by_ z)
    (hx : ρ x = .slice a n c) (hl : ρ lo = .int k l) (hm : ρ hi = .int k' m) (h0 : 0 ≤ l) (h1 : l ≤ m) (h2 : m ≤ c) (w : World) :
    (execOp ρ ⟨d, .slice t x (some lo) (some hi) none, ty, pos, after, g⟩).run P w = .ok (.value (.slice (subA a c l.toNat sz) (m.toNat - l.toNat) (c - l.toNat))) w := by
  obtain ⟨inf, h3, h4, _, _⟩ := ht.info
  obtain ⟨m', rfl⟩ := Int.eq_ofNat_of_zero_le (show 0 ≤ m by omega)
  simp [execOp, Instr.sliceAt, Instr.slice, Instr.sliceBounds, go_sem, hx, hl, hm, run_underlying ht.und, run_sliceBound, Go.sizeOf, typeInfo, h3, h4, h0, h1, h2, subA]

theorem x_slice_lo {t e sz by_ : Nat} {z : Value} {x lo : Operand} {a : Option Addr} {n c : Nat} {k : IntKind} {l : Int} (ht : SlT P t e sz by_ z)
    (hx : ρ x = .slice a n c) (hl : ρ lo = .int k l) (h0 : 0 ≤ l) (h1 : l ≤ n) (w : World) :
    (execOp ρ ⟨d, .slice t x (some lo) none none, ty, pos, after, g⟩).run P w = .ok (.value (.slice (subA a c l.toNat sz) (n - l.toNat) (c - l.toNat))) w := by
  obtain ⟨inf, h3, h4, _, _⟩ := ht.info
  simp [execOp, Instr.sliceAt, Instr.slice, Instr.sliceBounds, go_sem, hx, hl, run_underlying ht.und, run_sliceBound, Go.sizeOf, typeInfo, h3, h4, h0, h1, subA]

theorem x_slice_hi {t e sz by_ : Nat} {z : Value} {x hi : Operand} {a : Option Addr} {n c : Nat} {k : IntKind} {m : Int} (ht : SlT P t e sz by_ z)
    (hx : ρ x = .slice a n c) (hm : ρ hi = .int k m) (h1 : 0 ≤ m) (h2 : m ≤ c) (w : World) :
    (execOp ρ ⟨d, .slice t x none (some hi) none, ty, pos, after, g⟩).run P w = .ok (.value (.slice a m.toNat c)) w := by
  obtain ⟨inf, h3, h4, _, _⟩ := ht.info
  simp [execOp, Instr.sliceAt, Instr.slice, Instr.sliceBounds, go_sem, hx, hm, run_underlying ht.und, run_sliceBound, Go.sizeOf, typeInfo, h3, h4, h1, h2, Addr.add]

theorem oneCell_of_bytes (l : List UInt8) : ∀ v ∈ l.map u8v, v.oneCell' = true := by
  intro v hv
  obtain ⟨x, _, rfl⟩ := List.mem_map.1 hv
  rfl

/-- copy into cells that are owned; from wherever. -/
theorem y_copy {t u e by_ sn dn dc : Nat} {z : Value} {x y : Operand} {p : Addr} {b o T : Nat} {vs xs : List Value} {sv : Value} (hs : St σ w L) (ht : SlT P t e 1 by_ z)
    (hx : ρ x = .slice (some p) dn dc) (hy : ρ y = sv) (hpd : dn ≠ 0 → p = ⟨b, o, none⟩) (hr : RdC (hp w) sv 1 sn xs) (h1 : ∀ v ∈ xs, v.oneCell' = true)
    (up : Up (cb b T vs) (cb b T (vs.take o ++ xs.take (min sn dn) ++ vs.drop (o + min sn dn))) L L') (hfit : o + dn ≤ vs.length)
    (h : ∀ w', St σ w' L' → K (.int .i64 (min sn dn : Nat)) w') :
    Does P ρ ⟨d, .call ⟨.builtin .copy, #[x, y], #[t, u]⟩, ty, pos, after, g⟩ w K := by
  obtain ⟨inf, h4, h5, _, _⟩ := ht.info
  have hsz : (P.info? e).map (·.size) = some 1 := by simp [h4, h5]
  have hxl : xs.length = sn := by simpa using hr.1
  by_cases hn : min sn dn = 0
  · have hsame : vs.take o ++ xs.take (min sn dn) ++ vs.drop (o + min sn dn) = vs := by simp [hn]
    rw [hsame] at up
    refine .value (v := .int .i64 (min sn dn : Nat)) (w' := w) ?_ (h _ (hs.up up fun _ h => h))
    have hrun : ∀ a' c', sv = .slice a' sn c' → (Builtin.copy_ #[t, u] ty #[.slice (some p) dn dc, sv]).run P w = .ok (goInt 0) w := by
      intro a' c' e'
      subst e'
      exact run_copy_none w t u ty e (some p) a' dn dc sn c' ht.und hsz (by simpa [Nat.min_def] using hn)
    have hrun' : (Builtin.copy_ #[t, u] ty #[.slice (some p) dn dc, sv]).run P w = .ok (goInt 0) w := by
      rcases hr.2 with ⟨c', e', hz⟩ | ⟨a', c', e', _, _⟩
      · subst hz; exact hrun _ _ e'
      · exact hrun _ _ e'
    simp only [execOp, resolve, invoke, builtin, Sem.run_bind, Sem.run_pure, Result.andThen_ok, List.map_toArray, List.map_cons, List.map_nil, hx, hy, hrun', hn, goInt]
    rfl
  · have hdn : dn ≠ 0 := by omega
    have hp' := hpd hdn
    subst hp'
    obtain ⟨R, t1, t2⟩ := up.takes
    have hb := hs.blk_at t1
    rcases hr.2 with ⟨c', e', hz⟩ | ⟨a', c', e', _, hc⟩
    · omega
    · subst e'
      have hl : (xs.take (min sn dn)).length = Nat.min sn dn := by rw [List.length_take, hxl, Nat.min_eq_left (Nat.min_le_left _ _)]
      have hrun := run_copy_row (P := P) w t u ty e b o dn dc a' sn c' vs.toArray T (xs.take (min sn dn)) ht.und hsz hb hl
        (fun j v hv => hc j v (by rw [List.getElem?_take] at hv; split at hv <;> simp_all)) (by rw [hl]; simp; have := Nat.min_le_right sn dn; simp only [Nat.min_def] at *; omega)
        (fun v hv => h1 v (List.mem_of_mem_take hv))
      have hl' : (xs.take (min sn dn)).length = min sn dn := hl
      rw [hl'] at hrun
      refine .value (v := .int .i64 (min sn dn : Nat)) (w' := w.setRow b (vs.take o ++ xs.take (min sn dn) ++ vs.drop (o + min sn dn)).toArray) ?_ (h _ ?_)
      · simp only [execOp, resolve, invoke, builtin, Sem.run_bind, Sem.run_pure, Result.andThen_ok, List.map_toArray, List.map_cons, List.map_nil, hx, hy, hrun, goInt]
      · exact hs.wrote_at up (setRow_wrote hb)

theorem maxLen_eq : maxLen = 9223372036854775807 := rfl

/-- append onto an owned slice; from wherever. -/
theorem y_append {t e sz by_ n m : Nat} {z : Value} {x y : Operand} {v sv : Value} {xs ys : List Value} (hs : St σ w L) (ht : SlT P t e sz by_ z)
    (hx : ρ x = v) (hy : ρ y = sv) (tk : Take (sl e sz v n xs) L R) (hr : RdC (hp w) sv sz m ys) (h1 : ∀ v ∈ ys, v.oneCell' = true)
    (hb : (n + m) * by_ ≤ 140737488355328) (h63 : n + m ≤ maxLen)
    (h : ∀ v' w', St σ w' (sl e sz v' (n + m) (xs ++ ys) :: R) → (v' = .slice none 0 0 ↔ v = .slice none 0 0 ∧ m = 0) → K v' w') :
    Does P ρ ⟨d, .call ⟨.builtin .append, #[x, y], #[t, t]⟩, ty, pos, after, g⟩ w K := by
  obtain ⟨inf, h4, h5, h6, h7⟩ := ht.info
  have hs' := hs.take tk
  obtain ⟨hp1, hxs, hcase⟩ : True ∧ xs.length = n * sz ∧ ((v = .slice none 0 0 ∧ n = 0) ∨
      ∃ b cap cur, v = .slice (some ⟨b, 0, none⟩) n cap ∧ n ≤ cap ∧ cap ≤ maxLen ∧ cur.length = cap * sz ∧ cur.take (n * sz) = xs ∧ St σ w (cb b e cur :: R)) := by
    obtain ⟨hh, hhp, A0, r0, d0, la, lr, ha, hr0⟩ := hs'.has
    refine ⟨trivial, ha.1, ?_⟩
    rcases ha.2 with x | ⟨b, cap, cur, e1, e2, e3, e4, e5, e6⟩
    · exact .inl x
    · exact .inr ⟨b, cap, cur, e1, e2, e3, e4, e5, hs'.kept, hh, hhp, A0, r0, d0, la, lr, e6, hr0⟩
  have hlen : (xs ++ ys).length = (n + m) * sz := by rw [List.length_append, hxs, hr.1, Nat.add_mul]
  -- the new block
  have grown : ∀ (old : Nat), old < n + m → St σ (w.drew.alloc (.cells (xs.toArray ++ ys.toArray ++ Builtin.zeroCells z.cells (grownCap w (n + m) old e - (n + m))) e))
      (sl e sz (.slice (some ⟨w.heap.size, 0, none⟩) (n + m) (grownCap w (n + m) old e)) (n + m) (xs ++ ys) :: R) := by
    intro old ho
    have hge := grownCap_ge w (n + m) old e
    have hcm : grownCap w (n + m) old e ≤ maxLen := grownCap_le_maxLen w (n + m) old e h63
    have hd : St σ w.drew R := hs'.drop.same rfl rfl rfl rfl
    have := hd.alloc (.cells (xs.toArray ++ ys.toArray ++ Builtin.zeroCells z.cells (grownCap w (n + m) old e - (n + m))) e)
    refine this.imp fun hh hb => ?_
    refine ⟨hlen, .inr ⟨w.heap.size, _, (xs ++ ys ++ (Builtin.zeroCells z.cells (grownCap w (n + m) old e - (n + m))).toList), rfl, hge, hcm, ?_, ?_, ?_⟩⟩
    · rw [List.length_append, hlen, Array.length_toList, size_zeroCells, ht.zs, ← Nat.add_mul]
      congr 1
      omega
    · rw [← hlen]
      exact List.take_left
    · have e' : (xs ++ ys ++ (Builtin.zeroCells z.cells (grownCap w (n + m) old e - (n + m))).toList).toArray = xs.toArray ++ ys.toArray ++ Builtin.zeroCells z.cells (grownCap w (n + m) old e - (n + m)) := by simp
      show hh w.heap.size = _
      rw [e']
      exact hb
  have fin : ∀ v' w', (Builtin.append_ #[t, t] ty #[v, sv]).run P w = .ok v' w' → K v' w' → Does P ρ ⟨d, .call ⟨.builtin .append, #[x, y], #[t, t]⟩, ty, pos, after, g⟩ w K := by
    intro v' w' hrun hk
    refine .value (v := v') (w' := w') ?_ hk
    simp only [execOp, resolve, invoke, builtin, Sem.run_bind, Sem.run_pure, Result.andThen_ok, List.map_toArray, List.map_cons, List.map_nil, hx, hy, hrun]
  rcases hcase with ⟨rfl, rfl⟩ | ⟨b, cap, cur, rfl, hnc, hcm, hcl, htk, hsb⟩
  · have hx0 : xs = [] := List.eq_nil_of_length_eq_zero (by simpa using hxs)
    subst hx0
    by_cases hm : m = 0
    · subst hm
      have hy0 : ys = [] := List.eq_nil_of_length_eq_zero (by simpa using hr.1)
      subst hy0
      refine fin (.slice none 0 0) w ?_ (h _ _ (by simpa using hs') (by simp))
      rcases hr.2 with ⟨c', e', _⟩ | ⟨a', c', e', _, _⟩ <;> subst e' <;>
        simp [Builtin.append_, run_underlying ht.und, Go.sizeOf, typeInfo, h4, Builtin.lenOf, Builtin.firstCells, loadCells, loadCellsFrom]
    · rcases hr.2 with ⟨c', e', hz⟩ | ⟨a', c', e', _, hc⟩
      · exact absurd hz hm
      · subst e'
        have hrun := run_append_nil (P := P) w t ty e inf z ht.und h4 h7 a' m c' ys (by rw [h5]; exact hr.1) hc (by omega) (by rw [maxLen_eq] at h63; omega) (by rw [h6]; simp only [Nat.zero_add] at hb; omega)
        have hgr := grown 0 (by omega)
        simp only [Nat.zero_add, List.nil_append, Array.empty_append] at hgr hrun h ⊢
        refine fin _ _ hrun (h _ _ hgr (by simp [hm]))
  · by_cases hroom : n + m ≤ cap
    · have hfit : n * sz + ys.length ≤ cur.toArray.size := by rw [hr.1, List.size_toArray, hcl, ← Nat.add_mul]; exact Nat.mul_le_mul_right _ hroom
      have hbk : w.heap[b]? = some (.cells cur.toArray e (0, 0)) := hsb.head
      have key : ∀ w', (Builtin.append_ #[t, t] ty #[.slice (some ⟨b, 0, none⟩) n cap, sv]).run P w = .ok (.slice (some ⟨b, 0, none⟩) (n + m) cap) w' →
          Wrote w w' b (.cells (cur.take (n * sz) ++ ys ++ cur.drop (n * sz + ys.length)).toArray e (0, 0)) →
          Does P ρ ⟨d, .call ⟨.builtin .append, #[x, y], #[t, t]⟩, ty, pos, after, g⟩ w K := by
        intro w' hrun hw
        refine fin _ _ hrun (h _ _ ?_ (by simp))
        refine (hsb.wrote hw).imp fun hh hb' => ⟨hlen, .inr ⟨b, cap, _, rfl, hroom, hcm, ?_, ?_, hb'⟩⟩
        · simp only [List.size_toArray] at hfit
          rw [List.length_append, List.length_append, List.length_take, List.length_drop, Nat.min_eq_left (by omega)]
          omega
        · rw [htk, ← hlen]
          exact List.take_left
      rcases hr.2 with ⟨c', e', hz⟩ | ⟨a', c', e', _, hc⟩
      · subst e' hz
        have hy0 : ys = [] := List.eq_nil_of_length_eq_zero (by simpa using hr.1)
        subst hy0
        refine key w ?_ ⟨rfl, rfl, rfl, rfl, by simpa using hbk, fun _ _ => rfl⟩
        simp [Builtin.append_, run_underlying ht.und, Go.sizeOf, typeInfo, h4, Builtin.lenOf, Builtin.firstCells, hnc, storeCells]
      · subst e'
        have hrun := run_append_room (P := P) w t ty e inf ht.und h4 b n cap cur.toArray hbk a' m c' ys (by rw [h5]; exact hr.1) hc h1 hroom (by rw [h5]; exact hfit)
        rw [h5] at hrun
        exact key _ hrun (setRow_wrote hbk)
    · rcases hr.2 with ⟨c', e', hz⟩ | ⟨a', c', e', _, hc⟩
      · omega
      · subst e'
        have holds : ∀ j u, xs[j]? = some u → w.cell? ((⟨b, 0, none⟩ : Addr).add j) = some u := by
          intro j u hu
          have hadd : (⟨b, 0, none⟩ : Addr).add j = ⟨b, j, none⟩ := by unfold Addr.add; split <;> simp_all
          rw [hadd]
          refine hsb.cell (.here _) ?_
          rw [← htk, List.getElem?_take] at hu
          split at hu
          · exact hu
          · cases hu
        have hrun := run_append_grow (P := P) w t ty e inf z ht.und h4 h7 ⟨b, 0, none⟩ n cap xs (by rw [h5]; exact hxs) holds a' m c' ys (by rw [h5]; exact hr.1) hc (by omega) (by rw [maxLen_eq] at h63; omega)
          (by rw [h6]; exact growslice_fits (by omega) hb)
        exact fin _ _ hrun (h _ _ (grown cap (by omega)) (by simp))
end
end Vw
