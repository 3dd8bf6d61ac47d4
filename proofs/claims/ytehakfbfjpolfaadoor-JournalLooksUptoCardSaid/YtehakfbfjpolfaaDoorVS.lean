/- The small proof library: what came of a slice by appending, beside the slice; a text of a list of texts. -/
import Derived.Test.YtehakfbfjpolfaaDoorVR
set_option linter.all false
namespace Vw
open Go

theorem St.or {σ : Sig} {w : World} {R : List Asrt} {A B : Asrt} (hs : St σ w ((fun h => A h ∨ B h) :: R)) : St σ w (A :: R) ∨ St σ w (B :: R) := by
  obtain ⟨h, hh, a, r, d, la, lr, ha, hr⟩ := hs.has
  rcases ha with ha | ha
  · exact .inl ⟨hs.kept, h, hh, a, r, d, la, lr, ha, hr⟩
  · exact .inr ⟨hs.kept, h, hh, a, r, d, la, lr, ha, hr⟩

/-- A slice, and what came of it by appending: in its block or in another one. -/
def same2 (T sz : Nat) (v : Value) (n : Nat) (xs : List Value) (v' : Value) (n' : Nat) (xs' : List Value) : Asrt := fun h =>
  n ≤ n' ∧ xs = xs'.take (n * sz) ∧ ∃ b cap cur, v = .slice (some ⟨b, 0, none⟩) n cap ∧ v' = .slice (some ⟨b, 0, none⟩) n' cap ∧ n' ≤ cap ∧ cap ≤ maxLen ∧ cur.length = cap * sz ∧ cur.take (n' * sz) = xs' ∧ cb b T cur h
def two (T sz : Nat) (v : Value) (n : Nat) (xs : List Value) (v' : Value) (n' : Nat) (xs' : List Value) : Asrt := fun h =>
  star (sl T sz v n xs) (sl T sz v' n' xs') h ∨ same2 T sz v n xs v' n' xs' h

section
variable {P : Program} {ρ : Operand → Value} {K : Value → World → Prop} {w : World}
variable {d : Option Nat} {ty : TypeId} {pos : String} {after : Array Edge} {g : Option (Nat × Bool)}
variable {σ : Sig} {L L' R : List Asrt}
variable {T sz n n' : Nat} {v v' : Value} {xs xs' : List Value}

theorem St.two_start (hs : St σ w (sl T sz v n xs :: R)) : St σ w (two T sz v n xs v n xs :: R) := by
  refine hs.imp fun h hh => ?_
  rcases hh.2 with ⟨e, hn⟩ | ⟨b, cap, cur, e, e1, e2, e3, e4, e5⟩
  · exact .inl ⟨fun _ => none, h, (fun i => .inl rfl), (fun _ _ x => by cases x), hle.refl h, ⟨hh.1, .inl ⟨e, hn⟩⟩, hh⟩
  · refine .inr ⟨Nat.le_refl _, ?_, b, cap, cur, e, e, e1, e2, e3, e4, e5⟩
    rw [List.take_of_length_le (by rw [hh.1]; exact Nat.le_refl _)]

theorem St.two_fst (hs : St σ w (two T sz v n xs v' n' xs' :: R)) : St σ w (sl T sz v n xs :: R) := by
  rcases St.or hs with hs | hs
  · exact (hs.star.take (.there _ (.here _))).drop
  · refine hs.imp fun h ⟨h1, h2, b, cap, cur, e, e', e1, e2, e3, e4, e5⟩ => ⟨?_, .inr ⟨b, cap, cur, e, by omega, e2, e3, ?_, e5⟩⟩
    · rw [h2, ← e4, List.take_take, List.length_take, e3, Nat.min_eq_left (Nat.mul_le_mul_right _ h1), Nat.min_eq_left (Nat.mul_le_mul_right _ (by omega))]
    · rw [h2, ← e4, List.take_take, Nat.min_eq_left (Nat.mul_le_mul_right _ h1)]

theorem two_shape (hs : St σ w (two T sz v n xs v' n' xs' :: R)) : ∃ a c, v' = .slice a n' c := by
  rcases St.or hs with hs | hs
  · exact sl_shape (hs.star.take (.there _ (.here _)))
  · exact hs.see fun h _ ⟨h1, h2, b, cap, cur, e, e', _⟩ => ⟨_, _, e'⟩

theorem y_append2 {t e sz by_ n0 n m : Nat} {z : Value} {x y : Operand} {v0 v sv : Value} {xs0 xs ys : List Value} (hs : St σ w L) (ht : SlT P t e sz by_ z)
    (hx : ρ x = v) (hy : ρ y = sv) (tk : Take (two e sz v0 n0 xs0 v n xs) L R) (hr : RdC (hp w) sv sz m ys) (h1 : ∀ v ∈ ys, v.oneCell' = true)
    (hb : (n + m) * by_ ≤ 140737488355328) (h63 : n + m ≤ maxLen)
    (h : ∀ v' w', St σ w' (two e sz v0 n0 xs0 v' (n + m) (xs ++ ys) :: R) → K v' w') :
    Does P ρ ⟨d, .call ⟨.builtin .append, #[x, y], #[t, t]⟩, ty, pos, after, g⟩ w K := by
  obtain ⟨inf, h4, h5, h6, h7⟩ := ht.info
  rcases St.or (hs.take tk) with hs' | hs'
  · exact y_append hs'.star ht hx hy (.there _ (.here _)) hr h1 hb h63 fun v' w' hs9 _ => h v' w' (((hs9.take (.there _ (.here _))).unstar).imp fun h hh => .inl hh)
  · obtain ⟨hnn, hx0, b, cap, cur, rfl, rfl, hnc, hcm, hcl, htk, hsb⟩ : n0 ≤ n ∧ xs0 = xs.take (n0 * sz) ∧ ∃ b cap cur, v0 = .slice (some ⟨b, 0, none⟩) n0 cap ∧ v = .slice (some ⟨b, 0, none⟩) n cap ∧ n ≤ cap ∧ cap ≤ maxLen ∧ cur.length = cap * sz ∧ cur.take (n * sz) = xs ∧ St σ w (cb b e cur :: R) := by
      obtain ⟨hh, hhp, A0, r0, d0, la, lr, ⟨g1, g2, b, cap, cur, e1, e2, e3, e4, e5, e6, e7⟩, hr0⟩ := hs'.has
      exact ⟨g1, g2, b, cap, cur, e1, e2, e3, e4, e5, e6, hs'.kept, hh, hhp, A0, r0, d0, la, lr, e7, hr0⟩
    have hxs : xs.length = n * sz := by rw [← htk, List.length_take, hcl, Nat.min_eq_left (Nat.mul_le_mul_right _ hnc)]
    have hlen : (xs ++ ys).length = (n + m) * sz := by rw [List.length_append, hxs, hr.1, Nat.add_mul]
    have hx1 : xs0 = (xs ++ ys).take (n0 * sz) := by rw [List.take_append_of_le_length (by rw [hxs]; exact Nat.mul_le_mul_right _ hnn)]; exact hx0
    have hlen0 : xs0.length = n0 * sz := by rw [hx0, List.length_take, hxs, Nat.min_eq_left (Nat.mul_le_mul_right _ hnn)]
    have fin : ∀ v' w', (Builtin.append_ #[t, t] ty #[.slice (some ⟨b, 0, none⟩) n cap, sv]).run P w = .ok v' w' → K v' w' → Does P ρ ⟨d, .call ⟨.builtin .append, #[x, y], #[t, t]⟩, ty, pos, after, g⟩ w K := by
      intro v' w' hrun hk
      refine .value (v := v') (w' := w') ?_ hk
      simp only [execOp, resolve, invoke, builtin, Sem.run_bind, Sem.run_pure, Result.andThen_ok, List.map_toArray, List.map_cons, List.map_nil, hx, hy, hrun]
    by_cases hroom : n + m ≤ cap
    · have hfit : n * sz + ys.length ≤ cur.toArray.size := by rw [hr.1, List.size_toArray, hcl, ← Nat.add_mul]; exact Nat.mul_le_mul_right _ hroom
      have hbk : w.heap[b]? = some (.cells cur.toArray e (0, 0)) := hsb.head
      have key : ∀ w', (Builtin.append_ #[t, t] ty #[.slice (some ⟨b, 0, none⟩) n cap, sv]).run P w = .ok (.slice (some ⟨b, 0, none⟩) (n + m) cap) w' →
          Wrote w w' b (.cells (cur.take (n * sz) ++ ys ++ cur.drop (n * sz + ys.length)).toArray e (0, 0)) →
          Does P ρ ⟨d, .call ⟨.builtin .append, #[x, y], #[t, t]⟩, ty, pos, after, g⟩ w K := by
        intro w' hrun hw
        refine fin _ _ hrun (h _ _ ?_)
        refine (hsb.wrote hw).imp fun hh hb' => .inr ⟨by omega, hx1, b, cap, _, rfl, rfl, hroom, hcm, ?_, ?_, hb'⟩
        · simp only [List.size_toArray] at hfit
          rw [List.length_append, List.length_append, List.length_take, List.length_drop, Nat.min_eq_left (by omega)]
          omega
        · rw [htk, ← hlen]
          exact List.take_left
      rcases hr.2 with ⟨c', e', hz⟩ | ⟨a', c', e', _, hc⟩
      · subst e' hz
        have hy0 : ys = [] := List.eq_nil_of_length_eq_zero (by simpa using hr.1)
        subst hy0
        refine key w ?_ ⟨rfl, rfl, rfl, rfl, by simpa using hbk, fun _ _ => rfl⟩
        simp [Builtin.append_, run_underlying ht.und, Go.sizeOf, typeInfo, h4, Builtin.lenOf, Builtin.firstCells, hnc, storeCells]
      · subst e'
        have hrun := run_append_room (P := P) w t ty e inf ht.und h4 b n cap cur.toArray hbk a' m c' ys (by rw [h5]; exact hr.1) hc h1 hroom (by rw [h5]; exact hfit)
        rw [h5] at hrun
        exact key _ hrun (setRow_wrote hbk)
    · rcases hr.2 with ⟨c', e', hz⟩ | ⟨a', c', e', _, hc⟩
      · omega
      · subst e'
        have holds : ∀ j u, xs[j]? = some u → w.cell? ((⟨b, 0, none⟩ : Addr).add j) = some u := by
          intro j u hu
          have hadd : (⟨b, 0, none⟩ : Addr).add j = ⟨b, j, none⟩ := by unfold Addr.add; split <;> simp_all
          rw [hadd]
          refine hsb.cell (.here _) ?_
          rw [← htk, List.getElem?_take] at hu
          split at hu
          · exact hu
          · cases hu
        have hrun := run_append_grow (P := P) w t ty e inf z ht.und h4 h7 ⟨b, 0, none⟩ n cap xs (by rw [h5]; exact hxs) holds a' m c' ys (by rw [h5]; exact hr.1) hc (by omega) (by rw [maxLen_eq] at h63; omega)
          (by rw [h6]; exact growslice_fits (by omega) hb)
        refine fin _ _ hrun (h _ _ ?_)
        have hge := grownCap_ge w (n + m) cap e
        have hcm' : grownCap w (n + m) cap e ≤ maxLen := grownCap_le_maxLen w (n + m) cap e h63
        have hd : St σ w.drew (cb b e cur :: R) := hsb.same rfl rfl rfl rfl
        have h9 := hd.alloc (.cells (xs.toArray ++ ys.toArray ++ Builtin.zeroCells z.cells (grownCap w (n + m) cap e - (n + m))) e)
        have h10 : St σ (w.drew.alloc (.cells (xs.toArray ++ ys.toArray ++ Builtin.zeroCells z.cells (grownCap w (n + m) cap e - (n + m))) e)) (sl e sz (.slice (some ⟨w.heap.size, 0, none⟩) (n + m) (grownCap w (n + m) cap e)) (n + m) (xs ++ ys) :: cb b e cur :: R) := by
          refine h9.imp fun hh hb => ?_
          refine ⟨hlen, .inr ⟨w.heap.size, _, (xs ++ ys ++ (Builtin.zeroCells z.cells (grownCap w (n + m) cap e - (n + m))).toList), rfl, hge, hcm', ?_, ?_, ?_⟩⟩
          · rw [List.length_append, hlen, Array.length_toList, size_zeroCells, ht.zs, ← Nat.add_mul]
            congr 1
            omega
          · rw [← hlen]
            exact List.take_left
          · have e' : (xs ++ ys ++ (Builtin.zeroCells z.cells (grownCap w (n + m) cap e - (n + m))).toList).toArray = xs.toArray ++ ys.toArray ++ Builtin.zeroCells z.cells (grownCap w (n + m) cap e - (n + m)) := by simp
            show hh w.heap.size = _
            rw [e']
            exact hb
        have h11 : St σ _ (sl e sz (.slice (some ⟨b, 0, none⟩) n0 cap) n0 xs0 :: sl e sz (.slice (some ⟨w.heap.size, 0, none⟩) (n + m) (grownCap w (n + m) cap e)) (n + m) (xs ++ ys) :: R) := (h10.take (.there _ (.here _))).imp fun hh hb => ⟨hlen0, .inr ⟨b, cap, cur, rfl, by omega, hcm, hcl, by rw [hx0, ← htk, List.take_take, Nat.min_eq_left (Nat.mul_le_mul_right _ hnn)], hb⟩⟩
        exact h11.unstar.imp fun hh hx => .inl hx

/-- The same with bytes. -/
def twoB (T : Nat) (v : Value) (l : List UInt8) (v' : Value) (l' : List UInt8) : Asrt := two T 1 v l.length (l.map u8v) v' l'.length (l'.map u8v)
theorem St.twoB_start {l : List UInt8} (hs : St σ w (slB T v l :: R)) : St σ w (twoB T v l v l :: R) := St.two_start hs
theorem St.twoB_fst {l l' : List UInt8} (hs : St σ w (twoB T v l v' l' :: R)) : St σ w (slB T v l :: R) := St.two_fst hs
theorem twoB_shape {l l' : List UInt8} (hs : St σ w (twoB T v l v' l' :: R)) : ∃ a c, v' = .slice a l'.length c := two_shape hs
theorem y_appendB2 {t e by_ : Nat} {z : Value} {x y : Operand} {v0 v sv : Value} {l0 l s : List UInt8} (hs : St σ w L) (ht : SlT P t e 1 by_ z) (hb1 : by_ = 1)
    (hx : ρ x = v) (hy : ρ y = sv) (tk : Take (twoB e v0 l0 v l) L R) (hr : RdB (hp w) sv s) (hb : l.length + s.length ≤ 140737488355328)
    (h : ∀ v' w', St σ w' (twoB e v0 l0 v' (l ++ s) :: R) → K v' w') :
    Does P ρ ⟨d, .call ⟨.builtin .append, #[x, y], #[t, t]⟩, ty, pos, after, g⟩ w K := by
  subst hb1
  refine y_append2 (xs := l.map u8v) (ys := s.map u8v) hs ht hx hy tk hr (oneCell_of_bytes _) (by omega) (by rw [maxLen_eq]; omega) fun v' w' hs' => h v' w' ?_
  unfold twoB
  simpa using hs'
end

/-! ### One of the texts of a list -/
section
variable {σ : Sig} {w : World} {R : List Asrt} {T : Nat}
theorem datA_split : ∀ {ps qs : List Pt} {R : List Asrt}, St σ w (datA T (ps ++ qs) :: R) → St σ w (datA T ps :: datA T qs :: R)
  | [], qs, R, hs => hs.emp (fun _ => trivial)
  | p :: ps, qs, R, hs => by
    have h1 : St σ w (datA T (ps ++ qs) :: slB T p.2.1 p.2.2 :: R) := hs.star.take (.there _ (.here _))
    have h2 := datA_split h1
    have h3 : St σ w (slB T p.2.1 p.2.2 :: datA T ps :: datA T qs :: R) := h2.take (.there _ (.there _ (.here _)))
    exact h3.unstar
theorem datA_join : ∀ {ps qs : List Pt} {R : List Asrt}, St σ w (datA T ps :: datA T qs :: R) → St σ w (datA T (ps ++ qs) :: R)
  | [], qs, R, hs => hs.drop
  | p :: ps, qs, R, hs => by
    have h1 : St σ w (datA T ps :: datA T qs :: slB T p.2.1 p.2.2 :: R) := (hs.star.take (.there _ (.there _ (.here _)))).take (.there _ (.there _ (.here _)))
    have h2 := datA_join h1
    exact (h2.take (.there _ (.here _))).unstar
theorem datA_open {ps : List Pt} (hs : St σ w (datA T ps :: R)) {i : Nat} (hi : i < ps.length) : St σ w (slB T ps[i].2.1 ps[i].2.2 :: datA T (ps.take i) :: datA T (ps.drop (i + 1)) :: R) := by
  have e : ps = ps.take i ++ ps[i] :: ps.drop (i + 1) := by rw [← List.drop_eq_getElem_cons hi, List.take_append_drop]
  have h1 : St σ w (datA T (ps.take i ++ ps[i] :: ps.drop (i + 1)) :: R) := by rw [← e]; exact hs
  have h2 := datA_split h1
  have h3 : St σ w (datA T (ps[i] :: ps.drop (i + 1)) :: datA T (ps.take i) :: R) := h2.take (.there _ (.here _))
  have h4 := h3.star
  exact (h4.take (.there _ (.there _ (.here _)))).take (.there _ (.here _))
theorem datA_close {ps : List Pt} {i : Nat} (hi : i < ps.length) {d : List UInt8} (hs : St σ w (slB T ps[i].2.1 d :: datA T (ps.take i) :: datA T (ps.drop (i + 1)) :: R)) : St σ w (datA T (ps.set i (ps[i].1, ps[i].2.1, d)) :: R) := by
  have h1 : St σ w (slB T ps[i].2.1 d :: datA T (ps.drop (i + 1)) :: datA T (ps.take i) :: R) := (hs.take (.there _ (.there _ (.here _)))).take (.there _ (.here _))
  have h2 : St σ w (datA T (((ps[i].1, ps[i].2.1, d) : Pt) :: ps.drop (i + 1)) :: datA T (ps.take i) :: R) := h1.unstar
  have h3 := datA_join (h2.take (.there _ (.here _)))
  have e : ps.set i (ps[i].1, ps[i].2.1, d) = ps.take i ++ (ps[i].1, ps[i].2.1, d) :: ps.drop (i + 1) := by rw [List.set_eq_take_append_cons_drop, if_pos hi]
  rw [e]; exact h3
end
theorem set_vals {ps : List Pt} {i : Nat} (hi : i < ps.length) (d : List UInt8) : (ps.set i (ps[i].1, ps[i].2.1, d)).flatMap mF = ps.flatMap mF := by
  have e : ps.set i (ps[i].1, ps[i].2.1, d) = ps.take i ++ (ps[i].1, ps[i].2.1, d) :: ps.drop (i + 1) := by rw [List.set_eq_take_append_cons_drop, if_pos hi]
  have e2 : ps = ps.take i ++ ps[i] :: ps.drop (i + 1) := by rw [← List.drop_eq_getElem_cons hi, List.take_append_drop]
  conv => rhs; rw [e2]
  rw [e, List.flatMap_append, List.flatMap_append, List.flatMap_cons, List.flatMap_cons]
  rfl
end Vw
namespace Vw
open Go
theorem bigS_pre : ∀ {L R : List Asrt} {h : Heaplet}, bigS (L ++ R) h → bigS L h
  | [], _, _, _ => trivial
  | A :: L, R, h, hh => star_mono (fun x hx => bigS_pre hx) hh
/-- The first ones alone. -/
theorem St.keep {σ : Sig} {w : World} (L R : List Asrt) (hs : St σ w (L ++ R)) : St σ w L := by
  obtain ⟨h, hh, hb⟩ := hs.has
  exact ⟨hs.kept, h, hh, bigS_pre hb⟩
end Vw
namespace Vw
open Go
section
variable {P : Program} {ρ : Operand → Value}
variable {d : Option Nat} {ty : TypeId} {pos : String} {after : Array Edge} {g : Option (Nat × Bool)}
/-- A field's place, wherever the struct lies. -/
theorem x_fieldAddrG {s f off : Nat} {x : Operand} {p : Addr} (hf : FoT P s f off) (hx : ρ x = .pointer (some p)) (w : World) :
    (execOp ρ ⟨d, .fieldAddr s x f, ty, pos, after, g⟩).run P w = .ok (.value (.pointer (some (p.add off)))) w := by
  obtain ⟨fs, fld, k, h1, h2, h3, h4⟩ := hf.fits
  simp [execOp, Instr.fieldAt, Instr.sureAddr, fieldPlace, go_sem, hx, run_underlying h1, h2, h4, h3]
/-- A load of a field of an element of a slice. -/
theorem x_loadF {α : Type} {f : α → List Value} {sz t n c k : Nat} {x : Operand} {p : Addr} {l : List α} {i : Int} {u : Value} {w : World} (ht : ScT P t) (hf : ∀ x, (f x).length = sz) (hr : RdS f sz (hp w) (.slice (some p) n c) l)
    (hx : ρ x = .pointer (some ((p.add (i.toNat * sz)).add k))) (hi : i.toNat < l.length) (hk : (f l[i.toNat])[k]? = some u) :
    (execOp ρ ⟨d, .load t x, ty, pos, after, g⟩).run P w = .ok (.value u) w := by
  refine x_load ht hx ?_
  rcases hr.2 with ⟨c', e, hn⟩ | ⟨a', c', e, _, hc⟩
  · omega
  · cases e
    rw [Addr_add_add, cell_hp]
    refine hc _ _ ?_
    rw [flatMap_get hf l _ _ hi (by have := (List.getElem?_eq_some_iff.1 hk).1; rw [hf] at this; exact this)]
    exact hk
end
end Vw
