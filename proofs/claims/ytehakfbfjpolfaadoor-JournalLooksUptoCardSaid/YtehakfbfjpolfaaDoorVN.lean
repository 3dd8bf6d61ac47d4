/- The small proof library: what may be read while a part is held; copies at a place; the disk's calls by cases. -/
import Derived.Test.YtehakfbfjpolfaaDoorVM
set_option linter.all false
namespace Vw
open Go
/-- Whoever holds R may read the slice as these bytes. -/
def Rdy (σ : Sig) (R : List Asrt) (v : Value) (l : List UInt8) : Prop := ∀ (w : World) (L : List Asrt), St σ w (L ++ R) → RdB (hp w) v l
theorem take_append {A : Asrt} {R R' : List Asrt} (tk : Take A R R') : ∀ L : List Asrt, Take A (L ++ R) (L ++ R')
  | [] => tk
  | C :: L => .there C (take_append tk L)
theorem Rdy.own {σ : Sig} {R R' : List Asrt} {T : Nat} {v : Value} {l : List UInt8} (tk : Take (slB T v l) R R') : Rdy σ R v l := fun w L hs => hs.rdB (take_append tk L) fun h => slB_rd
theorem Rdy.old {w0 : World} {R : List Asrt} {v : Value} {l : List UInt8} (h : RdB (hp w0) v l) : Rdy ⟨w0, None_⟩ R v l := fun w L hs => hs.oldB h
theorem Rdy.more {σ : Sig} {R : List Asrt} {v : Value} {l : List UInt8} (h : Rdy σ R v l) (A : List Asrt) : Rdy σ (A ++ R) v l := fun w L hs => h w (L ++ A) (by rw [List.append_assoc]; exact hs)
theorem Rdy.sub {σ : Sig} {R : List Asrt} {a : Option Addr} {n c : Nat} {l : List UInt8} (h : Rdy σ R (.slice a n c) l) (hn : l.length = n) {i j : Nat} (h1 : i ≤ j) (h2 : j ≤ n) : Rdy σ R (.slice (subA a c i 1) (j - i) (c - i)) ((l.drop i).take (j - i)) :=
  fun w L hs => (h w L hs).sub hn h1 h2

section
variable {P : Program} {ρ : Operand → Value} {K : Value → World → Prop} {w : World}
variable {d : Option Nat} {ty : TypeId} {pos : String} {after : Array Edge} {g : Option (Nat × Bool)}
variable {σ : Sig} {L R : List Asrt}
theorem slB_open {T n c b : Nat} {l : List UInt8} (hs1 : St σ w (slB T (.slice (some ⟨b, 0, none⟩) n c) l :: R)) (hl : l.length = n) :
    ∃ cur : List Value, n ≤ c ∧ c ≤ maxLen ∧ cur.length = c ∧ cur.take n = l.map u8v ∧ St σ w (cb b T cur :: R) := by
  replace hs1 : St σ w (ex (fun cur : List Value => star (pure_ (n ≤ c ∧ c ≤ maxLen ∧ cur.length = c * 1 ∧ cur.take (n * 1) = l.map u8v)) (cb b T cur)) :: R) := hs1.imp fun h hh => by
    obtain ⟨_, hh⟩ := hh
    rcases hh with ⟨e, _⟩ | ⟨b', cap, cur, e, h1, h2, h3, h4, h5⟩
    · cases e
    · injection e with e1 e2 e3
      injection e1 with e1
      injection e1 with e1
      subst e1 e3
      rw [hl] at h1 h4
      exact ⟨cur, fun _ => none, h, fun _ => .inl rfl, (fun k o e => by cases e), hle.refl _, ⟨h1, h2, h3, h4⟩, h5⟩
  obtain ⟨cur, hs1⟩ := hs1.ex
  obtain ⟨⟨h1, h2, h3, h4⟩, hs1⟩ := hs1.pure_
  simp only [Nat.mul_one] at h3 h4
  exact ⟨cur, h1, h2, h3, h4, hs1⟩
/-- copy into an owned slice of bytes, from a place on. -/
theorem y_copyAt {t u e by_ n c b o T dn dc : Nat} {z : Value} {x y : Operand} {l s : List UInt8} {sv : Value} (hs : St σ w L) (ht : SlT P t e 1 by_ z)
    (hx : ρ x = .slice (subA (some ⟨b, 0, none⟩) c o 1) dn dc) (hdn : dn = n - o) (hy : ρ y = sv) (tk : Take (slB T (.slice (some ⟨b, 0, none⟩) n c) l) L R) (hr : RdB (hp w) sv s) (ho : o ≤ n) (hl : l.length = n)
    (h : ∀ w', St σ w' (slB T (.slice (some ⟨b, 0, none⟩) n c) (spl l o (s.take (min s.length (n - o)))) :: R) → K (.int .i64 (min s.length (n - o) : Nat)) w') :
    Does P ρ ⟨d, .call ⟨.builtin .copy, #[x, y], #[t, u]⟩, ty, pos, after, g⟩ w K := by
  subst hdn
  obtain ⟨cur, h1, h2, h3, h4, hs1⟩ := slB_open (hs.take tk) hl
  have hsub : ∃ p, subA (some (⟨b, 0, none⟩ : Addr)) c o 1 = some p ∧ (n - o ≠ 0 → p = ⟨b, o, none⟩) := by
    unfold subA
    by_cases hc : c = o
    · rw [if_pos hc]; exact ⟨_, rfl, fun h => by omega⟩
    · rw [if_neg hc]; exact ⟨_, rfl, fun _ => by simp [Addr.add]; omega⟩
  obtain ⟨p, hp1, hp2⟩ := hsub
  rw [hp1] at hx
  have hsl : (s.take (min s.length (n - o))).length = min s.length (n - o) := by rw [List.length_take]; omega
  refine y_copy (o := o) (sn := s.length) (xs := s.map u8v) (T := T) (vs := cur) hs1 ht hx hy hp2 hr (oneCell_of_bytes _) (.here _) (by omega) fun w' hs' => ?_
  refine h w' (hs'.imp fun hh hb => ?_)
  have hlen : (spl l o (s.take (min s.length (n - o)))).length = n := by rw [spl_length _ _ _ (by omega), hl]
  refine ⟨by simp, .inr ⟨b, c, _, by rw [hlen], by rw [hlen]; exact h1, h2, ?_, ?_, hb⟩⟩
  · simp; omega
  · rw [hlen, Nat.mul_one]
    have e1 : (cur.take o ++ (s.map u8v).take (min s.length (n - o)) ++ cur.drop (o + min s.length (n - o))).take n = (cur.take n).take o ++ (s.map u8v).take (min s.length (n - o)) ++ (cur.take n).drop (o + min s.length (n - o)) := by
      rw [List.take_append, List.take_append]
      have ea : (cur.take o).length = o := by rw [List.length_take]; omega
      have eb : ((s.map u8v).take (min s.length (n - o))).length = min s.length (n - o) := by rw [List.length_take, List.length_map]; omega
      rw [List.take_take, List.take_of_length_le (l := (s.map u8v).take _) (by rw [eb, ea]; omega), List.take_take, List.drop_take]
      rw [List.length_append, ea, eb, Nat.min_comm n o]
    rw [e1, h4]
    unfold spl
    rw [hsl]
    simp [List.map_take, List.map_drop]
/-- An owned slice made shorter. -/
theorem St.cutSl {T n c m : Nat} {a : Option Addr} {l : List UInt8} (hs : St σ w (slB T (.slice a n c) l :: R)) (hm : m ≤ l.length) : St σ w (slB T (.slice a m c) (l.take m) :: R) := hs.imp fun h hh => slB_take hh hm
end

theorem wrS_dead {s : DS} {off : Int} {data : List UInt8} (h : s.dead = true) : wrS s off data = (12, s) := by unfold wrS; rw [if_pos h]
theorem wrS_neg {s : DS} {off : Int} {data : List UInt8} (h : s.dead = false) (h1 : off < 0) : wrS s off data = (1, s) := by unfold wrS; rw [if_neg (by simp [h]), if_pos h1]
theorem wrS_big {s : DS} {off : Int} {data : List UInt8} (h : s.dead = false) (h1 : 0 ≤ off) (h2 : s.room < data.length ∨ s.room - data.length < off) : wrS s off data = (10, s) := by unfold wrS; rw [if_neg (by simp [h]), if_neg (by omega), if_pos h2]
theorem wrS_fuse {s : DS} {off : Int} {data : List UInt8} (h : s.dead = false) (h1 : 0 ≤ off) (h2 : off + data.length ≤ s.room) (h3 : s.fuse = 0) : wrS s off data = (12, spent s) := by unfold wrS; rw [if_neg (by simp [h]), if_neg (by omega), if_neg (by omega), if_pos h3]
theorem wrS_none {s : DS} {off : Int} {data : List UInt8} (h : s.dead = false) (h1 : 0 ≤ off) (h2 : off + data.length ≤ s.room) (h3 : s.fuse ≠ 0) (h4 : data = []) : wrS s off data = (0, spent s) := by unfold wrS; rw [if_neg (by simp [h]), if_neg (by omega), if_neg (by omega), if_neg h3, if_pos h4]
theorem wrS_some {s : DS} {off : Int} {data : List UInt8} (h : s.dead = false) (h1 : 0 ≤ off) (h2 : off + data.length ≤ s.room) (h3 : s.fuse ≠ 0) (h4 : data ≠ []) : wrS s off data = (0, sized (layW (spent s) off.toNat data) s.now.length) := by unfold wrS; rw [if_neg (by simp [h]), if_neg (by omega), if_neg (by omega), if_neg h3, if_neg h4]
theorem trS_dead {s : DS} {n : Int} (h : s.dead = true) : trS s n = (12, s) := by unfold trS; rw [if_pos h]
theorem trS_neg {s : DS} {n : Int} (h : s.dead = false) (h1 : n < 0) : trS s n = (1, s) := by unfold trS; rw [if_neg (by simp [h]), if_pos h1]
theorem trS_big {s : DS} {n : Int} (h : s.dead = false) (h1 : 0 ≤ n) (h2 : s.room < n) : trS s n = (10, s) := by unfold trS; rw [if_neg (by simp [h]), if_neg (by omega), if_pos h2]
theorem trS_fuse {s : DS} {n : Int} (h : s.dead = false) (h1 : 0 ≤ n) (h2 : n ≤ s.room) (h3 : s.fuse = 0) : trS s n = (12, spent s) := by unfold trS; rw [if_neg (by simp [h]), if_neg (by omega), if_neg (by omega), if_pos h3]
theorem trS_some {s : DS} {n : Int} (h : s.dead = false) (h1 : 0 ≤ n) (h2 : n ≤ s.room) (h3 : s.fuse ≠ 0) : trS s n = (0, sized (trN (spent s) n.toNat) s.now.length) := by unfold trS; rw [if_neg (by simp [h]), if_neg (by omega), if_neg (by omega), if_neg h3]
theorem syS_dead {s : DS} (h : s.dead = true) : syS s = (12, s) := by unfold syS; rw [if_pos h]
theorem syS_fuse {s : DS} (h : s.dead = false) (h3 : s.fuse = 0) : syS s = (12, spent s) := by unfold syS; rw [if_neg (by simp [h]), if_pos h3]
theorem syS_some {s : DS} (h : s.dead = false) (h3 : s.fuse ≠ 0) : syS s = (0, { spent s with dur := s.now, pcs := [], sizes := [] }) := by unfold syS; rw [if_neg (by simp [h]), if_neg h3]
theorem spent_0 {s : DS} (h : s.fuse = 0) : spent s = { s with dead := true } := by unfold spent; rw [if_pos h]
theorem spent_pos {s : DS} (h : 0 < s.fuse) : spent s = { s with fuse := s.fuse - 1, calls := s.calls + 1 } := by unfold spent; rw [if_neg (by omega), if_pos h]
theorem spent_neg {s : DS} (h : s.fuse < 0) : spent s = { s with calls := s.calls + 1 } := by unfold spent; rw [if_neg (by omega), if_neg (by omega)]
theorem sized_eq {s : DS} {n : Nat} (h : s.now.length = n) : sized s n = s := by unfold sized; rw [if_neg (by simpa using h)]
theorem sized_ne {s : DS} {n : Nat} (h : s.now.length ≠ n) : sized s n = { s with sizes := s.sizes ++ [s.now.length] } := by unfold sized; rw [if_pos h]
theorem layW_hole {s : DS} {off : Nat} {data : List UInt8} (h : s.now.length < off) : layW s off data = layS s s.now.length (List.replicate (off - s.now.length) 0 ++ data) := by unfold layW; rw [if_pos h]
theorem layW_in {s : DS} {off : Nat} {data : List UInt8} (h : off ≤ s.now.length) : layW s off data = layS s off data := by unfold layW; rw [if_neg (by omega)]
theorem trC_up {s : DS} {n : Nat} (h : s.now.length < n) : trC s n = layS s s.now.length (List.replicate (n - s.now.length) 0) := by unfold trC; rw [if_pos h]
theorem trC_in {s : DS} {n : Nat} (h : n ≤ s.now.length) : trC s n = s := by unfold trC; rw [if_neg (by omega)]
theorem szC_append (l : List Nat) (n : Nat) : szC (l ++ [n]) = szC l ++ [.int .i64 (n : Int)] := by simp [szC]
theorem eps_len {es : List Ent} {pcs : List Pc} (h : Grp es pcs) (s : Nat) : (eps es s).length ≤ pcs.length := by rw [h]; unfold secP; exact List.length_filter_le _ _
end Vw
namespace Vw
open Go
theorem RdB.pre {h : Heaplet} {a : Option Addr} {n c : Nat} {l : List UInt8} (r : RdB h (.slice a n c) l) (hn : l.length = n) {j : Nat} (h2 : j ≤ n) : RdB h (.slice a j c) (l.take j) := by
  have h0 := RdB.sub (i := 0) (j := j) r hn (by omega) h2
  have e : subA a c 0 1 = a := by unfold subA; split <;> simp [Addr.add]
  rw [e] at h0
  simpa using h0
theorem Rdy.pre {σ : Sig} {R : List Asrt} {a : Option Addr} {n c : Nat} {l : List UInt8} (h : Rdy σ R (.slice a n c) l) (hn : l.length = n) {j : Nat} (h2 : j ≤ n) : Rdy σ R (.slice a j c) (l.take j) := fun w L hs => (h w L hs).pre hn h2
theorem Rdy.rest {σ : Sig} {R : List Asrt} {a : Option Addr} {n c : Nat} {l : List UInt8} (h : Rdy σ R (.slice a n c) l) (hn : l.length = n) {i : Nat} (h1 : i ≤ n) : Rdy σ R (.slice (subA a c i 1) (n - i) (c - i)) (l.drop i) := by
  have := h.sub hn h1 (Nat.le_refl n)
  rwa [List.take_of_length_le (by rw [List.length_drop]; omega)] at this
theorem grp_push {es es' : List Ent} {P : List Pc} {pc : Pc} (hg : Grp es P) (h1 : eps es' (pc.1 / 512) = eps es (pc.1 / 512) ++ [pc]) (h2 : ∀ s, s ≠ pc.1 / 512 → eps es' s = eps es s) : Grp es' (P ++ [pc]) := by
  intro s
  rw [secP_append]
  by_cases e : s = pc.1 / 512
  · subst e
    rw [h1, hg]
    simp [secP]
  · rw [h2 s e, hg]
    have : secP [pc] s = [] := by simp [secP]; omega
    rw [this, List.append_nil]
/-- An entry's new list, brought into the form that the map takes back. -/
theorem push_form {σ : Sig} {w : World} {R : List Asrt} {Q T n : Nat} {v u : Value} {at_ : Nat} {d : List UInt8} {ps : List Pt} {xs : List Value} (hs : St σ w (sl Q 2 v n xs :: slB T u d :: datA T ps :: R)) (hn : n = (ps ++ [((at_, u, d) : Pt)]).length) (hx : xs = (ps ++ [((at_, u, d) : Pt)]).flatMap pcF) :
    St σ w (sl Q 2 v (ps ++ [((at_, u, d) : Pt)]).length ((ps ++ [((at_, u, d) : Pt)]).flatMap pcF) :: datA T (ps ++ [((at_, u, d) : Pt)]) :: R) := by
  subst hn hx
  have h1 : St σ w (datA T ps :: slB T u d :: sl Q 2 v (ps ++ [((at_, u, d) : Pt)]).length ((ps ++ [((at_, u, d) : Pt)]).flatMap pcF) :: R) := (hs.take (.there _ (.here _))).take (.there _ (.there _ (.here _)))
  exact (datA_push (p := (at_, u, d)) h1).take (.there _ (.here _))
end Vw
namespace Vw
open Go
theorem St.ofBb {σ : Sig} {w : World} {R : List Asrt} {b T n : Nat} {l : List UInt8} (hs : St σ w (bb b T l :: R)) (hn : l.length = n) (hm : n ≤ 281474976710656) : St σ w (slB T (.slice (some ⟨b, 0, none⟩) n n) l :: R) := by
  subst hn
  refine hs.imp fun h hb => ?_
  have h9 := slB_of_bb (n := l.length) (Nat.le_refl _) (by rw [maxLen_eq]; omega) hb
  rwa [List.take_length] at h9
end Vw
