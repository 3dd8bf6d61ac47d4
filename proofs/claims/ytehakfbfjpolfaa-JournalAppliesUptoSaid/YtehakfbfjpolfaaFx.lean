/- The statement JournalNeeds. -/
import Derived.Test.YtehakfbfjpolfaaVJ
import Derived.Test.YtehakfbfjpolfaaFw
import Derived.Test.YtehakfbfjpolfaaProg
import Derived.Test.YtehakfbfjpolfaaFacts
set_option maxRecDepth 100000
set_option linter.all false
namespace Go.Proofs.Ytehakfbfjpolfaa
open Go Vw
def fullV (z : Wr) : Value := .slice z.2.1 (z.2.2.2.length + 4) z.2.2.1
def fA (z : Wr) : List Value := [fullV z]
def Gd (h : Heaplet) (z : Wr) : Prop := RdB h (fullV z) (z.2.2.2 ++ [0xC0, 0xC1, 0xC2, 0xC3])
def rowG : List Wr → Asrt
  | [] => fun _ => True
  | z :: r => star (slB 5 (fullV z) (z.2.2.2 ++ [0xC0, 0xC1, 0xC2, 0xC3])) (rowG r)
theorem rowG_rd : ∀ (l : List Wr) (h : Heaplet), rowG l h → ∀ z ∈ l, Gd h z
  | [], _, _, z, hz => absurd hz (by simp)
  | x :: l, h, hh, z, hz => by
    obtain ⟨h1, h2, _, l1, l2, a1, a2⟩ := hh
    rcases List.mem_cons.1 hz with rfl | hz
    · exact RdC.mono l1 (slB_rd a1)
    · exact RdC.mono l2 (rowG_rd l h2 a2 z hz)
theorem seeG {σ : Sig} {w : World} {R : List Asrt} {l : List Wr} (hs : St σ w (rowG l.reverse :: R)) : ∀ z ∈ l, Gd (hp w) z := by
  refine hs.see (p := ∀ z ∈ l, Gd (hp w) z) fun h hh hr z hz => ?_
  exact RdC.mono (fun k o e => hh k o e) (rowG_rd _ h hr z (by simpa using hz))
def dkW (z : Wr) : Int × List UInt8 := (z.1, z.2.2.2)
theorem dk_key {l m : List Wr} (h : l.map dkW = m.map dkW) : l.map keyW = m.map keyW := by
  have e : ∀ l : List Wr, l.map keyW = (l.map dkW).map (fun p => (p.1, (p.2.length : Int))) := fun l => by rw [List.map_map]; rfl
  rw [e, e, h]
theorem dk_get {l m : List Wr} (h : l.map dkW = m.map dkW) {i : Nat} (h1 : i < l.length) (h2 : i < m.length) : l[i].1 = m[i].1 ∧ l[i].2.2.2 = m[i].2.2.2 := by
  have e1 : (l.map dkW)[i]? = some (dkW l[i]) := by simp [h1]
  have e2 : (m.map dkW)[i]? = some (dkW m[i]) := by simp [h2]
  rw [h, e2] at e1
  have := Option.some.inj e1
  simp only [dkW, Prod.mk.injEq] at this
  exact ⟨this.1.symm, this.2.symm⟩
theorem Gd.pre {h : Heaplet} {z : Wr} (g : Gd h z) (hcap : z.2.2.2.length + 4 ≤ z.2.2.1) : RdB h (.slice z.2.1 z.2.2.2.length z.2.2.1) z.2.2.2 := by
  have h0 := RdB.sub (i := 0) (j := z.2.2.2.length) g (by simp) (by omega) (by simp)
  have e : subA z.2.1 z.2.2.1 0 1 = z.2.1 := by unfold subA; split <;> simp [Addr.add]
  rw [e] at h0
  simpa using h0

theorem framedWrites_spec (w0 : World) (aw : Option Addr) (cw : Nat) (ws : List Wr) (hrw : RdS wF 2 (hp w0) (.slice aw ws.length cw) ws) (hlw : ws.length ≤ 1048576) (hgd : ∀ z ∈ ws, RdB (hp w0) (.slice z.2.1 z.2.2.2.length z.2.2.1) z.2.2.2 ∧ z.2.2.2.length ≤ 1048576) : Calls Try.prog 7 #[.slice aw ws.length cw] w0 fun e w' => ∃ a c a2 c2 us, e = .returned (.tuple #[.slice a us.length c, .slice a2 us.length c2]) ∧ us.length = ws.length ∧ us.map dkW = ws.map dkW ∧ RdS wF 2 (hp w') (.slice a us.length c) us ∧ RdS fA 1 (hp w') (.slice a2 us.length c2) us ∧ (∀ z ∈ us, Gd (hp w') z) ∧ Kept w0 w' None_ := by
  have hs := (((St.start w0 None_).emp (A := rowG []) (fun h => trivial)).emp (A := sl 22 1 (.slice none 0 0) 0 []) (fun h => ⟨rfl, .inl ⟨rfl, rfl⟩⟩)).emp (A := sl 46 2 (.slice none 0 0) 0 []) (fun h => ⟨rfl, .inl ⟨rfl, rfl⟩⟩)
  refine c_enter (N := 43) Try.func7 rfl Try.ntmps7 (by simp) ?_
  intro a hf
  refine wp_seq ?_
  refine wp_region_lit ?_
  refine s_a hf rfl ?_; clear hf a; intro a hf
  refine s_a hf rfl ?_; clear hf a; intro a hf
  refine s_nil ?_
  refine then_n ?_
  refine wp_seq ?_
  refine wp_region_lit ?_
  refine s_a hf rfl ?_; clear hf a; intro a hf
  refine s_nil ?_
  refine then_n ?_
  refine wp_seq ?_
  refine wp_region_lit ?_
  refine s_a hf rfl ?_; clear hf a; intro a hf
  refine s_nil ?_
  refine then_n ?_
  refine wp_seq ?_
  refine wp_seq ?_
  refine wp_region_lit ?_
  refine s_a hf rfl ?_; clear hf a; intro a hf
  refine s_nil ?_
  refine then_n ?_
  refine wp_block ?_
  refine c_loop (L0 := [(0, _), (2, _), (3, _)]) (fun M w m => ∃ (i : Nat) (v v2 : Value) (us : List Wr), M = [(4, v), (5, v2), (6, .int .i64 (i : Int))] ∧ ws.length - i = m ∧ i ≤ ws.length ∧ us.length = i ∧ us.map dkW = (ws.take i).map dkW ∧ St ⟨w0, None_⟩ w [sl 46 2 v us.length (us.flatMap wF), sl 22 1 v2 us.length (us.flatMap fA), rowG us.reverse]) (M0 := [(4, .slice none 0 0), (5, .slice none 0 0), (6, .int .i64 0)]) (⟨0, _, _, [], rfl, rfl, Nat.zero_le _, rfl, rfl, hs⟩) (hf.sub ⟨rfl, rfl, rfl, rfl, rfl, rfl, trivial⟩) ?_
  clear hf hs a
  rintro M m a w ⟨i, v, v2, us, rfl, rfl, hi, hul, huk, hs⟩ hf
  refine wp_seq ?_
  refine wp_seq ?_
  refine wp_region_lit ?_
  refine s_m hf rfl ?_; clear hf a; intro a hf
  refine s_m hf rfl ?_; clear hf a; intro a hf
  refine s_v hf (x_len Try.underlying23 (hf.eval rfl)) ?_; clear hf a; intro a hf
  refine s_v hf (x_bin (hf.eval rfl) (hf.eval rfl) (r_lt _ _ _ _)) ?_; clear hf a; intro a hf
  refine s_nil ?_
  refine then_n ?_
  refine c_cond hf rfl (fun hi0 => ?_) (fun hi0 => ?_)
  · simp only [decide_eq_true_eq, decide_eq_false_iff_not, Bool.not_eq_true', Bool.not_eq_false', Bool.not_eq_true, Int.not_lt, Int.not_le] at hi0
    have hlt : i < ws.length := by omega
    obtain ⟨aw, rfl⟩ := hrw.some (by omega)
    obtain ⟨ab, ao2, rfl⟩ := rdS_plain (sz := 2) (fun _ => rfl) (by decide) hrw (by omega)
    have hg := hgd _ (List.getElem_mem hlt)
    refine wp_skip ?_
    refine then_n ?_
    refine wp_seq ?_
    refine wp_block ?_
    refine wp_seq ?_
    refine wp_region_lit ?_
    refine s_m hf rfl ?_; clear hf a; intro a hf
    refine s_m hf rfl ?_; clear hf a; intro a hf
    refine s_v hf (x_indexAddr sl23 (hf.eval rfl) (hf.eval rfl) (by omega) (by omega)) ?_; clear hf a; intro a hf
    replace hf := hf.now (k := 16) (v' := .pointer (some ⟨ab, ao2 + i * 2, none⟩)) rfl (by rw [addr_add]; rfl)
    refine s_v hf (x_fieldAddr fo46_1 (hf.eval rfl)) ?_; clear hf a; intro a hf
    refine s_r hf (x_load sc22 (hf.eval rfl) (rdS_cellAt (f := wF) (sz := 2) (fun _ => rfl) (hs.old hrw) (k := 1) hlt rfl)) ?_; clear hf a; intro a hf
    refine s_do hf rfl (y_call (hf.eval rfl) (hf.evals rfl) Try.call6 ((framed_spec _ _ _ ws[i].2.2.2 (hs.oldB hg.1) (by omega)).mono ?_))
    rintro e w1 ⟨b9, c9, rfl, hc9, hj⟩
    replace hs := hs.join hj
    simp only [List.cons_append, List.nil_append] at hs
    refine ⟨_, rfl, ?_⟩; clear hf a; intro a hf
    refine s_a hf rfl ?_; clear hf a; intro a hf
    refine s_nil ?_
    refine then_n ?_
    refine wp_seq ?_
    refine c_draw hs (fun w' => Kept w0 w' None_) [.held, .held, .held, .held, .held, .held, .held, .held, .held, .held, .held, .held, .held, .held, .held, .eff, .eff, .held] (by kernel_rfl) (by kernel_rfl) (fun w' _ hs => hs.kept) ?_
    clear hs; intro w hs hC hw
    refine m_held hf rfl (fun w' _ => x_move (hf.eval rfl) w') ?_; clear hf a; intro a hf
    refine m_held hf rfl (fun w' _ => x_move (hf.eval rfl) w') ?_; clear hf a; intro a hf
    refine m_held hf rfl (fun w' _ => x_move (hf.eval rfl) w') ?_; clear hf a; intro a hf
    refine m_held hf rfl (fun w' _ => x_indexAddr sl23 (hf.eval rfl) (hf.eval rfl) (by omega) (by omega) w') ?_; clear hf a; intro a hf
    replace hf := hf.now (k := 23) (v' := .pointer (some ⟨ab, ao2 + i * 2, none⟩)) rfl (by rw [addr_add]; rfl)
    refine m_held hf rfl (fun w' _ => x_fieldAddr fo46_0 (hf.eval rfl) w') ?_; clear hf a; intro a hf
    refine m_held hf rfl (fun w' hc => x_load sc3 (hf.eval rfl) (rdS_cellAt (f := wF) (sz := 2) (fun _ => rfl) (RdC.mono hc.hle hrw) (k := 0) hlt rfl)) ?_; clear hf a; intro a hf
    refine m_held hf rfl (fun w' _ => x_move (hf.eval rfl) w') ?_; clear hf a; intro a hf
    refine m_held hf rfl (fun w' _ => x_move (hf.eval rfl) w') ?_; clear hf a; intro a hf
    refine m_held hf rfl (fun w' _ => x_move (hf.eval rfl) w') ?_; clear hf a; intro a hf
    refine m_held hf rfl (fun w' _ => x_indexAddr sl23 (hf.eval rfl) (hf.eval rfl) (by omega) (by omega) w') ?_; clear hf a; intro a hf
    replace hf := hf.now (k := 29) (v' := .pointer (some ⟨ab, ao2 + i * 2, none⟩)) rfl (by rw [addr_add]; rfl)
    refine m_held hf rfl (fun w' _ => x_fieldAddr fo46_1 (hf.eval rfl) w') ?_; clear hf a; intro a hf
    refine m_held hf rfl (fun w' hc => x_load sc22 (hf.eval rfl) (rdS_cellAt (f := wF) (sz := 2) (fun _ => rfl) (RdC.mono hc.hle hrw) (k := 1) hlt rfl)) ?_; clear hf a; intro a hf
    refine m_held hf rfl (fun w' _ => x_len Try.underlying22 (hf.eval rfl) w') ?_; clear hf a; intro a hf
    refine m_held hf rfl (fun w' _ => x_slice_hi sl22 (hf.eval rfl) (hf.eval rfl)  (by omega) (by omega) w') ?_; clear hf a; intro a hf
    replace hf := hf.now (k := 33) (v' := .slice (some ⟨b9, 0, none⟩) ws[i].2.2.2.length c9) rfl (rfl)
    refine m_held hf rfl (fun w' hc => x_build (v := .agg #[.int .i64 ws[i].1, .slice (some ⟨b9, 0, none⟩) ws[i].2.2.2.length c9]) (hf.parts rfl) (fun w => by kernel_rfl) _) ?_; clear hf a; intro a hf
    refine m_eff hf rfl (y_lit (xs := [.tmp 34]) hs sl23 (hf.evals rfl) rfl (by simp [Value.cells]) (by decide) ?_); clear hf hs a; intro b2 w hs; refine ⟨hs.kept, ?_⟩; intro a hf
    refine m_eff hf rfl (y_append (n := us.length) (m := 1) (ys := [.int .i64 ws[i].1, .slice (some ⟨b9, 0, none⟩) ws[i].2.2.2.length c9]) hs sl23 (hf.eval rfl) (hf.eval rfl) (.there _ (.there _ (.here _))) (hs.rd (.here _) fun h hb => rd_rows hb rfl) (by simp [Value.oneCell']) (by omega) (by rw [maxLen_eq]; omega) ?_); clear hf hs a; intro v5 w hs hv; refine ⟨hs.kept, ?_⟩; intro a hf
    replace hs := hs.lose (.there _ (.here _))
    refine m_held hf rfl (fun w' _ => x_assign (hf.eval rfl) w') ?_; clear hf a; intro a hf
    refine m_nil ?_
    refine then_n ?_
    refine wp_region_lit ?_
    refine s_m hf rfl ?_; clear hf a; intro a hf
    refine s_m hf rfl ?_; clear hf a; intro a hf
    refine s_do hf rfl (y_lit (xs := [.tmp 38]) hs sl25 (hf.evals rfl) rfl (by simp [Value.cells]) (by decide) ?_); clear hf hs a; intro b2 w hs a hf
    refine s_do hf rfl (y_append (n := us.length) (m := 1) (ys := [.slice (some ⟨b9, 0, none⟩) (ws[i].2.2.2.length + 4) c9]) hs sl25 (hf.eval rfl) (hf.eval rfl) (.there _ (.there _ (.there _ (.here _)))) (hs.rd (.here _) fun h hb => rd_row hb rfl) (by simp [Value.oneCell']) (by omega) (by rw [maxLen_eq]; omega) ?_); clear hf hs a; intro v6 w hs hv a hf
    replace hs := hs.lose (.there _ (.here _))
    have hs5 : St ⟨w0, None_⟩ w [sl 46 2 v5 (us ++ [((ws[i].1, some (⟨b9, 0, none⟩ : Addr), c9, ws[i].2.2.2) : Wr)]).length ((us ++ [((ws[i].1, some (⟨b9, 0, none⟩ : Addr), c9, ws[i].2.2.2) : Wr)]).flatMap wF), sl 22 1 v6 (us ++ [((ws[i].1, some (⟨b9, 0, none⟩ : Addr), c9, ws[i].2.2.2) : Wr)]).length ((us ++ [((ws[i].1, some (⟨b9, 0, none⟩ : Addr), c9, ws[i].2.2.2) : Wr)]).flatMap fA), rowG (us ++ [((ws[i].1, some (⟨b9, 0, none⟩ : Addr), c9, ws[i].2.2.2) : Wr)]).reverse] := by
      rw [List.reverse_concat, List.length_append, List.flatMap_append, List.flatMap_append]
      exact ((((hs.take (.there _ (.there _ (.there _ (.here _))))).take (.there _ (.there _ (.there _ (.here _))))).unstar).take (.there _ (.here _))).take (.there _ (.there _ (.here _)))
    refine s_a hf rfl ?_; clear hf a; intro a hf
    refine s_nil ?_
    refine blk_n ?_
    refine then_n ?_
    refine wp_region_lit ?_
    refine s_m hf rfl ?_; clear hf a; intro a hf
    refine s_v hf (x_bin (hf.eval rfl) (hf.eval rfl) (r_addi _ (by omega) (by omega))) ?_; clear hf a; intro a hf
    refine s_a hf rfl ?_; clear hf a; intro a hf
    refine s_nil ?_
    exact ⟨_, _, ⟨i + 1, _, _, us ++ [((ws[i].1, some (⟨b9, 0, none⟩ : Addr), c9, ws[i].2.2.2) : Wr)], rfl, rfl, by omega, by simp; omega, by rw [List.take_succ_eq_append_getElem hlt, List.map_append, List.map_append, huk]; rfl, hs5⟩, by omega, hf.sub ⟨rfl, rfl, rfl, rfl, rfl, rfl, trivial⟩⟩
  · simp only [decide_eq_true_eq, decide_eq_false_iff_not, Bool.not_eq_true', Bool.not_eq_false', Bool.not_eq_true, Int.not_lt, Int.not_le] at hi0
    refine wp_exit ?_
    refine then_x ?_
    refine then_x ?_
    refine blk_x ?_
    refine then_n ?_
    refine wp_seq ?_
    refine wp_region_lit ?_
    refine s_m hf rfl ?_; clear hf a; intro a hf
    refine s_m hf rfl ?_; clear hf a; intro a hf
    refine s_a hf rfl ?_; clear hf a; intro a hf
    refine s_a hf rfl ?_; clear hf a; intro a hf
    refine s_nil ?_
    refine then_n ?_
    refine wp_ret ?_
    refine r_2 hf Try.results7 rfl rfl ?_
    have hi9 : i = ws.length := by omega
    obtain ⟨a5, c5, rfl⟩ := sl_shape hs
    obtain ⟨a6, c6, rfl⟩ := sl_shape (hs.take (.there _ (.here _)))
    exact ⟨a5, c5, a6, c6, us, rfl, by omega, by rw [huk, hi9, List.take_length], hs.rd (.here _) fun h hh => sl_rd hh, hs.rd (.there _ (.here _)) fun h hh => sl_rd hh, seeG (hs.take (.there _ (.there _ (.here _)))), hs.kept⟩

end Go.Proofs.Ytehakfbfjpolfaa
