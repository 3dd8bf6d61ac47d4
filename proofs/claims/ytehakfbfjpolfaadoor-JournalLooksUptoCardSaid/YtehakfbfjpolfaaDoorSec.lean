/- The seal: DecodeSeal of both; JournalDecodes. -/
import Derived.Test.YtehakfbfjpolfaaDoorVU
import Derived.Test.YtehakfbfjpolfaaDoorSea
import Derived.Test.YtehakfbfjpolfaaDoorCur
import Derived.Test.YtehakfbfjpolfaaDoorProg
import Derived.Test.YtehakfbfjpolfaaDoorFacts
set_option maxRecDepth 100000
set_option linter.all false
namespace Go.Proofs.YtehakfbfjpolfaaDoor
open Go Vw
theorem eqi {P : Program} (d : Nat) {t : Nat} {k : IntKind} (h : P.underlying t = some (.int k)) (n : Int) (w : World) : (Op.equalIn (d + 1) t (.int k n) (.int k n)).run P w = .ok true w := by
  simp [Op.equalIn, run_underlying h]
theorem pt3 (xs : Array Value) (k : Nat) (w : World) (v : Value) (h : xs[k]? = some v) : (part 3 xs k).run Tryd.prog w = .ok v w := by
  simp [part, go_sem, (fun w => Tryd.isAgg3 w), h]
theorem pt22 (xs : Array Value) (k : Nat) (w : World) (v : Value) (h : xs[k]? = some v) : (part 22 xs k).run Tryd.prog w = .ok v w := by
  simp [part, go_sem, (fun w => Tryd.isAgg22 w), h]
theorem seal_eq (d : Nat) (w : World) (s : Sl) : (Op.equalIn (d + 2) 24 (.agg (slF s).toArray) (.agg (slF s).toArray)).run Tryd.prog w = .ok true w := by
  have hst : Tryd.prog.stoodInHeld 24 = false := by kernel_rfl
  have h0 := pt3 (slF s).toArray 0 w (.int .i64 s.1) rfl
  have h1 := pt3 (slF s).toArray 1 w (.int .i64 s.2.1) rfl
  have h2 := pt3 (slF s).toArray 2 w (.int .i64 s.2.2.1) rfl
  have h3 := pt3 (slF s).toArray 3 w (.int .i64 s.2.2.2.1) rfl
  have h4 := pt3 (slF s).toArray 4 w (.int .i64 s.2.2.2.2.1) rfl
  have h5 := pt3 (slF s).toArray 5 w (.int .i64 s.2.2.2.2.2.1) rfl
  have h6 := pt22 (slF s).toArray 6 w (.int .u32 (s.2.2.2.2.2.2 : Int)) rfl
  have hp : ∀ {α : Type} (f : Program → Sem α), Sem.run Tryd.prog (Sem.program f) w = Sem.run Tryd.prog (f Tryd.prog) w := fun f => rfl
  have hq : Sem.run Tryd.prog (Sem.pure Tryd.prog) w = .ok Tryd.prog w := rfl
  have e3 := fun n => eqi (P := Tryd.prog) d (t := 3) Tryd.underlying3 n w
  have e22 := fun n => eqi (P := Tryd.prog) d (t := 22) Tryd.underlying22 n w
  rw [Op.equalIn]
  simp only [Sem.run_bind, run_underlying Tryd.underlying24, Result.andThen_ok]
  simp only [program, Sem.run_bind, hp, hq, hst, Sem.run_pure, Result.andThen_ok, if_false, Bool.false_eq_true, ← Array.forIn_toList, List.forIn_cons, List.forIn_nil, h0, h1, h2, h3, h4, h5, h6, e3, e22, Bool.not_true, ne_eq, String.reduceEq, not_false_eq_true, if_true]
theorem x_sealEq {ρ : Operand → Value} {d : Option Nat} {ty : TypeId} {pos : String} {after : Array Edge} {g : Option (Nat × Bool)} {u : TypeId} {x y : Operand} {s t : Sl} (hx : ρ x = .agg (slF s).toArray) (hy : ρ y = .agg (slF t).toArray) (h : s = t) (w : World) :
    (execOp ρ ⟨d, .binOp .eql 24 x y u, ty, pos, after, g⟩).run Tryd.prog w = .ok (.value (.bool true)) w := by
  subst h
  have h1 := seal_eq 9998 w s
  simp only [execOp, hx, hy]
  simp [eqGuard, binOp, Op.equal, Op.maxDepth, go_sem, h1]
theorem x_sealNe {ρ : Operand → Value} {d : Option Nat} {ty : TypeId} {pos : String} {after : Array Edge} {g : Option (Nat × Bool)} {u : TypeId} {x y : Operand} {s t : Sl} (hx : ρ x = .agg (slF s).toArray) (hy : ρ y = .agg (slF t).toArray) (h : s = t) (w : World) :
    (execOp ρ ⟨d, .binOp .neq 24 x y u, ty, pos, after, g⟩).run Tryd.prog w = .ok (.value (.bool false)) w := by
  subst h
  have h1 := seal_eq 9998 w s
  simp only [execOp, hx, hy]
  simp [eqGuard, binOp, Op.equal, Op.maxDepth, go_sem, h1]

theorem beq_iff_decide (l m : List UInt8) : (l == m) = decide (l = m) := by
  by_cases h : l = m
  · subst h; simp
  · rw [decide_eq_false h]; exact beq_eq_false_iff_ne.2 h

theorem bequal_spec (w0 : World) (a1 : Option Addr) (c1 : Nat) (l1 : List UInt8) (hr1 : RdB (hp w0) (.slice a1 l1.length c1) l1) (a2 : Option Addr) (c2 : Nat) (l2 : List UInt8) (hr2 : RdB (hp w0) (.slice a2 l2.length c2) l2) : Calls Tryd.prog 52 #[.slice a1 l1.length c1, .slice a2 l2.length c2] w0 fun e w' => e = .returned (.bool (decide (l1 = l2))) ∧ w' = w0 := by
  refine c_enter (N := 10) Tryd.func52 rfl Tryd.ntmps52 (by simp) ?_
  intro a hf
  refine wp_seq ?_
  refine wp_region_lit ?_
  refine s_a hf rfl ?_; clear hf a; intro a hf
  refine s_nil ?_
  refine then_n ?_
  refine wp_seq ?_
  refine wp_region_lit ?_
  refine s_m hf rfl ?_; clear hf a; intro a hf
  refine s_r hf (x_bytesStr Tryd.underlying25 Tryd.underlying9 Tryd.underlying5 (hf.eval rfl) hr1) ?_; clear hf a; intro a hf
  refine s_m hf rfl ?_; clear hf a; intro a hf
  refine s_r hf (x_bytesStr Tryd.underlying25 Tryd.underlying9 Tryd.underlying5 (hf.eval rfl) hr2) ?_; clear hf a; intro a hf
  refine s_v hf (x_strEq (hf.eval rfl) (hf.eval rfl)) ?_; clear hf a; intro a hf
  refine s_a hf rfl ?_; clear hf a; intro a hf
  refine s_nil ?_
  refine then_n ?_
  refine wp_ret ?_
  refine r_1 hf Tryd.results52 rfl ?_
  exact ⟨by congr 2; rw [bytes_toList, bytes_toList]; exact (beq_iff_decide l1 l2), rfl⟩

theorem decode_big (w0 : World) (hT : Tab 0 (hp w0)) (a1 : Option Addr) (c1 : Nat) (data : List UInt8) (hr1 : RdB (hp w0) (.slice a1 data.length c1) data) (hl1 : data.length ≤ 140737488351232) (h36 : 36 ≤ data.length) : Calls Tryd.prog 16 #[.slice a1 data.length c1] w0 fun e w' => e = .returned (.tuple #[.agg (slF (decV data)).toArray, .int .i64 (decE data)]) ∧ Kept w0 w' None_ := by
  have hs := St.start w0 None_
  refine c_enter (N := 48) Tryd.func16 rfl Tryd.ntmps16 (by simp) ?_
  intro a hf
  refine wp_seq ?_
  refine wp_region_lit ?_
  refine s_do hf rfl (y_alloc hs Tryd.zeroValue24 ?_); clear hf hs a; intro b2 w hs a hf
  change St _ _ (cb b2 24 (slF zSl) :: _) at hs
  refine s_a hf rfl ?_; clear hf a; intro a hf
  refine s_nil ?_
  refine then_n ?_
  refine wp_seq ?_
  refine wp_region_lit ?_
  refine s_m hf rfl ?_; clear hf a; intro a hf
  refine s_do hf rfl (y_call (hf.eval rfl) (hf.evals rfl) Tryd.call48 ((newCursor_spec _ _ _ data (hs.oldB hr1) hl1).mono ?_))
  rintro e w1 ⟨p, rfl, hj⟩
  replace hs := hs.join hj
  simp only [List.cons_append, List.nil_append] at hs
  refine ⟨_, rfl, ?_⟩; clear hf a; intro a hf
  refine s_a hf rfl ?_; clear hf a; intro a hf
  refine s_nil ?_
  refine then_n ?_
  refine wp_seq ?_
  refine wp_region_lit ?_
  refine s_m hf rfl ?_; clear hf a; intro a hf
  replace hs := hs.take (A := curA 119 5 p data 0 0) (by first | exact .here _ | exact .there _ (.here _) | exact .there _ (.there _ (.here _)) | exact .there _ (.there _ (.there _ (.here _))) | exact .there _ (.there _ (.there _ (.there _ (.here _)))) | exact .there _ (.there _ (.there _ (.there _ (.there _ (.here _))))) | exact .there _ (.there _ (.there _ (.there _ (.there _ (.there _ (.here _)))))) | exact .there _ (.there _ (.there _ (.there _ (.there _ (.there _ (.there _ (.here _))))))) | exact .there _ (.there _ (.there _ (.there _ (.there _ (.there _ (.there _ (.there _ (.here _)))))))) | exact .there _ (.there _ (.there _ (.there _ (.there _ (.there _ (.there _ (.there _ (.there _ (.here _))))))))) | exact .there _ (.there _ (.there _ (.there _ (.there _ (.there _ (.there _ (.there _ (.there _ (.there _ (.here _)))))))))) | exact .there _ (.there _ (.there _ (.there _ (.there _ (.there _ (.there _ (.there _ (.there _ (.there _ (.there _ (.here _))))))))))))
  refine s_do hf rfl (y_call (hf.eval rfl) (hf.evals rfl) Tryd.call49 ((skip_spec _ _ _ p data 0 0 8 hs (by omega) (by omega) (by omega)).mono ?_))
  rintro e w1 ⟨rfl, hs⟩
  rw [nx8 (by omega)] at hs
  simp only [] at hs
  refine ⟨_, rfl, ?_⟩; clear hf a; intro a hf
  refine s_nil ?_
  refine then_n ?_
  refine wp_seq ?_
  refine wp_region_lit ?_
  refine s_m hf rfl ?_; clear hf a; intro a hf
  replace hs := hs.take (A := curA 119 5 p data 8 0) (by first | exact .here _ | exact .there _ (.here _) | exact .there _ (.there _ (.here _)) | exact .there _ (.there _ (.there _ (.here _))) | exact .there _ (.there _ (.there _ (.there _ (.here _)))) | exact .there _ (.there _ (.there _ (.there _ (.there _ (.here _))))) | exact .there _ (.there _ (.there _ (.there _ (.there _ (.there _ (.here _)))))) | exact .there _ (.there _ (.there _ (.there _ (.there _ (.there _ (.there _ (.here _))))))) | exact .there _ (.there _ (.there _ (.there _ (.there _ (.there _ (.there _ (.there _ (.here _)))))))) | exact .there _ (.there _ (.there _ (.there _ (.there _ (.there _ (.there _ (.there _ (.there _ (.here _))))))))) | exact .there _ (.there _ (.there _ (.there _ (.there _ (.there _ (.there _ (.there _ (.there _ (.there _ (.here _)))))))))) | exact .there _ (.there _ (.there _ (.there _ (.there _ (.there _ (.there _ (.there _ (.there _ (.there _ (.there _ (.here _))))))))))))
  refine s_do hf rfl (y_call (hf.eval rfl) (hf.evals rfl) Tryd.call50 ((u32_spec _ _ _ p data 8 0 hs (by omega) (by omega)).mono ?_))
  rintro e w1 ⟨rfl, hs⟩
  rw [nx4 (by omega)] at hs ⊢
  simp only [] at hs ⊢
  change St _ _ (curA 119 5 p data 12 0 :: _) at hs
  refine ⟨_, rfl, ?_⟩; clear hf a; intro a hf
  refine s_m hf rfl ?_; clear hf a; intro a hf
  replace hs := hs.take (A := curA 119 5 p data 12 0) (by first | exact .here _ | exact .there _ (.here _) | exact .there _ (.there _ (.here _)) | exact .there _ (.there _ (.there _ (.here _))) | exact .there _ (.there _ (.there _ (.there _ (.here _)))) | exact .there _ (.there _ (.there _ (.there _ (.there _ (.here _))))) | exact .there _ (.there _ (.there _ (.there _ (.there _ (.there _ (.here _)))))) | exact .there _ (.there _ (.there _ (.there _ (.there _ (.there _ (.there _ (.here _))))))) | exact .there _ (.there _ (.there _ (.there _ (.there _ (.there _ (.there _ (.there _ (.here _)))))))) | exact .there _ (.there _ (.there _ (.there _ (.there _ (.there _ (.there _ (.there _ (.there _ (.here _))))))))) | exact .there _ (.there _ (.there _ (.there _ (.there _ (.there _ (.there _ (.there _ (.there _ (.there _ (.here _)))))))))) | exact .there _ (.there _ (.there _ (.there _ (.there _ (.there _ (.there _ (.there _ (.there _ (.there _ (.there _ (.here _))))))))))))
  refine s_do hf rfl (y_call (hf.eval rfl) (hf.evals rfl) Tryd.call50 ((u32_spec _ _ _ p data 12 0 hs (by omega) (by omega)).mono ?_))
  rintro e w1 ⟨rfl, hs⟩
  rw [nx4 (by omega)] at hs ⊢
  simp only [] at hs ⊢
  change St _ _ (curA 119 5 p data 16 0 :: _) at hs
  refine ⟨_, rfl, ?_⟩; clear hf a; intro a hf
  refine s_m hf rfl ?_; clear hf a; intro a hf
  replace hs := hs.take (A := curA 119 5 p data 16 0) (by first | exact .here _ | exact .there _ (.here _) | exact .there _ (.there _ (.here _)) | exact .there _ (.there _ (.there _ (.here _))) | exact .there _ (.there _ (.there _ (.there _ (.here _)))) | exact .there _ (.there _ (.there _ (.there _ (.there _ (.here _))))) | exact .there _ (.there _ (.there _ (.there _ (.there _ (.there _ (.here _)))))) | exact .there _ (.there _ (.there _ (.there _ (.there _ (.there _ (.there _ (.here _))))))) | exact .there _ (.there _ (.there _ (.there _ (.there _ (.there _ (.there _ (.there _ (.here _)))))))) | exact .there _ (.there _ (.there _ (.there _ (.there _ (.there _ (.there _ (.there _ (.there _ (.here _))))))))) | exact .there _ (.there _ (.there _ (.there _ (.there _ (.there _ (.there _ (.there _ (.there _ (.there _ (.here _)))))))))) | exact .there _ (.there _ (.there _ (.there _ (.there _ (.there _ (.there _ (.there _ (.there _ (.there _ (.there _ (.here _))))))))))))
  refine s_do hf rfl (y_call (hf.eval rfl) (hf.evals rfl) Tryd.call50 ((u32_spec _ _ _ p data 16 0 hs (by omega) (by omega)).mono ?_))
  rintro e w1 ⟨rfl, hs⟩
  rw [nx4 (by omega)] at hs ⊢
  simp only [] at hs ⊢
  change St _ _ (curA 119 5 p data 20 0 :: _) at hs
  refine ⟨_, rfl, ?_⟩; clear hf a; intro a hf
  refine s_m hf rfl ?_; clear hf a; intro a hf
  replace hs := hs.take (A := curA 119 5 p data 20 0) (by first | exact .here _ | exact .there _ (.here _) | exact .there _ (.there _ (.here _)) | exact .there _ (.there _ (.there _ (.here _))) | exact .there _ (.there _ (.there _ (.there _ (.here _)))) | exact .there _ (.there _ (.there _ (.there _ (.there _ (.here _))))) | exact .there _ (.there _ (.there _ (.there _ (.there _ (.there _ (.here _)))))) | exact .there _ (.there _ (.there _ (.there _ (.there _ (.there _ (.there _ (.here _))))))) | exact .there _ (.there _ (.there _ (.there _ (.there _ (.there _ (.there _ (.there _ (.here _)))))))) | exact .there _ (.there _ (.there _ (.there _ (.there _ (.there _ (.there _ (.there _ (.there _ (.here _))))))))) | exact .there _ (.there _ (.there _ (.there _ (.there _ (.there _ (.there _ (.there _ (.there _ (.there _ (.here _)))))))))) | exact .there _ (.there _ (.there _ (.there _ (.there _ (.there _ (.there _ (.there _ (.there _ (.there _ (.there _ (.here _))))))))))))
  refine s_do hf rfl (y_call (hf.eval rfl) (hf.evals rfl) Tryd.call50 ((u32_spec _ _ _ p data 20 0 hs (by omega) (by omega)).mono ?_))
  rintro e w1 ⟨rfl, hs⟩
  rw [nx4 (by omega)] at hs ⊢
  simp only [] at hs ⊢
  change St _ _ (curA 119 5 p data 24 0 :: _) at hs
  refine ⟨_, rfl, ?_⟩; clear hf a; intro a hf
  refine s_m hf rfl ?_; clear hf a; intro a hf
  replace hs := hs.take (A := curA 119 5 p data 24 0) (by first | exact .here _ | exact .there _ (.here _) | exact .there _ (.there _ (.here _)) | exact .there _ (.there _ (.there _ (.here _))) | exact .there _ (.there _ (.there _ (.there _ (.here _)))) | exact .there _ (.there _ (.there _ (.there _ (.there _ (.here _))))) | exact .there _ (.there _ (.there _ (.there _ (.there _ (.there _ (.here _)))))) | exact .there _ (.there _ (.there _ (.there _ (.there _ (.there _ (.there _ (.here _))))))) | exact .there _ (.there _ (.there _ (.there _ (.there _ (.there _ (.there _ (.there _ (.here _)))))))) | exact .there _ (.there _ (.there _ (.there _ (.there _ (.there _ (.there _ (.there _ (.there _ (.here _))))))))) | exact .there _ (.there _ (.there _ (.there _ (.there _ (.there _ (.there _ (.there _ (.there _ (.there _ (.here _)))))))))) | exact .there _ (.there _ (.there _ (.there _ (.there _ (.there _ (.there _ (.there _ (.there _ (.there _ (.there _ (.here _))))))))))))
  refine s_do hf rfl (y_call (hf.eval rfl) (hf.evals rfl) Tryd.call50 ((u32_spec _ _ _ p data 24 0 hs (by omega) (by omega)).mono ?_))
  rintro e w1 ⟨rfl, hs⟩
  rw [nx4 (by omega)] at hs ⊢
  simp only [] at hs ⊢
  change St _ _ (curA 119 5 p data 28 0 :: _) at hs
  refine ⟨_, rfl, ?_⟩; clear hf a; intro a hf
  refine s_m hf rfl ?_; clear hf a; intro a hf
  replace hs := hs.take (A := curA 119 5 p data 28 0) (by first | exact .here _ | exact .there _ (.here _) | exact .there _ (.there _ (.here _)) | exact .there _ (.there _ (.there _ (.here _))) | exact .there _ (.there _ (.there _ (.there _ (.here _)))) | exact .there _ (.there _ (.there _ (.there _ (.there _ (.here _))))) | exact .there _ (.there _ (.there _ (.there _ (.there _ (.there _ (.here _)))))) | exact .there _ (.there _ (.there _ (.there _ (.there _ (.there _ (.there _ (.here _))))))) | exact .there _ (.there _ (.there _ (.there _ (.there _ (.there _ (.there _ (.there _ (.here _)))))))) | exact .there _ (.there _ (.there _ (.there _ (.there _ (.there _ (.there _ (.there _ (.there _ (.here _))))))))) | exact .there _ (.there _ (.there _ (.there _ (.there _ (.there _ (.there _ (.there _ (.there _ (.there _ (.here _)))))))))) | exact .there _ (.there _ (.there _ (.there _ (.there _ (.there _ (.there _ (.there _ (.there _ (.there _ (.there _ (.here _))))))))))))
  refine s_do hf rfl (y_call (hf.eval rfl) (hf.evals rfl) Tryd.call50 ((u32_spec _ _ _ p data 28 0 hs (by omega) (by omega)).mono ?_))
  rintro e w1 ⟨rfl, hs⟩
  rw [nx4 (by omega)] at hs ⊢
  simp only [] at hs ⊢
  change St _ _ (curA 119 5 p data 32 0 :: _) at hs
  refine ⟨_, rfl, ?_⟩; clear hf a; intro a hf
  refine s_m hf rfl ?_; clear hf a; intro a hf
  replace hs := hs.take (A := curA 119 5 p data 32 0) (by first | exact .here _ | exact .there _ (.here _) | exact .there _ (.there _ (.here _)) | exact .there _ (.there _ (.there _ (.here _))) | exact .there _ (.there _ (.there _ (.there _ (.here _)))) | exact .there _ (.there _ (.there _ (.there _ (.there _ (.here _))))) | exact .there _ (.there _ (.there _ (.there _ (.there _ (.there _ (.here _)))))) | exact .there _ (.there _ (.there _ (.there _ (.there _ (.there _ (.there _ (.here _))))))) | exact .there _ (.there _ (.there _ (.there _ (.there _ (.there _ (.there _ (.there _ (.here _)))))))) | exact .there _ (.there _ (.there _ (.there _ (.there _ (.there _ (.there _ (.there _ (.there _ (.here _))))))))) | exact .there _ (.there _ (.there _ (.there _ (.there _ (.there _ (.there _ (.there _ (.there _ (.there _ (.here _)))))))))) | exact .there _ (.there _ (.there _ (.there _ (.there _ (.there _ (.there _ (.there _ (.there _ (.there _ (.there _ (.here _))))))))))))
  refine s_do hf rfl (y_call (hf.eval rfl) (hf.evals rfl) Tryd.call50 ((u32_spec _ _ _ p data 32 0 hs (by omega) (by omega)).mono ?_))
  rintro e w1 ⟨rfl, hs⟩
  rw [nx4 (by omega)] at hs ⊢
  simp only [] at hs ⊢
  change St _ _ (curA 119 5 p data 36 0 :: _) at hs
  refine ⟨_, rfl, ?_⟩; clear hf a; intro a hf
  have hlast : rd32 data 32 < 4294967296 := rd32_lt data 32
  refine s_v hf (x_conv Tryd.underlying3 Tryd.underlying22 (hf.eval rfl)) ?_; clear hf a; intro a hf
  replace hf := hf.now (k := 26) (v' := .int .u32 ((rd32 data 32 : Nat) : Int)) rfl (by rw [wrap_u32]; congr 1; have h9 : leN ((data.drop 32).take 4) < 4294967296 := hlast; show _ = ((leN ((data.drop 32).take 4) : Nat) : Int); omega)
  refine s_r hf (x_build (v := .agg (slF (dsF data : Sl)).toArray) (hf.parts rfl) (fun w => by kernel_rfl) _) ?_; clear hf a; intro a hf
  refine s_do hf rfl (y_alloc hs Tryd.zeroValue24 ?_); clear hf hs a; intro b5 w hs a hf
  change St _ _ (cb b5 24 (slF zSl) :: _) at hs
  refine s_do0 hf rfl (y_storeAgg (cs := slF (dsF data : Sl)) hs (n := 7) (by kernel_rfl) (hf.eval rfl) (hf.eval rfl) (by simp [Value.oneCell', slF]) rfl rfl (.here _) ?_); clear hf hs a; intro w hs a hf
  refine s_nil ?_
  refine then_n ?_
  refine wp_seq ?_
  refine wp_region_lit ?_
  replace hs := hs.take (A := cb b5 24 (slF (dsF data : Sl))) (by first | exact .here _ | exact .there _ (.here _) | exact .there _ (.there _ (.here _)) | exact .there _ (.there _ (.there _ (.here _))) | exact .there _ (.there _ (.there _ (.there _ (.here _)))) | exact .there _ (.there _ (.there _ (.there _ (.there _ (.here _))))) | exact .there _ (.there _ (.there _ (.there _ (.there _ (.there _ (.here _)))))) | exact .there _ (.there _ (.there _ (.there _ (.there _ (.there _ (.there _ (.here _))))))) | exact .there _ (.there _ (.there _ (.there _ (.there _ (.there _ (.there _ (.there _ (.here _)))))))) | exact .there _ (.there _ (.there _ (.there _ (.there _ (.there _ (.there _ (.there _ (.there _ (.here _))))))))) | exact .there _ (.there _ (.there _ (.there _ (.there _ (.there _ (.there _ (.there _ (.there _ (.there _ (.here _)))))))))) | exact .there _ (.there _ (.there _ (.there _ (.there _ (.there _ (.there _ (.there _ (.there _ (.there _ (.there _ (.here _))))))))))))
  refine s_r hf (x_loadBlk hs ag24 (hf.eval rfl) rfl (by first | exact .here _ | exact .there _ (.here _) | exact .there _ (.there _ (.here _)) | exact .there _ (.there _ (.there _ (.here _))) | exact .there _ (.there _ (.there _ (.there _ (.here _)))) | exact .there _ (.there _ (.there _ (.there _ (.there _ (.here _))))) | exact .there _ (.there _ (.there _ (.there _ (.there _ (.there _ (.here _)))))) | exact .there _ (.there _ (.there _ (.there _ (.there _ (.there _ (.there _ (.here _))))))) | exact .there _ (.there _ (.there _ (.there _ (.there _ (.there _ (.there _ (.there _ (.here _)))))))) | exact .there _ (.there _ (.there _ (.there _ (.there _ (.there _ (.there _ (.there _ (.there _ (.here _))))))))))) ?_; clear hf a; intro a hf
  refine s_do hf rfl (y_call (hf.eval rfl) (hf.evals rfl) Tryd.call10 ((encode_spec _ (hT.kept hs.kept) (dsF data : Sl) (by first | exact rd32_lt data 32 | exact hlast)).mono ?_))
  rintro e w1 ⟨g, cg, rfl, hj⟩
  replace hs := hs.join hj
  simp only [List.cons_append, List.nil_append] at hs
  refine ⟨_, rfl, ?_⟩; clear hf a; intro a hf
  refine s_m hf rfl ?_; clear hf a; intro a hf
  refine s_v hf (x_extract (hf.eval rfl) rfl) ?_; clear hf a; intro a hf
  refine s_v hf (x_extract (hf.eval rfl) rfl) ?_; clear hf a; intro a hf
  refine s_a hf rfl ?_; clear hf a; intro a hf
  refine s_a hf rfl ?_; clear hf a; intro a hf
  refine s_nil ?_
  refine then_n ?_
  refine wp_seq ?_
  refine wp_seq ?_
  refine wp_region_lit ?_
  refine s_m hf rfl ?_; clear hf a; intro a hf
  refine s_v hf (x_bin (hf.eval rfl) (hf.eval rfl) (r_ne _ _ _ _)) ?_; clear hf a; intro a hf
  refine s_m hf rfl ?_; clear hf a; intro a hf
  refine s_bool hf (k := 35) rfl (fun hg5_2 hf' => ?_) (fun hg5_2 hf' => ?_)
  · clear hf
    have hf := hf'
    clear hf'
    first | simp only [decide_eq_true_eq, decide_eq_false_iff_not, Bool.not_eq_true', Bool.not_eq_false'] at hg5_2 | skip
    refine s_pass hf rfl rfl ?_; clear hf a; intro a hf
    refine s_pass hf rfl rfl ?_; clear hf a; intro a hf
    refine s_pass hf rfl rfl ?_; clear hf a; intro a hf
    refine s_v hf (x_pick_t (hf.eval rfl) (hf.eval rfl)) ?_; clear hf a; intro a hf
    refine s_m hf rfl ?_; clear hf a; intro a hf
    refine s_pass hf rfl rfl ?_; clear hf a; intro a hf
    refine s_pass hf rfl rfl ?_; clear hf a; intro a hf
    refine s_pass hf rfl rfl ?_; clear hf a; intro a hf
    refine s_pass hf rfl rfl ?_; clear hf a; intro a hf
    refine s_v hf (x_pick_t (hf.eval rfl) (hf.eval rfl)) ?_; clear hf a; intro a hf
    refine s_nil ?_
    refine then_n ?_
    refine c_cond_t hf rfl rfl ?_
    have hno : decOk data = false := by
      unfold decOk
      by_cases h8 : data.length = 512
      · cases h9 : slOk (dsF data) with
        | false => simp
        | true =>
          obtain ⟨he1, he2⟩ := enc_ok h9
          first
          | exact absurd he1 hg5_2
          | (rw [he2] at hi0; rw [decide_eq_false hi0]; simp)
      · simp [h8]
    refine wp_seq ?_
    refine wp_region_lit ?_
    refine s_r hf (x_build (v := .agg (slF zSl).toArray) (hf.parts rfl) (fun w => by kernel_rfl) _) ?_; clear hf a; intro a hf
    replace hs := hs.take (A := cb b2 24 (slF zSl)) (by first | exact .here _ | exact .there _ (.here _) | exact .there _ (.there _ (.here _)) | exact .there _ (.there _ (.there _ (.here _))) | exact .there _ (.there _ (.there _ (.there _ (.here _)))) | exact .there _ (.there _ (.there _ (.there _ (.there _ (.here _))))) | exact .there _ (.there _ (.there _ (.there _ (.there _ (.there _ (.here _)))))) | exact .there _ (.there _ (.there _ (.there _ (.there _ (.there _ (.there _ (.here _))))))) | exact .there _ (.there _ (.there _ (.there _ (.there _ (.there _ (.there _ (.there _ (.here _)))))))) | exact .there _ (.there _ (.there _ (.there _ (.there _ (.there _ (.there _ (.there _ (.there _ (.here _))))))))) | exact .there _ (.there _ (.there _ (.there _ (.there _ (.there _ (.there _ (.there _ (.there _ (.there _ (.here _)))))))))) | exact .there _ (.there _ (.there _ (.there _ (.there _ (.there _ (.there _ (.there _ (.there _ (.there _ (.there _ (.here _))))))))))))
    refine s_do0 hf rfl (y_storeAgg (cs := slF zSl) hs (n := 7) (by kernel_rfl) (hf.eval rfl) (hf.eval rfl) (by simp [Value.oneCell', slF]) rfl rfl (.here _) ?_); clear hf hs a; intro w hs a hf
    refine s_a hf rfl ?_; clear hf a; intro a hf
    refine s_nil ?_
    refine then_n ?_
    refine wp_ret ?_
    refine then_r ?_
    refine r_2c hf Tryd.results16 rfl rfl hs ag24 rfl (.here _) ?_
    rw [(dec_no hno).1, (dec_no hno).2]
    exact ⟨rfl, hs.kept⟩
  · clear hf
    have hf := hf'
    clear hf'
    first | simp only [decide_eq_true_eq, decide_eq_false_iff_not, Bool.not_eq_true', Bool.not_eq_false'] at hg5_2 | skip
    refine s_do hf (wanted_of hf rfl rfl rfl) (.value (x_move (hf.eval rfl) _) ?_); clear hf a; intro a hf
    replace hs := hs.take (A := curA 119 5 p data 36 0) (by first | exact .here _ | exact .there _ (.here _) | exact .there _ (.there _ (.here _)) | exact .there _ (.there _ (.there _ (.here _))) | exact .there _ (.there _ (.there _ (.there _ (.here _)))) | exact .there _ (.there _ (.there _ (.there _ (.there _ (.here _))))) | exact .there _ (.there _ (.there _ (.there _ (.there _ (.there _ (.here _)))))) | exact .there _ (.there _ (.there _ (.there _ (.there _ (.there _ (.there _ (.here _))))))) | exact .there _ (.there _ (.there _ (.there _ (.there _ (.there _ (.there _ (.there _ (.here _)))))))) | exact .there _ (.there _ (.there _ (.there _ (.there _ (.there _ (.there _ (.there _ (.there _ (.here _))))))))) | exact .there _ (.there _ (.there _ (.there _ (.there _ (.there _ (.there _ (.there _ (.there _ (.there _ (.here _)))))))))) | exact .there _ (.there _ (.there _ (.there _ (.there _ (.there _ (.there _ (.there _ (.there _ (.there _ (.there _ (.here _))))))))))))
    refine s_do hf (wanted_of hf rfl rfl rfl) (y_call (hf.eval rfl) (hf.evals rfl) Tryd.call51 ((err_spec _ _ _ p data 36 0 hs (by omega) (by omega)).mono ?_))
    rintro e w1 ⟨rfl, hs⟩
    refine ⟨_, rfl, ?_⟩; clear hf a; intro a hf
    refine s_do hf (wanted_of hf rfl rfl rfl) (.value (x_bin (hf.eval rfl) (hf.eval rfl) (r_ne _ _ _ _) _) ?_); clear hf a; intro a hf
    refine s_v hf (x_pick_f (hf.eval rfl) (hf.eval rfl)) ?_; clear hf a; intro a hf
    refine s_m hf rfl ?_; clear hf a; intro a hf
    replace hf := hf.now (k := 40) (v' := .bool false) rfl (congrArg Value.bool rfl)
    refine s_do hf (wanted_of hf rfl rfl rfl) (.value (x_move (hf.eval rfl) _) ?_); clear hf a; intro a hf
    refine s_do hf (wanted_of hf rfl rfl rfl) (.value (x_move (hf.eval rfl) _) ?_); clear hf a; intro a hf
    replace hs := hs.take (A := slB 5 (.slice g (encV (dsF data : Sl)).length cg) (encV (dsF data : Sl))) (by first | exact .here _ | exact .there _ (.here _) | exact .there _ (.there _ (.here _)) | exact .there _ (.there _ (.there _ (.here _))) | exact .there _ (.there _ (.there _ (.there _ (.here _)))) | exact .there _ (.there _ (.there _ (.there _ (.there _ (.here _))))) | exact .there _ (.there _ (.there _ (.there _ (.there _ (.there _ (.here _)))))) | exact .there _ (.there _ (.there _ (.there _ (.there _ (.there _ (.there _ (.here _))))))) | exact .there _ (.there _ (.there _ (.there _ (.there _ (.there _ (.there _ (.there _ (.here _)))))))) | exact .there _ (.there _ (.there _ (.there _ (.there _ (.there _ (.there _ (.there _ (.there _ (.here _))))))))) | exact .there _ (.there _ (.there _ (.there _ (.there _ (.there _ (.there _ (.there _ (.there _ (.there _ (.here _)))))))))) | exact .there _ (.there _ (.there _ (.there _ (.there _ (.there _ (.there _ (.there _ (.there _ (.there _ (.there _ (.here _))))))))))))
    refine s_do hf (wanted_of hf rfl rfl rfl) (y_call (hf.eval rfl) (hf.evals rfl) Tryd.call52 ((bequal_spec _ _ _ (encV (dsF data : Sl)) (hs.rdB (.here _) fun h => slB_rd) _ _ data (hs.oldB hr1)).mono ?_))
    rintro e w1 ⟨rfl, hw9⟩
    rw [hw9]
    clear hw9 w1
    refine ⟨_, rfl, ?_⟩; clear hf a; intro a hf
    refine s_do hf (wanted_of hf rfl rfl rfl) (.value (x_not (hf.eval rfl) _) ?_); clear hf a; intro a hf
    refine s_v hf (x_pick_f (hf.eval rfl) (hf.eval rfl)) ?_; clear hf a; intro a hf
    refine s_nil ?_
    refine then_n ?_
    refine c_cond hf rfl (fun hi0 => ?_) (fun hi0 => ?_)
    · first | simp only [decide_eq_true_eq, decide_eq_false_iff_not, Bool.not_eq_true', Bool.not_eq_false'] at hi0 | skip
      have hno : decOk data = false := by
        unfold decOk
        by_cases h8 : data.length = 512
        · cases h9 : slOk (dsF data) with
          | false => simp
          | true =>
            obtain ⟨he1, he2⟩ := enc_ok h9
            first
            | exact absurd he1 hg5_2
            | (rw [he2] at hi0; rw [decide_eq_false hi0]; simp)
        · simp [h8]
      refine wp_seq ?_
      refine wp_region_lit ?_
      refine s_r hf (x_build (v := .agg (slF zSl).toArray) (hf.parts rfl) (fun w => by kernel_rfl) _) ?_; clear hf a; intro a hf
      replace hs := hs.take (A := cb b2 24 (slF zSl)) (by first | exact .here _ | exact .there _ (.here _) | exact .there _ (.there _ (.here _)) | exact .there _ (.there _ (.there _ (.here _))) | exact .there _ (.there _ (.there _ (.there _ (.here _)))) | exact .there _ (.there _ (.there _ (.there _ (.there _ (.here _))))) | exact .there _ (.there _ (.there _ (.there _ (.there _ (.there _ (.here _)))))) | exact .there _ (.there _ (.there _ (.there _ (.there _ (.there _ (.there _ (.here _))))))) | exact .there _ (.there _ (.there _ (.there _ (.there _ (.there _ (.there _ (.there _ (.here _)))))))) | exact .there _ (.there _ (.there _ (.there _ (.there _ (.there _ (.there _ (.there _ (.there _ (.here _))))))))) | exact .there _ (.there _ (.there _ (.there _ (.there _ (.there _ (.there _ (.there _ (.there _ (.there _ (.here _)))))))))) | exact .there _ (.there _ (.there _ (.there _ (.there _ (.there _ (.there _ (.there _ (.there _ (.there _ (.there _ (.here _))))))))))))
      refine s_do0 hf rfl (y_storeAgg (cs := slF zSl) hs (n := 7) (by kernel_rfl) (hf.eval rfl) (hf.eval rfl) (by simp [Value.oneCell', slF]) rfl rfl (.here _) ?_); clear hf hs a; intro w hs a hf
      refine s_a hf rfl ?_; clear hf a; intro a hf
      refine s_nil ?_
      refine then_n ?_
      refine wp_ret ?_
      refine then_r ?_
      refine r_2c hf Tryd.results16 rfl rfl hs ag24 rfl (.here _) ?_
      rw [(dec_no hno).1, (dec_no hno).2]
      exact ⟨rfl, hs.kept⟩
    · first | simp only [decide_eq_true_eq, decide_eq_false_iff_not, Bool.not_eq_true', Bool.not_eq_false'] at hi0 | skip
      have hsk : slOk (dsF data) = true := by
        cases h9 : slOk (dsF data) with
        | true => rfl
        | false => exact absurd (enc_no h9).1 (by rw [hg5_2]; decide)
      have hse : secS (dsF data) = data := by rw [← (enc_ok hsk).2]; exact hi0
      have hl5 : data.length = 512 := by rw [← hse]; exact secS_len _
      have hyes : decOk data = true := by unfold decOk; rw [hsk, decide_eq_true hl5, decide_eq_true hse]; rfl
      refine wp_skip ?_
      refine then_n ?_
      refine wp_seq ?_
      refine wp_region_lit ?_
      replace hs := hs.take (A := cb b5 24 (slF (dsF data : Sl))) (by first | exact .here _ | exact .there _ (.here _) | exact .there _ (.there _ (.here _)) | exact .there _ (.there _ (.there _ (.here _))) | exact .there _ (.there _ (.there _ (.there _ (.here _)))) | exact .there _ (.there _ (.there _ (.there _ (.there _ (.here _))))) | exact .there _ (.there _ (.there _ (.there _ (.there _ (.there _ (.here _)))))) | exact .there _ (.there _ (.there _ (.there _ (.there _ (.there _ (.there _ (.here _))))))) | exact .there _ (.there _ (.there _ (.there _ (.there _ (.there _ (.there _ (.there _ (.here _)))))))) | exact .there _ (.there _ (.there _ (.there _ (.there _ (.there _ (.there _ (.there _ (.there _ (.here _))))))))) | exact .there _ (.there _ (.there _ (.there _ (.there _ (.there _ (.there _ (.there _ (.there _ (.there _ (.here _)))))))))) | exact .there _ (.there _ (.there _ (.there _ (.there _ (.there _ (.there _ (.there _ (.there _ (.there _ (.there _ (.here _))))))))))))
      refine s_r hf (x_loadBlk hs ag24 (hf.eval rfl) rfl (by first | exact .here _ | exact .there _ (.here _) | exact .there _ (.there _ (.here _)) | exact .there _ (.there _ (.there _ (.here _))) | exact .there _ (.there _ (.there _ (.there _ (.here _)))) | exact .there _ (.there _ (.there _ (.there _ (.there _ (.here _))))) | exact .there _ (.there _ (.there _ (.there _ (.there _ (.there _ (.here _)))))) | exact .there _ (.there _ (.there _ (.there _ (.there _ (.there _ (.there _ (.here _))))))) | exact .there _ (.there _ (.there _ (.there _ (.there _ (.there _ (.there _ (.there _ (.here _)))))))) | exact .there _ (.there _ (.there _ (.there _ (.there _ (.there _ (.there _ (.there _ (.there _ (.here _))))))))))) ?_; clear hf a; intro a hf
      replace hs := hs.take (A := cb b2 24 (slF zSl)) (by first | exact .here _ | exact .there _ (.here _) | exact .there _ (.there _ (.here _)) | exact .there _ (.there _ (.there _ (.here _))) | exact .there _ (.there _ (.there _ (.there _ (.here _)))) | exact .there _ (.there _ (.there _ (.there _ (.there _ (.here _))))) | exact .there _ (.there _ (.there _ (.there _ (.there _ (.there _ (.here _)))))) | exact .there _ (.there _ (.there _ (.there _ (.there _ (.there _ (.there _ (.here _))))))) | exact .there _ (.there _ (.there _ (.there _ (.there _ (.there _ (.there _ (.there _ (.here _)))))))) | exact .there _ (.there _ (.there _ (.there _ (.there _ (.there _ (.there _ (.there _ (.there _ (.here _))))))))) | exact .there _ (.there _ (.there _ (.there _ (.there _ (.there _ (.there _ (.there _ (.there _ (.there _ (.here _)))))))))) | exact .there _ (.there _ (.there _ (.there _ (.there _ (.there _ (.there _ (.there _ (.there _ (.there _ (.there _ (.here _))))))))))))
      refine s_do0 hf rfl (y_storeAgg (cs := slF (dsF data : Sl)) hs (n := 7) (by kernel_rfl) (hf.eval rfl) (hf.eval rfl) (by simp [Value.oneCell', slF]) rfl rfl (.here _) ?_); clear hf hs a; intro w hs a hf
      refine s_a hf rfl ?_; clear hf a; intro a hf
      refine s_nil ?_
      refine then_n ?_
      refine wp_ret ?_
      refine r_2c hf Tryd.results16 rfl rfl hs ag24 rfl (.here _) ?_
      rw [(dec_yes hyes).1, (dec_yes hyes).2]
      exact ⟨rfl, hs.kept⟩

theorem decode_small (w0 : World) (hT : Tab 0 (hp w0)) (a1 : Option Addr) (c1 : Nat) (data : List UInt8) (hr1 : RdB (hp w0) (.slice a1 data.length c1) data) (hl1 : data.length ≤ 140737488351232) (h36 : data.length < 36) : Calls Tryd.prog 16 #[.slice a1 data.length c1] w0 fun e w' => e = .returned (.tuple #[.agg (slF (decV data)).toArray, .int .i64 (decE data)]) ∧ Kept w0 w' None_ := by
  have hs := St.start w0 None_
  refine c_enter (N := 48) Tryd.func16 rfl Tryd.ntmps16 (by simp) ?_
  intro a hf
  refine wp_seq ?_
  refine wp_region_lit ?_
  refine s_do hf rfl (y_alloc hs Tryd.zeroValue24 ?_); clear hf hs a; intro b2 w hs a hf
  change St _ _ (cb b2 24 (slF zSl) :: _) at hs
  refine s_a hf rfl ?_; clear hf a; intro a hf
  refine s_nil ?_
  refine then_n ?_
  refine wp_seq ?_
  refine wp_region_lit ?_
  refine s_m hf rfl ?_; clear hf a; intro a hf
  refine s_do hf rfl (y_call (hf.eval rfl) (hf.evals rfl) Tryd.call48 ((newCursor_spec _ _ _ data (hs.oldB hr1) hl1).mono ?_))
  rintro e w1 ⟨p, rfl, hj⟩
  replace hs := hs.join hj
  simp only [List.cons_append, List.nil_append] at hs
  refine ⟨_, rfl, ?_⟩; clear hf a; intro a hf
  refine s_a hf rfl ?_; clear hf a; intro a hf
  refine s_nil ?_
  refine then_n ?_
  refine wp_seq ?_
  refine wp_region_lit ?_
  refine s_m hf rfl ?_; clear hf a; intro a hf
  replace hs := hs.take (A := curA 119 5 p data 0 0) (by first | exact .here _ | exact .there _ (.here _) | exact .there _ (.there _ (.here _)) | exact .there _ (.there _ (.there _ (.here _))) | exact .there _ (.there _ (.there _ (.there _ (.here _)))) | exact .there _ (.there _ (.there _ (.there _ (.there _ (.here _))))) | exact .there _ (.there _ (.there _ (.there _ (.there _ (.there _ (.here _)))))) | exact .there _ (.there _ (.there _ (.there _ (.there _ (.there _ (.there _ (.here _))))))) | exact .there _ (.there _ (.there _ (.there _ (.there _ (.there _ (.there _ (.there _ (.here _)))))))) | exact .there _ (.there _ (.there _ (.there _ (.there _ (.there _ (.there _ (.there _ (.there _ (.here _))))))))) | exact .there _ (.there _ (.there _ (.there _ (.there _ (.there _ (.there _ (.there _ (.there _ (.there _ (.here _)))))))))) | exact .there _ (.there _ (.there _ (.there _ (.there _ (.there _ (.there _ (.there _ (.there _ (.there _ (.there _ (.here _))))))))))))
  refine s_do hf rfl (y_call (hf.eval rfl) (hf.evals rfl) Tryd.call49 ((skip_spec _ _ _ p data 0 0 8 hs (by omega) (by omega) (by omega)).mono ?_))
  rintro e w1 ⟨rfl, hs⟩
  have hq0 := nx_le (n := data.length) (k := 0) 0 8 (by omega)
  generalize (nextC data.length 0 0 8).1 = q0 at hs hq0
  generalize (nextC data.length 0 0 8).2.1 = t0 at hs
  refine ⟨_, rfl, ?_⟩; clear hf a; intro a hf
  refine s_nil ?_
  refine then_n ?_
  refine wp_seq ?_
  refine wp_region_lit ?_
  refine s_m hf rfl ?_; clear hf a; intro a hf
  replace hs := hs.take (A := curA 119 5 p data q0 t0) (by first | exact .here _ | exact .there _ (.here _) | exact .there _ (.there _ (.here _)) | exact .there _ (.there _ (.there _ (.here _))) | exact .there _ (.there _ (.there _ (.there _ (.here _)))) | exact .there _ (.there _ (.there _ (.there _ (.there _ (.here _))))) | exact .there _ (.there _ (.there _ (.there _ (.there _ (.there _ (.here _)))))) | exact .there _ (.there _ (.there _ (.there _ (.there _ (.there _ (.there _ (.here _))))))) | exact .there _ (.there _ (.there _ (.there _ (.there _ (.there _ (.there _ (.there _ (.here _)))))))) | exact .there _ (.there _ (.there _ (.there _ (.there _ (.there _ (.there _ (.there _ (.there _ (.here _))))))))) | exact .there _ (.there _ (.there _ (.there _ (.there _ (.there _ (.there _ (.there _ (.there _ (.there _ (.here _)))))))))) | exact .there _ (.there _ (.there _ (.there _ (.there _ (.there _ (.there _ (.there _ (.there _ (.there _ (.there _ (.here _))))))))))))
  refine s_do hf rfl (y_call (hf.eval rfl) (hf.evals rfl) Tryd.call50 ((u32_spec _ _ _ p data q0 t0 hs hq0 (by omega)).mono ?_))
  rintro e w1 ⟨rfl, hs⟩
  have hq1 := nx_le (n := data.length) (k := q0) t0 4 hq0
  have hv0 := leN_small (l := data.drop q0) (nx_k data.length q0 t0)
  generalize leN ((data.drop q0).take (nextC data.length q0 t0 4).2.2) = n0 at hv0 ⊢
  generalize (nextC data.length q0 t0 4).1 = q1 at hs hq1
  generalize (nextC data.length q0 t0 4).2.1 = t1 at hs
  refine ⟨_, rfl, ?_⟩; clear hf a; intro a hf
  refine s_m hf rfl ?_; clear hf a; intro a hf
  replace hs := hs.take (A := curA 119 5 p data q1 t1) (by first | exact .here _ | exact .there _ (.here _) | exact .there _ (.there _ (.here _)) | exact .there _ (.there _ (.there _ (.here _))) | exact .there _ (.there _ (.there _ (.there _ (.here _)))) | exact .there _ (.there _ (.there _ (.there _ (.there _ (.here _))))) | exact .there _ (.there _ (.there _ (.there _ (.there _ (.there _ (.here _)))))) | exact .there _ (.there _ (.there _ (.there _ (.there _ (.there _ (.there _ (.here _))))))) | exact .there _ (.there _ (.there _ (.there _ (.there _ (.there _ (.there _ (.there _ (.here _)))))))) | exact .there _ (.there _ (.there _ (.there _ (.there _ (.there _ (.there _ (.there _ (.there _ (.here _))))))))) | exact .there _ (.there _ (.there _ (.there _ (.there _ (.there _ (.there _ (.there _ (.there _ (.there _ (.here _)))))))))) | exact .there _ (.there _ (.there _ (.there _ (.there _ (.there _ (.there _ (.there _ (.there _ (.there _ (.there _ (.here _))))))))))))
  refine s_do hf rfl (y_call (hf.eval rfl) (hf.evals rfl) Tryd.call50 ((u32_spec _ _ _ p data q1 t1 hs hq1 (by omega)).mono ?_))
  rintro e w1 ⟨rfl, hs⟩
  have hq2 := nx_le (n := data.length) (k := q1) t1 4 hq1
  have hv1 := leN_small (l := data.drop q1) (nx_k data.length q1 t1)
  generalize leN ((data.drop q1).take (nextC data.length q1 t1 4).2.2) = n1 at hv1 ⊢
  generalize (nextC data.length q1 t1 4).1 = q2 at hs hq2
  generalize (nextC data.length q1 t1 4).2.1 = t2 at hs
  refine ⟨_, rfl, ?_⟩; clear hf a; intro a hf
  refine s_m hf rfl ?_; clear hf a; intro a hf
  replace hs := hs.take (A := curA 119 5 p data q2 t2) (by first | exact .here _ | exact .there _ (.here _) | exact .there _ (.there _ (.here _)) | exact .there _ (.there _ (.there _ (.here _))) | exact .there _ (.there _ (.there _ (.there _ (.here _)))) | exact .there _ (.there _ (.there _ (.there _ (.there _ (.here _))))) | exact .there _ (.there _ (.there _ (.there _ (.there _ (.there _ (.here _)))))) | exact .there _ (.there _ (.there _ (.there _ (.there _ (.there _ (.there _ (.here _))))))) | exact .there _ (.there _ (.there _ (.there _ (.there _ (.there _ (.there _ (.there _ (.here _)))))))) | exact .there _ (.there _ (.there _ (.there _ (.there _ (.there _ (.there _ (.there _ (.there _ (.here _))))))))) | exact .there _ (.there _ (.there _ (.there _ (.there _ (.there _ (.there _ (.there _ (.there _ (.there _ (.here _)))))))))) | exact .there _ (.there _ (.there _ (.there _ (.there _ (.there _ (.there _ (.there _ (.there _ (.there _ (.there _ (.here _))))))))))))
  refine s_do hf rfl (y_call (hf.eval rfl) (hf.evals rfl) Tryd.call50 ((u32_spec _ _ _ p data q2 t2 hs hq2 (by omega)).mono ?_))
  rintro e w1 ⟨rfl, hs⟩
  have hq3 := nx_le (n := data.length) (k := q2) t2 4 hq2
  have hv2 := leN_small (l := data.drop q2) (nx_k data.length q2 t2)
  generalize leN ((data.drop q2).take (nextC data.length q2 t2 4).2.2) = n2 at hv2 ⊢
  generalize (nextC data.length q2 t2 4).1 = q3 at hs hq3
  generalize (nextC data.length q2 t2 4).2.1 = t3 at hs
  refine ⟨_, rfl, ?_⟩; clear hf a; intro a hf
  refine s_m hf rfl ?_; clear hf a; intro a hf
  replace hs := hs.take (A := curA 119 5 p data q3 t3) (by first | exact .here _ | exact .there _ (.here _) | exact .there _ (.there _ (.here _)) | exact .there _ (.there _ (.there _ (.here _))) | exact .there _ (.there _ (.there _ (.there _ (.here _)))) | exact .there _ (.there _ (.there _ (.there _ (.there _ (.here _))))) | exact .there _ (.there _ (.there _ (.there _ (.there _ (.there _ (.here _)))))) | exact .there _ (.there _ (.there _ (.there _ (.there _ (.there _ (.there _ (.here _))))))) | exact .there _ (.there _ (.there _ (.there _ (.there _ (.there _ (.there _ (.there _ (.here _)))))))) | exact .there _ (.there _ (.there _ (.there _ (.there _ (.there _ (.there _ (.there _ (.there _ (.here _))))))))) | exact .there _ (.there _ (.there _ (.there _ (.there _ (.there _ (.there _ (.there _ (.there _ (.there _ (.here _)))))))))) | exact .there _ (.there _ (.there _ (.there _ (.there _ (.there _ (.there _ (.there _ (.there _ (.there _ (.there _ (.here _))))))))))))
  refine s_do hf rfl (y_call (hf.eval rfl) (hf.evals rfl) Tryd.call50 ((u32_spec _ _ _ p data q3 t3 hs hq3 (by omega)).mono ?_))
  rintro e w1 ⟨rfl, hs⟩
  have hq4 := nx_le (n := data.length) (k := q3) t3 4 hq3
  have hv3 := leN_small (l := data.drop q3) (nx_k data.length q3 t3)
  generalize leN ((data.drop q3).take (nextC data.length q3 t3 4).2.2) = n3 at hv3 ⊢
  generalize (nextC data.length q3 t3 4).1 = q4 at hs hq4
  generalize (nextC data.length q3 t3 4).2.1 = t4 at hs
  refine ⟨_, rfl, ?_⟩; clear hf a; intro a hf
  refine s_m hf rfl ?_; clear hf a; intro a hf
  replace hs := hs.take (A := curA 119 5 p data q4 t4) (by first | exact .here _ | exact .there _ (.here _) | exact .there _ (.there _ (.here _)) | exact .there _ (.there _ (.there _ (.here _))) | exact .there _ (.there _ (.there _ (.there _ (.here _)))) | exact .there _ (.there _ (.there _ (.there _ (.there _ (.here _))))) | exact .there _ (.there _ (.there _ (.there _ (.there _ (.there _ (.here _)))))) | exact .there _ (.there _ (.there _ (.there _ (.there _ (.there _ (.there _ (.here _))))))) | exact .there _ (.there _ (.there _ (.there _ (.there _ (.there _ (.there _ (.there _ (.here _)))))))) | exact .there _ (.there _ (.there _ (.there _ (.there _ (.there _ (.there _ (.there _ (.there _ (.here _))))))))) | exact .there _ (.there _ (.there _ (.there _ (.there _ (.there _ (.there _ (.there _ (.there _ (.there _ (.here _)))))))))) | exact .there _ (.there _ (.there _ (.there _ (.there _ (.there _ (.there _ (.there _ (.there _ (.there _ (.there _ (.here _))))))))))))
  refine s_do hf rfl (y_call (hf.eval rfl) (hf.evals rfl) Tryd.call50 ((u32_spec _ _ _ p data q4 t4 hs hq4 (by omega)).mono ?_))
  rintro e w1 ⟨rfl, hs⟩
  have hq5 := nx_le (n := data.length) (k := q4) t4 4 hq4
  have hv4 := leN_small (l := data.drop q4) (nx_k data.length q4 t4)
  generalize leN ((data.drop q4).take (nextC data.length q4 t4 4).2.2) = n4 at hv4 ⊢
  generalize (nextC data.length q4 t4 4).1 = q5 at hs hq5
  generalize (nextC data.length q4 t4 4).2.1 = t5 at hs
  refine ⟨_, rfl, ?_⟩; clear hf a; intro a hf
  refine s_m hf rfl ?_; clear hf a; intro a hf
  replace hs := hs.take (A := curA 119 5 p data q5 t5) (by first | exact .here _ | exact .there _ (.here _) | exact .there _ (.there _ (.here _)) | exact .there _ (.there _ (.there _ (.here _))) | exact .there _ (.there _ (.there _ (.there _ (.here _)))) | exact .there _ (.there _ (.there _ (.there _ (.there _ (.here _))))) | exact .there _ (.there _ (.there _ (.there _ (.there _ (.there _ (.here _)))))) | exact .there _ (.there _ (.there _ (.there _ (.there _ (.there _ (.there _ (.here _))))))) | exact .there _ (.there _ (.there _ (.there _ (.there _ (.there _ (.there _ (.there _ (.here _)))))))) | exact .there _ (.there _ (.there _ (.there _ (.there _ (.there _ (.there _ (.there _ (.there _ (.here _))))))))) | exact .there _ (.there _ (.there _ (.there _ (.there _ (.there _ (.there _ (.there _ (.there _ (.there _ (.here _)))))))))) | exact .there _ (.there _ (.there _ (.there _ (.there _ (.there _ (.there _ (.there _ (.there _ (.there _ (.there _ (.here _))))))))))))
  refine s_do hf rfl (y_call (hf.eval rfl) (hf.evals rfl) Tryd.call50 ((u32_spec _ _ _ p data q5 t5 hs hq5 (by omega)).mono ?_))
  rintro e w1 ⟨rfl, hs⟩
  have hq6 := nx_le (n := data.length) (k := q5) t5 4 hq5
  have hv5 := leN_small (l := data.drop q5) (nx_k data.length q5 t5)
  generalize leN ((data.drop q5).take (nextC data.length q5 t5 4).2.2) = n5 at hv5 ⊢
  generalize (nextC data.length q5 t5 4).1 = q6 at hs hq6
  generalize (nextC data.length q5 t5 4).2.1 = t6 at hs
  refine ⟨_, rfl, ?_⟩; clear hf a; intro a hf
  refine s_m hf rfl ?_; clear hf a; intro a hf
  replace hs := hs.take (A := curA 119 5 p data q6 t6) (by first | exact .here _ | exact .there _ (.here _) | exact .there _ (.there _ (.here _)) | exact .there _ (.there _ (.there _ (.here _))) | exact .there _ (.there _ (.there _ (.there _ (.here _)))) | exact .there _ (.there _ (.there _ (.there _ (.there _ (.here _))))) | exact .there _ (.there _ (.there _ (.there _ (.there _ (.there _ (.here _)))))) | exact .there _ (.there _ (.there _ (.there _ (.there _ (.there _ (.there _ (.here _))))))) | exact .there _ (.there _ (.there _ (.there _ (.there _ (.there _ (.there _ (.there _ (.here _)))))))) | exact .there _ (.there _ (.there _ (.there _ (.there _ (.there _ (.there _ (.there _ (.there _ (.here _))))))))) | exact .there _ (.there _ (.there _ (.there _ (.there _ (.there _ (.there _ (.there _ (.there _ (.there _ (.here _)))))))))) | exact .there _ (.there _ (.there _ (.there _ (.there _ (.there _ (.there _ (.there _ (.there _ (.there _ (.there _ (.here _))))))))))))
  refine s_do hf rfl (y_call (hf.eval rfl) (hf.evals rfl) Tryd.call50 ((u32_spec _ _ _ p data q6 t6 hs hq6 (by omega)).mono ?_))
  rintro e w1 ⟨rfl, hs⟩
  have hq7 := nx_le (n := data.length) (k := q6) t6 4 hq6
  have hv6 := leN_small (l := data.drop q6) (nx_k data.length q6 t6)
  generalize leN ((data.drop q6).take (nextC data.length q6 t6 4).2.2) = n6 at hv6 ⊢
  generalize (nextC data.length q6 t6 4).1 = q7 at hs hq7
  generalize (nextC data.length q6 t6 4).2.1 = t7 at hs
  refine ⟨_, rfl, ?_⟩; clear hf a; intro a hf
  have hlast : n6 < 4294967296 := hv6
  refine s_v hf (x_conv Tryd.underlying3 Tryd.underlying22 (hf.eval rfl)) ?_; clear hf a; intro a hf
  replace hf := hf.now (k := 26) (v' := .int .u32 ((n6 : Nat) : Int)) rfl (by rw [wrap_u32]; congr 1; omega)
  refine s_r hf (x_build (v := .agg (slF (((n0 : Int), (n1 : Int), (n2 : Int), (n3 : Int), (n4 : Int), (n5 : Int), n6) : Sl)).toArray) (hf.parts rfl) (fun w => by kernel_rfl) _) ?_; clear hf a; intro a hf
  refine s_do hf rfl (y_alloc hs Tryd.zeroValue24 ?_); clear hf hs a; intro b5 w hs a hf
  change St _ _ (cb b5 24 (slF zSl) :: _) at hs
  refine s_do0 hf rfl (y_storeAgg (cs := slF (((n0 : Int), (n1 : Int), (n2 : Int), (n3 : Int), (n4 : Int), (n5 : Int), n6) : Sl)) hs (n := 7) (by kernel_rfl) (hf.eval rfl) (hf.eval rfl) (by simp [Value.oneCell', slF]) rfl rfl (.here _) ?_); clear hf hs a; intro w hs a hf
  refine s_nil ?_
  refine then_n ?_
  refine wp_seq ?_
  refine wp_region_lit ?_
  replace hs := hs.take (A := cb b5 24 (slF (((n0 : Int), (n1 : Int), (n2 : Int), (n3 : Int), (n4 : Int), (n5 : Int), n6) : Sl))) (by first | exact .here _ | exact .there _ (.here _) | exact .there _ (.there _ (.here _)) | exact .there _ (.there _ (.there _ (.here _))) | exact .there _ (.there _ (.there _ (.there _ (.here _)))) | exact .there _ (.there _ (.there _ (.there _ (.there _ (.here _))))) | exact .there _ (.there _ (.there _ (.there _ (.there _ (.there _ (.here _)))))) | exact .there _ (.there _ (.there _ (.there _ (.there _ (.there _ (.there _ (.here _))))))) | exact .there _ (.there _ (.there _ (.there _ (.there _ (.there _ (.there _ (.there _ (.here _)))))))) | exact .there _ (.there _ (.there _ (.there _ (.there _ (.there _ (.there _ (.there _ (.there _ (.here _))))))))) | exact .there _ (.there _ (.there _ (.there _ (.there _ (.there _ (.there _ (.there _ (.there _ (.there _ (.here _)))))))))) | exact .there _ (.there _ (.there _ (.there _ (.there _ (.there _ (.there _ (.there _ (.there _ (.there _ (.there _ (.here _))))))))))))
  refine s_r hf (x_loadBlk hs ag24 (hf.eval rfl) rfl (by first | exact .here _ | exact .there _ (.here _) | exact .there _ (.there _ (.here _)) | exact .there _ (.there _ (.there _ (.here _))) | exact .there _ (.there _ (.there _ (.there _ (.here _)))) | exact .there _ (.there _ (.there _ (.there _ (.there _ (.here _))))) | exact .there _ (.there _ (.there _ (.there _ (.there _ (.there _ (.here _)))))) | exact .there _ (.there _ (.there _ (.there _ (.there _ (.there _ (.there _ (.here _))))))) | exact .there _ (.there _ (.there _ (.there _ (.there _ (.there _ (.there _ (.there _ (.here _)))))))) | exact .there _ (.there _ (.there _ (.there _ (.there _ (.there _ (.there _ (.there _ (.there _ (.here _))))))))))) ?_; clear hf a; intro a hf
  refine s_do hf rfl (y_call (hf.eval rfl) (hf.evals rfl) Tryd.call10 ((encode_spec _ (hT.kept hs.kept) (((n0 : Int), (n1 : Int), (n2 : Int), (n3 : Int), (n4 : Int), (n5 : Int), n6) : Sl) (by first | exact rd32_lt data 32 | exact hlast)).mono ?_))
  rintro e w1 ⟨g, cg, rfl, hj⟩
  replace hs := hs.join hj
  simp only [List.cons_append, List.nil_append] at hs
  refine ⟨_, rfl, ?_⟩; clear hf a; intro a hf
  refine s_m hf rfl ?_; clear hf a; intro a hf
  refine s_v hf (x_extract (hf.eval rfl) rfl) ?_; clear hf a; intro a hf
  refine s_v hf (x_extract (hf.eval rfl) rfl) ?_; clear hf a; intro a hf
  refine s_a hf rfl ?_; clear hf a; intro a hf
  refine s_a hf rfl ?_; clear hf a; intro a hf
  refine s_nil ?_
  refine then_n ?_
  refine wp_seq ?_
  refine wp_seq ?_
  refine wp_region_lit ?_
  refine s_m hf rfl ?_; clear hf a; intro a hf
  refine s_v hf (x_bin (hf.eval rfl) (hf.eval rfl) (r_ne _ _ _ _)) ?_; clear hf a; intro a hf
  refine s_m hf rfl ?_; clear hf a; intro a hf
  refine s_bool hf (k := 35) rfl (fun hg5_2 hf' => ?_) (fun hg5_2 hf' => ?_)
  · clear hf
    have hf := hf'
    clear hf'
    first | simp only [decide_eq_true_eq, decide_eq_false_iff_not, Bool.not_eq_true', Bool.not_eq_false'] at hg5_2 | skip
    refine s_pass hf rfl rfl ?_; clear hf a; intro a hf
    refine s_pass hf rfl rfl ?_; clear hf a; intro a hf
    refine s_pass hf rfl rfl ?_; clear hf a; intro a hf
    refine s_v hf (x_pick_t (hf.eval rfl) (hf.eval rfl)) ?_; clear hf a; intro a hf
    refine s_m hf rfl ?_; clear hf a; intro a hf
    refine s_pass hf rfl rfl ?_; clear hf a; intro a hf
    refine s_pass hf rfl rfl ?_; clear hf a; intro a hf
    refine s_pass hf rfl rfl ?_; clear hf a; intro a hf
    refine s_pass hf rfl rfl ?_; clear hf a; intro a hf
    refine s_v hf (x_pick_t (hf.eval rfl) (hf.eval rfl)) ?_; clear hf a; intro a hf
    refine s_nil ?_
    refine then_n ?_
    refine c_cond_t hf rfl rfl ?_
    have hno : decOk data = false := by unfold decOk; rw [decide_eq_false (show ¬ data.length = 512 by omega)]; simp
    refine wp_seq ?_
    refine wp_region_lit ?_
    refine s_r hf (x_build (v := .agg (slF zSl).toArray) (hf.parts rfl) (fun w => by kernel_rfl) _) ?_; clear hf a; intro a hf
    replace hs := hs.take (A := cb b2 24 (slF zSl)) (by first | exact .here _ | exact .there _ (.here _) | exact .there _ (.there _ (.here _)) | exact .there _ (.there _ (.there _ (.here _))) | exact .there _ (.there _ (.there _ (.there _ (.here _)))) | exact .there _ (.there _ (.there _ (.there _ (.there _ (.here _))))) | exact .there _ (.there _ (.there _ (.there _ (.there _ (.there _ (.here _)))))) | exact .there _ (.there _ (.there _ (.there _ (.there _ (.there _ (.there _ (.here _))))))) | exact .there _ (.there _ (.there _ (.there _ (.there _ (.there _ (.there _ (.there _ (.here _)))))))) | exact .there _ (.there _ (.there _ (.there _ (.there _ (.there _ (.there _ (.there _ (.there _ (.here _))))))))) | exact .there _ (.there _ (.there _ (.there _ (.there _ (.there _ (.there _ (.there _ (.there _ (.there _ (.here _)))))))))) | exact .there _ (.there _ (.there _ (.there _ (.there _ (.there _ (.there _ (.there _ (.there _ (.there _ (.there _ (.here _))))))))))))
    refine s_do0 hf rfl (y_storeAgg (cs := slF zSl) hs (n := 7) (by kernel_rfl) (hf.eval rfl) (hf.eval rfl) (by simp [Value.oneCell', slF]) rfl rfl (.here _) ?_); clear hf hs a; intro w hs a hf
    refine s_a hf rfl ?_; clear hf a; intro a hf
    refine s_nil ?_
    refine then_n ?_
    refine wp_ret ?_
    refine then_r ?_
    refine r_2c hf Tryd.results16 rfl rfl hs ag24 rfl (.here _) ?_
    rw [(dec_no hno).1, (dec_no hno).2]
    exact ⟨rfl, hs.kept⟩
  · clear hf
    have hf := hf'
    clear hf'
    first | simp only [decide_eq_true_eq, decide_eq_false_iff_not, Bool.not_eq_true', Bool.not_eq_false'] at hg5_2 | skip
    refine s_do hf (wanted_of hf rfl rfl rfl) (.value (x_move (hf.eval rfl) _) ?_); clear hf a; intro a hf
    replace hs := hs.take (A := curA 119 5 p data q7 t7) (by first | exact .here _ | exact .there _ (.here _) | exact .there _ (.there _ (.here _)) | exact .there _ (.there _ (.there _ (.here _))) | exact .there _ (.there _ (.there _ (.there _ (.here _)))) | exact .there _ (.there _ (.there _ (.there _ (.there _ (.here _))))) | exact .there _ (.there _ (.there _ (.there _ (.there _ (.there _ (.here _)))))) | exact .there _ (.there _ (.there _ (.there _ (.there _ (.there _ (.there _ (.here _))))))) | exact .there _ (.there _ (.there _ (.there _ (.there _ (.there _ (.there _ (.there _ (.here _)))))))) | exact .there _ (.there _ (.there _ (.there _ (.there _ (.there _ (.there _ (.there _ (.there _ (.here _))))))))) | exact .there _ (.there _ (.there _ (.there _ (.there _ (.there _ (.there _ (.there _ (.there _ (.there _ (.here _)))))))))) | exact .there _ (.there _ (.there _ (.there _ (.there _ (.there _ (.there _ (.there _ (.there _ (.there _ (.there _ (.here _))))))))))))
    refine s_do hf (wanted_of hf rfl rfl rfl) (y_call (hf.eval rfl) (hf.evals rfl) Tryd.call51 ((err_spec _ _ _ p data q7 t7 hs hq7 (by omega)).mono ?_))
    rintro e w1 ⟨rfl, hs⟩
    refine ⟨_, rfl, ?_⟩; clear hf a; intro a hf
    refine s_do hf (wanted_of hf rfl rfl rfl) (.value (x_bin (hf.eval rfl) (hf.eval rfl) (r_ne _ _ _ _) _) ?_); clear hf a; intro a hf
    refine s_v hf (x_pick_f (hf.eval rfl) (hf.eval rfl)) ?_; clear hf a; intro a hf
    refine s_m hf rfl ?_; clear hf a; intro a hf
    refine s_bool hf (k := 40) rfl (fun hg5_7 hf' => ?_) (fun hg5_7 hf' => ?_)
    · clear hf
      have hf := hf'
      clear hf'
      first | simp only [decide_eq_true_eq, decide_eq_false_iff_not, Bool.not_eq_true', Bool.not_eq_false'] at hg5_7 | skip
      refine s_pass hf rfl rfl ?_; clear hf a; intro a hf
      refine s_pass hf rfl rfl ?_; clear hf a; intro a hf
      refine s_pass hf rfl rfl ?_; clear hf a; intro a hf
      refine s_pass hf rfl rfl ?_; clear hf a; intro a hf
      refine s_v hf (x_pick_t (hf.eval rfl) (hf.eval rfl)) ?_; clear hf a; intro a hf
      refine s_nil ?_
      refine then_n ?_
      refine c_cond_t hf rfl rfl ?_
      have hno : decOk data = false := by unfold decOk; rw [decide_eq_false (show ¬ data.length = 512 by omega)]; simp
      refine wp_seq ?_
      refine wp_region_lit ?_
      refine s_r hf (x_build (v := .agg (slF zSl).toArray) (hf.parts rfl) (fun w => by kernel_rfl) _) ?_; clear hf a; intro a hf
      replace hs := hs.take (A := cb b2 24 (slF zSl)) (by first | exact .here _ | exact .there _ (.here _) | exact .there _ (.there _ (.here _)) | exact .there _ (.there _ (.there _ (.here _))) | exact .there _ (.there _ (.there _ (.there _ (.here _)))) | exact .there _ (.there _ (.there _ (.there _ (.there _ (.here _))))) | exact .there _ (.there _ (.there _ (.there _ (.there _ (.there _ (.here _)))))) | exact .there _ (.there _ (.there _ (.there _ (.there _ (.there _ (.there _ (.here _))))))) | exact .there _ (.there _ (.there _ (.there _ (.there _ (.there _ (.there _ (.there _ (.here _)))))))) | exact .there _ (.there _ (.there _ (.there _ (.there _ (.there _ (.there _ (.there _ (.there _ (.here _))))))))) | exact .there _ (.there _ (.there _ (.there _ (.there _ (.there _ (.there _ (.there _ (.there _ (.there _ (.here _)))))))))) | exact .there _ (.there _ (.there _ (.there _ (.there _ (.there _ (.there _ (.there _ (.there _ (.there _ (.there _ (.here _))))))))))))
      refine s_do0 hf rfl (y_storeAgg (cs := slF zSl) hs (n := 7) (by kernel_rfl) (hf.eval rfl) (hf.eval rfl) (by simp [Value.oneCell', slF]) rfl rfl (.here _) ?_); clear hf hs a; intro w hs a hf
      refine s_a hf rfl ?_; clear hf a; intro a hf
      refine s_nil ?_
      refine then_n ?_
      refine wp_ret ?_
      refine then_r ?_
      refine r_2c hf Tryd.results16 rfl rfl hs ag24 rfl (.here _) ?_
      rw [(dec_no hno).1, (dec_no hno).2]
      exact ⟨rfl, hs.kept⟩
    · clear hf
      have hf := hf'
      clear hf'
      first | simp only [decide_eq_true_eq, decide_eq_false_iff_not, Bool.not_eq_true', Bool.not_eq_false'] at hg5_7 | skip
      refine s_do hf (wanted_of hf rfl rfl rfl) (.value (x_move (hf.eval rfl) _) ?_); clear hf a; intro a hf
      refine s_do hf (wanted_of hf rfl rfl rfl) (.value (x_move (hf.eval rfl) _) ?_); clear hf a; intro a hf
      replace hs := hs.take (A := slB 5 (.slice g (encV (((n0 : Int), (n1 : Int), (n2 : Int), (n3 : Int), (n4 : Int), (n5 : Int), n6) : Sl)).length cg) (encV (((n0 : Int), (n1 : Int), (n2 : Int), (n3 : Int), (n4 : Int), (n5 : Int), n6) : Sl))) (by first | exact .here _ | exact .there _ (.here _) | exact .there _ (.there _ (.here _)) | exact .there _ (.there _ (.there _ (.here _))) | exact .there _ (.there _ (.there _ (.there _ (.here _)))) | exact .there _ (.there _ (.there _ (.there _ (.there _ (.here _))))) | exact .there _ (.there _ (.there _ (.there _ (.there _ (.there _ (.here _)))))) | exact .there _ (.there _ (.there _ (.there _ (.there _ (.there _ (.there _ (.here _))))))) | exact .there _ (.there _ (.there _ (.there _ (.there _ (.there _ (.there _ (.there _ (.here _)))))))) | exact .there _ (.there _ (.there _ (.there _ (.there _ (.there _ (.there _ (.there _ (.there _ (.here _))))))))) | exact .there _ (.there _ (.there _ (.there _ (.there _ (.there _ (.there _ (.there _ (.there _ (.there _ (.here _)))))))))) | exact .there _ (.there _ (.there _ (.there _ (.there _ (.there _ (.there _ (.there _ (.there _ (.there _ (.there _ (.here _))))))))))))
      refine s_do hf (wanted_of hf rfl rfl rfl) (y_call (hf.eval rfl) (hf.evals rfl) Tryd.call52 ((bequal_spec _ _ _ (encV (((n0 : Int), (n1 : Int), (n2 : Int), (n3 : Int), (n4 : Int), (n5 : Int), n6) : Sl)) (hs.rdB (.here _) fun h => slB_rd) _ _ data (hs.oldB hr1)).mono ?_))
      rintro e w1 ⟨rfl, hw9⟩
      rw [hw9]
      clear hw9 w1
      refine ⟨_, rfl, ?_⟩; clear hf a; intro a hf
      refine s_do hf (wanted_of hf rfl rfl rfl) (.value (x_not (hf.eval rfl) _) ?_); clear hf a; intro a hf
      refine s_v hf (x_pick_f (hf.eval rfl) (hf.eval rfl)) ?_; clear hf a; intro a hf
      refine s_nil ?_
      refine then_n ?_
      refine c_cond hf rfl (fun hi0 => ?_) (fun hi0 => ?_)
      · first | simp only [decide_eq_true_eq, decide_eq_false_iff_not, Bool.not_eq_true', Bool.not_eq_false'] at hi0 | skip
        have hno : decOk data = false := by unfold decOk; rw [decide_eq_false (show ¬ data.length = 512 by omega)]; simp
        refine wp_seq ?_
        refine wp_region_lit ?_
        refine s_r hf (x_build (v := .agg (slF zSl).toArray) (hf.parts rfl) (fun w => by kernel_rfl) _) ?_; clear hf a; intro a hf
        replace hs := hs.take (A := cb b2 24 (slF zSl)) (by first | exact .here _ | exact .there _ (.here _) | exact .there _ (.there _ (.here _)) | exact .there _ (.there _ (.there _ (.here _))) | exact .there _ (.there _ (.there _ (.there _ (.here _)))) | exact .there _ (.there _ (.there _ (.there _ (.there _ (.here _))))) | exact .there _ (.there _ (.there _ (.there _ (.there _ (.there _ (.here _)))))) | exact .there _ (.there _ (.there _ (.there _ (.there _ (.there _ (.there _ (.here _))))))) | exact .there _ (.there _ (.there _ (.there _ (.there _ (.there _ (.there _ (.there _ (.here _)))))))) | exact .there _ (.there _ (.there _ (.there _ (.there _ (.there _ (.there _ (.there _ (.there _ (.here _))))))))) | exact .there _ (.there _ (.there _ (.there _ (.there _ (.there _ (.there _ (.there _ (.there _ (.there _ (.here _)))))))))) | exact .there _ (.there _ (.there _ (.there _ (.there _ (.there _ (.there _ (.there _ (.there _ (.there _ (.there _ (.here _))))))))))))
        refine s_do0 hf rfl (y_storeAgg (cs := slF zSl) hs (n := 7) (by kernel_rfl) (hf.eval rfl) (hf.eval rfl) (by simp [Value.oneCell', slF]) rfl rfl (.here _) ?_); clear hf hs a; intro w hs a hf
        refine s_a hf rfl ?_; clear hf a; intro a hf
        refine s_nil ?_
        refine then_n ?_
        refine wp_ret ?_
        refine then_r ?_
        refine r_2c hf Tryd.results16 rfl rfl hs ag24 rfl (.here _) ?_
        rw [(dec_no hno).1, (dec_no hno).2]
        exact ⟨rfl, hs.kept⟩
      · first | simp only [decide_eq_true_eq, decide_eq_false_iff_not, Bool.not_eq_true', Bool.not_eq_false'] at hi0 | skip
        have hbad : False := by
          cases h9 : slOk (((n0 : Int), (n1 : Int), (n2 : Int), (n3 : Int), (n4 : Int), (n5 : Int), n6) : Sl) with
          | false => exact absurd (enc_no h9).1 (by rw [hg5_2]; decide)
          | true => have h8 := congrArg List.length hi0; rw [(enc_ok h9).2, secS_len] at h8; omega
        refine wp_skip ?_
        refine then_n ?_
        refine wp_seq ?_
        refine wp_region_lit ?_
        replace hs := hs.take (A := cb b5 24 (slF (((n0 : Int), (n1 : Int), (n2 : Int), (n3 : Int), (n4 : Int), (n5 : Int), n6) : Sl))) (by first | exact .here _ | exact .there _ (.here _) | exact .there _ (.there _ (.here _)) | exact .there _ (.there _ (.there _ (.here _))) | exact .there _ (.there _ (.there _ (.there _ (.here _)))) | exact .there _ (.there _ (.there _ (.there _ (.there _ (.here _))))) | exact .there _ (.there _ (.there _ (.there _ (.there _ (.there _ (.here _)))))) | exact .there _ (.there _ (.there _ (.there _ (.there _ (.there _ (.there _ (.here _))))))) | exact .there _ (.there _ (.there _ (.there _ (.there _ (.there _ (.there _ (.there _ (.here _)))))))) | exact .there _ (.there _ (.there _ (.there _ (.there _ (.there _ (.there _ (.there _ (.there _ (.here _))))))))) | exact .there _ (.there _ (.there _ (.there _ (.there _ (.there _ (.there _ (.there _ (.there _ (.there _ (.here _)))))))))) | exact .there _ (.there _ (.there _ (.there _ (.there _ (.there _ (.there _ (.there _ (.there _ (.there _ (.there _ (.here _))))))))))))
        refine s_r hf (x_loadBlk hs ag24 (hf.eval rfl) rfl (by first | exact .here _ | exact .there _ (.here _) | exact .there _ (.there _ (.here _)) | exact .there _ (.there _ (.there _ (.here _))) | exact .there _ (.there _ (.there _ (.there _ (.here _)))) | exact .there _ (.there _ (.there _ (.there _ (.there _ (.here _))))) | exact .there _ (.there _ (.there _ (.there _ (.there _ (.there _ (.here _)))))) | exact .there _ (.there _ (.there _ (.there _ (.there _ (.there _ (.there _ (.here _))))))) | exact .there _ (.there _ (.there _ (.there _ (.there _ (.there _ (.there _ (.there _ (.here _)))))))) | exact .there _ (.there _ (.there _ (.there _ (.there _ (.there _ (.there _ (.there _ (.there _ (.here _))))))))))) ?_; clear hf a; intro a hf
        replace hs := hs.take (A := cb b2 24 (slF zSl)) (by first | exact .here _ | exact .there _ (.here _) | exact .there _ (.there _ (.here _)) | exact .there _ (.there _ (.there _ (.here _))) | exact .there _ (.there _ (.there _ (.there _ (.here _)))) | exact .there _ (.there _ (.there _ (.there _ (.there _ (.here _))))) | exact .there _ (.there _ (.there _ (.there _ (.there _ (.there _ (.here _)))))) | exact .there _ (.there _ (.there _ (.there _ (.there _ (.there _ (.there _ (.here _))))))) | exact .there _ (.there _ (.there _ (.there _ (.there _ (.there _ (.there _ (.there _ (.here _)))))))) | exact .there _ (.there _ (.there _ (.there _ (.there _ (.there _ (.there _ (.there _ (.there _ (.here _))))))))) | exact .there _ (.there _ (.there _ (.there _ (.there _ (.there _ (.there _ (.there _ (.there _ (.there _ (.here _)))))))))) | exact .there _ (.there _ (.there _ (.there _ (.there _ (.there _ (.there _ (.there _ (.there _ (.there _ (.there _ (.here _))))))))))))
        refine s_do0 hf rfl (y_storeAgg (cs := slF (((n0 : Int), (n1 : Int), (n2 : Int), (n3 : Int), (n4 : Int), (n5 : Int), n6) : Sl)) hs (n := 7) (by kernel_rfl) (hf.eval rfl) (hf.eval rfl) (by simp [Value.oneCell', slF]) rfl rfl (.here _) ?_); clear hf hs a; intro w hs a hf
        refine s_a hf rfl ?_; clear hf a; intro a hf
        refine s_nil ?_
        refine then_n ?_
        refine wp_ret ?_
        refine r_2c hf Tryd.results16 rfl rfl hs ag24 rfl (.here _) ?_
        exact hbad.elim

theorem decode_spec (w0 : World) (hT : Tab 0 (hp w0)) (a1 : Option Addr) (c1 : Nat) (data : List UInt8) (hr1 : RdB (hp w0) (.slice a1 data.length c1) data) (hl1 : data.length ≤ 140737488351232) : Calls Tryd.prog 16 #[.slice a1 data.length c1] w0 fun e w' => e = .returned (.tuple #[.agg (slF (decV data)).toArray, .int .i64 (decE data)]) ∧ Kept w0 w' None_ := by
  by_cases h : 36 ≤ data.length
  · exact decode_big w0 hT a1 c1 data hr1 hl1 h
  · exact decode_small w0 hT a1 c1 data hr1 hl1 (by omega)

end Go.Proofs.YtehakfbfjpolfaaDoor
