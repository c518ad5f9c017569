/- Texts Best Law. -/
import Derived.Test.YtiempdpjcddgfaaDoorJ10
section
/- The best choice, and how many pieces it fetches. -/
set_option linter.unusedSimpArgs false
set_option maxRecDepth 100000
set_option maxHeartbeats 1000000
set_option linter.unusedVariables false
namespace Go.Proofs.YtiempdpjcddgfaaDoor
open Go Go.X
set_option linter.defProp false
def y6_50 := And.intro (fun H => loadAt_aggE (H := H) Tryd.underlying25 rfl Tryd.sizeOf25) (And.intro @callF15 (And.intro (fun H => len_slice (H := H) Tryd.underlying22) (And.intro (fun H => makeSlice_one (H := H) Tryd.underlying22 Tryd.sizeOf3 Tryd.zeroValue3 rfl Tryd.typeInfo3 (by decide)) (And.intro (fun H => ex_alloc (H := H) (P := Tryd.prog) (h := Tryd.zeroValue22)) (And.intro (fun H => storeAt_slice (H := H) Tryd.sizeOf22) (And.intro @callF16 (And.intro (fun H => ex_alloc (H := H) (P := Tryd.prog) (h := Tryd.zeroValue58)) (And.intro (fun H => storeAt_agg (H := H) Tryd.sizeOf58) (And.intro (fun H => loadAt_one (H := H) Tryd.underlying22 rfl) (And.intro (fun H => slice_arr (H := H) Tryd.underlying58 Tryd.sizeOf3) (And.intro (fun H => slice_arr_hi (H := H) Tryd.underlying58 Tryd.sizeOf3) (And.intro @callF18 @callF17))))))))))))
def y33_50 := And.intro (fun H => ex_alloc (H := H) (P := Tryd.prog) (h := Tryd.zeroValue58)) (And.intro (fun H => ex_alloc (H := H) (P := Tryd.prog) (h := Tryd.zeroValue90)) (And.intro (fun H => storeAt_func (H := H) Tryd.sizeOf90) (And.intro (fun H => storeAt_nilFunc (H := H) Tryd.sizeOf90) (And.intro (fun H => loadAt_one (H := H) Tryd.underlying90 rfl) (And.intro (fun H => loadAt_one (H := H) Tryd.underlying51 rfl) @callF18)))))

theorem optF_path_len (L : Nat) (pl : Int) : ∀ (ts : List Int) (m : Nat), (pathF L pl ts m).length = ts.length
  | [], _ => rfl
  | t :: ts, m => by
    unfold pathF
    simp [optF_path_len L pl ts]

/-- The first choice is handed on. -/
theorem pick1_spec (main : Bool) {S : Nat → Prop} {A : List Int → Prop} {T : Bool → List (List Int) → Hp → Prop} {yf : Fn} {yi yc : Array Value} {pl pieces : Int} {sv cv tv : Value} {start ts : List Int} {thisb db mb : Nat} (hdm : db ≠ mb) (hln : ts.length ≤ 8) (hts6 : ∀ t ∈ ts, 0 ≤ t ∧ t < 6) (h1 : 1 ≤ pl)
    (hC : Client Tryd.prog main (.func yf yi yc) S (fun H v xs => v = .agg (ints xs).toArray) A T) (hstop : ∀ l H, ¬ T true [l] H) (H : Hp) (hT : T true [] H) (vth : H thisb = some (true, .cells #[.pointer (some ⟨db, 0, none⟩)] 51 (0, 0)))
    (vdb : H db = some (true, dayO pl pieces sv cv tv mb)) (hts : SlI H tv ts) (hst : SlI H sv start) (hs6 : ∀ x ∈ start, 0 ≤ x ∧ x < 6) (hsl : start.length ≤ 1000) (hk : KnownI H mb ts.length pl ts) (nth : ¬ S thisb) (nd : ¬ S db) (nm : ¬ S mb) (nt : ts ≠ [] → ∀ b, rowB tv = some b → ¬ S b)
    (hA : A (pathF ts.length pl ts (oOf start) ++ List.replicate (8 - ts.length) 0)) :
    FnX Tryd.prog main 33 #[.func yf yi yc, .pointer (some ⟨thisb, 0, none⟩)] H fun e H' => e = .returned (.tuple #[]) ∧ T false [pathF ts.length pl ts (oOf start) ++ List.replicate (8 - ts.length) 0] H' ∧ KnownI H' mb ts.length pl ts ∧
      ∀ b x, ¬ S b → b ≠ mb → H b = some x → H' b = some x := by
  obtain ⟨es, cl, vmb, hmap⟩ := hk
  refine FnX_start Tryd.func33 rfl Tryd.ntmps33 (by simp) ?_
  repeat' (first
  | (refine wpX_stmtL rfl ?_; intro K hK; simp -implicitDefEqProofs (disch := first | omega | (simp only [qd] <;> omega)) only [xq, ↓xp, qc, Nat.reduceAdd, List.range, List.range.loop, fine, Nat.reduceEqDiff, ↓reduceIte, yielded, reduceCtorEq, Nat.reduceLT, Nat.reduceMul, Nat.reduceSub, one, Nat.reduceLeDiff, runX_cons, y33_50, aq, ↓ap, qe0, qe1, qe2, *, -hK, cells_nilFunc, cells_func, List.size_toArray, List.length_cons, List.length_nil, Nat.reduceAdd, Nat.reduceLT]; try (refine hK _ _ ?_; clear hK K))
  | (refine wpX_lastL rfl ?_; intro K hK; simp -implicitDefEqProofs (disch := first | omega | (simp only [qd] <;> omega)) only [xq, ↓xp, qc, Nat.reduceAdd, List.range, List.range.loop, fine, Nat.reduceEqDiff, ↓reduceIte, yielded, reduceCtorEq, Nat.reduceLT, Nat.reduceMul, Nat.reduceSub, one, Nat.reduceLeDiff, runX_cons, y33_50, aq, ↓ap, qe0, qe1, qe2, *, -hK, cells_nilFunc, cells_func, List.size_toArray, List.length_cons, List.length_nil, Nat.reduceAdd, Nat.reduceLT]; try (refine hK _ _ ?_; clear hK K; (try simp only [nq, ↓reduceIte, Nat.reduceEqDiff])))
  | (refine wpX_skip ?_; (try simp only [nq, ↓reduceIte, Nat.reduceEqDiff]))
  | (refine wpX_label ?_; (try simp only [nq, ↓reduceIte, Nat.reduceEqDiff]))
  | (refine wpX_exit ?_; (try simp only [nq, ↓reduceIte, Nat.reduceEqDiff]))
  | (refine wpX_goto ?_; (try simp only [nq, ↓reduceIte, Nat.reduceEqDiff]))
  | (refine wpX_condK (by simp only [act_eval, upd_get, Nat.reduceEqDiff, Nat.reduceLT, ↓reduceIte, *]; rfl) ?_ ?_ <;> (intro hc; first | (exfalso; simp -implicitDefEqProofs (disch := omega) only [*, bq, reduceCtorEq] at hc; done) | (simp only [dq, qe3, qe4, qe5, qe6] at hc) | skip))
  | (refine wpX_scope0 ?_)
  | (refine wpX_block ?_)
  | (refine wpX_seq ?_))
  (intro yb hyb; generalize hG : Hp.set _ yb _ = H1; have lH1 := le_of_set hG hyb; have vyb := at_of_set hG; clear hG)
  have vth1 := lH1 _ _ vth
  have vdb1 := lH1 _ _ vdb
  have vmb1 := lH1 _ _ vmb
  have hT1 := hC.keep _ _ _ H1 hT fun b x _ hx => lH1 _ _ hx
  have ny : ¬ S yb := fun h => hC.ex _ _ _ _ hT h hyb
  (try simp -implicitDefEqProofs (disch := first | omega | (simp only [qd] <;> omega)) only [xq, ↓xp, qc, Nat.reduceAdd, List.range, List.range.loop, fine, Nat.reduceEqDiff, ↓reduceIte, yielded, reduceCtorEq, Nat.reduceLT, Nat.reduceMul, Nat.reduceSub, one, Nat.reduceLeDiff, runX_cons, y33_50, aq, ↓ap, qe0, qe1, qe2, *, -hK, cells_nilFunc, cells_func, List.size_toArray, List.length_cons, List.length_nil, Nat.reduceAdd, Nat.reduceLT]); try (refine hK _ _ ?_; clear hK K; (try simp only [nq, ↓reduceIte, Nat.reduceEqDiff])); repeat' (first
  | (refine wpX_stmtL rfl ?_; intro K hK; simp -implicitDefEqProofs (disch := first | omega | (simp only [qd] <;> omega)) only [xq, ↓xp, qc, Nat.reduceAdd, List.range, List.range.loop, fine, Nat.reduceEqDiff, ↓reduceIte, yielded, reduceCtorEq, Nat.reduceLT, Nat.reduceMul, Nat.reduceSub, one, Nat.reduceLeDiff, runX_cons, y33_50, aq, ↓ap, qe0, qe1, qe2, *, -hK, cells_nilFunc, cells_func, List.size_toArray, List.length_cons, List.length_nil, Nat.reduceAdd, Nat.reduceLT]; try (refine hK _ _ ?_; clear hK K))
  | (refine wpX_lastL rfl ?_; intro K hK; simp -implicitDefEqProofs (disch := first | omega | (simp only [qd] <;> omega)) only [xq, ↓xp, qc, Nat.reduceAdd, List.range, List.range.loop, fine, Nat.reduceEqDiff, ↓reduceIte, yielded, reduceCtorEq, Nat.reduceLT, Nat.reduceMul, Nat.reduceSub, one, Nat.reduceLeDiff, runX_cons, y33_50, aq, ↓ap, qe0, qe1, qe2, *, -hK, cells_nilFunc, cells_func, List.size_toArray, List.length_cons, List.length_nil, Nat.reduceAdd, Nat.reduceLT]; try (refine hK _ _ ?_; clear hK K; (try simp only [nq, ↓reduceIte, Nat.reduceEqDiff])))
  | (refine wpX_skip ?_; (try simp only [nq, ↓reduceIte, Nat.reduceEqDiff]))
  | (refine wpX_label ?_; (try simp only [nq, ↓reduceIte, Nat.reduceEqDiff]))
  | (refine wpX_exit ?_; (try simp only [nq, ↓reduceIte, Nat.reduceEqDiff]))
  | (refine wpX_goto ?_; (try simp only [nq, ↓reduceIte, Nat.reduceEqDiff]))
  | (refine wpX_condK (by simp only [act_eval, upd_get, Nat.reduceEqDiff, Nat.reduceLT, ↓reduceIte, *]; rfl) ?_ ?_ <;> (intro hc; first | (exfalso; simp -implicitDefEqProofs (disch := omega) only [*, bq, reduceCtorEq] at hc; done) | (simp only [dq, qe3, qe4, qe5, qe6] at hc) | skip))
  | (refine wpX_scope0 ?_)
  | (refine wpX_block ?_)
  | (refine wpX_seq ?_))
  (intro ab hab; generalize hG : Hp.set _ ab _ = H2; have lH2 := le_of_set hG hab; have vab := at_of_set hG; clear hG)
  have vyb2 := lH2 _ _ vyb
  have vth2 := lH2 _ _ vth1
  have vdb2 := lH2 _ _ vdb1
  have vmb2 := lH2 _ _ vmb1
  have hT2 := hC.keep _ _ _ H2 hT1 fun b x _ hx => lH2 _ _ hx
  have na : ¬ S ab := fun h => hC.ex _ _ _ _ hT1 h hab
  (try simp -implicitDefEqProofs (disch := first | omega | (simp only [qd] <;> omega)) only [xq, ↓xp, qc, Nat.reduceAdd, List.range, List.range.loop, fine, Nat.reduceEqDiff, ↓reduceIte, yielded, reduceCtorEq, Nat.reduceLT, Nat.reduceMul, Nat.reduceSub, one, Nat.reduceLeDiff, runX_cons, y33_50, aq, ↓ap, qe0, qe1, qe2, *, -hK, cells_nilFunc, cells_func, List.size_toArray, List.length_cons, List.length_nil, Nat.reduceAdd, Nat.reduceLT]); try (refine hK _ _ ?_; clear hK K; (try simp only [nq, ↓reduceIte, Nat.reduceEqDiff])); repeat' (first
  | (refine wpX_stmtL rfl ?_; intro K hK; simp -implicitDefEqProofs (disch := first | omega | (simp only [qd] <;> omega)) only [xq, ↓xp, qc, Nat.reduceAdd, List.range, List.range.loop, fine, Nat.reduceEqDiff, ↓reduceIte, yielded, reduceCtorEq, Nat.reduceLT, Nat.reduceMul, Nat.reduceSub, one, Nat.reduceLeDiff, runX_cons, y33_50, aq, ↓ap, qe0, qe1, qe2, *, -hK, cells_nilFunc, cells_func, List.size_toArray, List.length_cons, List.length_nil, Nat.reduceAdd, Nat.reduceLT]; try (refine hK _ _ ?_; clear hK K))
  | (refine wpX_lastL rfl ?_; intro K hK; simp -implicitDefEqProofs (disch := first | omega | (simp only [qd] <;> omega)) only [xq, ↓xp, qc, Nat.reduceAdd, List.range, List.range.loop, fine, Nat.reduceEqDiff, ↓reduceIte, yielded, reduceCtorEq, Nat.reduceLT, Nat.reduceMul, Nat.reduceSub, one, Nat.reduceLeDiff, runX_cons, y33_50, aq, ↓ap, qe0, qe1, qe2, *, -hK, cells_nilFunc, cells_func, List.size_toArray, List.length_cons, List.length_nil, Nat.reduceAdd, Nat.reduceLT]; try (refine hK _ _ ?_; clear hK K; (try simp only [nq, ↓reduceIte, Nat.reduceEqDiff])))
  | (refine wpX_skip ?_; (try simp only [nq, ↓reduceIte, Nat.reduceEqDiff]))
  | (refine wpX_label ?_; (try simp only [nq, ↓reduceIte, Nat.reduceEqDiff]))
  | (refine wpX_exit ?_; (try simp only [nq, ↓reduceIte, Nat.reduceEqDiff]))
  | (refine wpX_goto ?_; (try simp only [nq, ↓reduceIte, Nat.reduceEqDiff]))
  | (refine wpX_condK (by simp only [act_eval, upd_get, Nat.reduceEqDiff, Nat.reduceLT, ↓reduceIte, *]; rfl) ?_ ?_ <;> (intro hc; first | (exfalso; simp -implicitDefEqProofs (disch := omega) only [*, bq, reduceCtorEq] at hc; done) | (simp only [dq, qe3, qe4, qe5, qe6] at hc) | skip))
  | (refine wpX_scope0 ?_)
  | (refine wpX_block ?_)
  | (refine wpX_seq ?_))
  intro gb hgb
  have ng : ¬ S gb := fun h => hC.ex _ _ _ _ hT2 h hgb
  have hle3 : ∀ o, H2.le (H2.set gb o) := fun o => Hp.le_set hgb
  (try simp -implicitDefEqProofs (disch := first | omega | (simp only [qd] <;> omega)) only [xq, ↓xp, qc, Nat.reduceAdd, List.range, List.range.loop, fine, Nat.reduceEqDiff, ↓reduceIte, yielded, reduceCtorEq, Nat.reduceLT, Nat.reduceMul, Nat.reduceSub, one, Nat.reduceLeDiff, runX_cons, y33_50, aq, ↓ap, qe0, qe1, qe2, *, -hK, cells_nilFunc, cells_func, List.size_toArray, List.length_cons, List.length_nil, Nat.reduceAdd, Nat.reduceLT]); try (refine hK _ _ ?_; clear hK K; (try simp only [nq, ↓reduceIte, Nat.reduceEqDiff])); repeat' (first
  | (refine wpX_stmtL rfl ?_; intro K hK; simp -implicitDefEqProofs (disch := first | omega | (simp only [qd] <;> omega)) only [xq, ↓xp, qc, Nat.reduceAdd, List.range, List.range.loop, fine, Nat.reduceEqDiff, ↓reduceIte, yielded, reduceCtorEq, Nat.reduceLT, Nat.reduceMul, Nat.reduceSub, one, Nat.reduceLeDiff, runX_cons, y33_50, aq, ↓ap, qe0, qe1, qe2, *, -hK, cells_nilFunc, cells_func, List.size_toArray, List.length_cons, List.length_nil, Nat.reduceAdd, Nat.reduceLT]; try (refine hK _ _ ?_; clear hK K))
  | (refine wpX_lastL rfl ?_; intro K hK; simp -implicitDefEqProofs (disch := first | omega | (simp only [qd] <;> omega)) only [xq, ↓xp, qc, Nat.reduceAdd, List.range, List.range.loop, fine, Nat.reduceEqDiff, ↓reduceIte, yielded, reduceCtorEq, Nat.reduceLT, Nat.reduceMul, Nat.reduceSub, one, Nat.reduceLeDiff, runX_cons, y33_50, aq, ↓ap, qe0, qe1, qe2, *, -hK, cells_nilFunc, cells_func, List.size_toArray, List.length_cons, List.length_nil, Nat.reduceAdd, Nat.reduceLT]; try (refine hK _ _ ?_; clear hK K; (try simp only [nq, ↓reduceIte, Nat.reduceEqDiff])))
  | (refine wpX_skip ?_; (try simp only [nq, ↓reduceIte, Nat.reduceEqDiff]))
  | (refine wpX_label ?_; (try simp only [nq, ↓reduceIte, Nat.reduceEqDiff]))
  | (refine wpX_exit ?_; (try simp only [nq, ↓reduceIte, Nat.reduceEqDiff]))
  | (refine wpX_goto ?_; (try simp only [nq, ↓reduceIte, Nat.reduceEqDiff]))
  | (refine wpX_condK (by simp only [act_eval, upd_get, Nat.reduceEqDiff, Nat.reduceLT, ↓reduceIte, *]; rfl) ?_ ?_ <;> (intro hc; first | (exfalso; simp -implicitDefEqProofs (disch := omega) only [*, bq, reduceCtorEq] at hc; done) | (simp only [dq, qe3, qe4, qe5, qe6] at hc) | skip))
  | (refine wpX_scope0 ?_)
  | (refine wpX_block ?_)
  | (refine wpX_seq ?_))
  generalize hG : Hp.set H2 gb _ = H3
  have l3 : H2.le H3 := hG ▸ Hp.le_set hgb
  have vgb3 : H3 gb = _ := hG ▸ set_at
  clear hG
  have vth3 := l3 _ _ vth2
  have vdb3 := l3 _ _ vdb2
  have vmb3 := l3 _ _ vmb2
  have l03 : H.le H3 := Hp.le_trans lH1 (Hp.le_trans lH2 l3)
  have hP : Picks H S T (.func yf yi yc) pl pieces sv cv tv ts thisb db mb yb ab gb true [] (List.replicate 8 0) H3 :=
    ⟨hC.keep _ _ _ H3 hT2 fun b x _ hx => l3 _ _ hx, vth3, vdb3, hts.le l03, ⟨es, cl, vmb3, hmap⟩, l3 _ _ vyb2, l3 _ _ vab, vgb3, by simp, nth, nd, nm, nt, ny, na, ng, fun b x _ _ _ hx => l03 _ _ hx⟩
  have hfirst := fun H' (hd : H' db = some (true, dayO pl pieces sv cv tv mb)) (hs : SlI H' sv start) => first_spec main H' db pl pieces sv cv tv start mb hd hs hs6 (by omega)
  have hst3 := hst.le l03
  have hfr3 : ∀ b x, b ≠ ab → H b = some x → H3 b = some x := fun b x _ hx => l03 _ _ hx
  have nHa : ∀ b x, H b = some x → b ≠ ab := fun b x hx e => by have := lH1 _ _ hx; rw [e, hab] at this; cases this
  clear hT hT1 hT2 vth vdb vmb vth1 vdb1 vmb1 vth2 vdb2 vmb2 lH1 lH2 l3 hle3 vyb vyb2 vab hyb hab hgb hts hst
  refine wpX_dst1 3 [(true, 0), (true, 1), (true, 2), (false, 3)] (by kernel_rfl) (by kernel_rfl) (by simp) (by kernel_rfl) ?_; intro K hK
  (iterate 2 (apply plan_take rfl rfl rfl; (focus (simp -implicitDefEqProofs (disch := first | omega | (simp only [qd] <;> omega)) only [xq, ↓xp, qc, Nat.reduceAdd, List.range, List.range.loop, fine, Nat.reduceEqDiff, ↓reduceIte, yielded, reduceCtorEq, Nat.reduceLT, Nat.reduceMul, Nat.reduceSub, one, Nat.reduceLeDiff, runX_cons, y33_50, aq, ↓ap, qe0, qe1, qe2, *, -hK, YN_value, cells_nilFunc, cells_func, List.size_toArray, List.length_cons, List.length_nil, Nat.reduceAdd, Nat.reduceLT] <;> (first | exact rfl | exact ⟨rfl, rfl⟩ | exact ⟨rfl, trivial⟩))); simp -implicitDefEqProofs (disch := first | omega | (simp only [qd] <;> omega)) only [act_put, act_put_none]))
  (apply plan_take rfl rfl rfl; (focus (simp -implicitDefEqProofs (disch := first | omega | (simp only [qd] <;> omega)) only [xq, ↓xp, qc, Nat.reduceAdd, List.range, List.range.loop, fine, Nat.reduceEqDiff, ↓reduceIte, yielded, reduceCtorEq, Nat.reduceLT, Nat.reduceMul, Nat.reduceSub, one, Nat.reduceLeDiff, runX_cons, y33_50, aq, ↓ap, qe0, qe1, qe2, *, -hK, YN_enter, cells_nilFunc, cells_func, List.size_toArray, List.length_cons, List.length_nil, Nat.reduceAdd, Nat.reduceLT]; exact quiet_le (hfirst H3 vdb3 hst3))); simp -implicitDefEqProofs (disch := omega) only [act_put, act_put_none])
  refine plan_tail ?_
  have hall : (List.replicate 8 (0 : Int)).take 0 ++ pathF ts.length pl (ts.drop 0) (oOf start) ++ (List.replicate 8 (0 : Int)).drop ts.length = pathF ts.length pl ts (oOf start) ++ List.replicate (8 - ts.length) 0 := by
    rw [List.take_zero, List.drop_zero, List.nil_append, List.drop_replicate]
  have hrec := choose_spec main hdm hln hts6 h1 hC hstop ts.length 0 (oOf start) (List.replicate 8 0) H3 rfl (by omega) (oOf_lt start 0 (by omega) hs6) hP (by rw [hall]; exact hA)
  rw [hall] at hrec
  simp only [spotV] at hrec
  simp -implicitDefEqProofs (disch := first | omega | (simp only [qd] <;> omega)) only [xq, ↓xp, qc, Nat.reduceAdd, List.range, List.range.loop, fine, Nat.reduceEqDiff, ↓reduceIte, yielded, reduceCtorEq, Nat.reduceLT, Nat.reduceMul, Nat.reduceSub, one, Nat.reduceLeDiff, runX_cons, y33_50, aq, ↓ap, qe0, qe1, qe2, *, -hK, cells_nilFunc, cells_func, List.size_toArray, List.length_cons, List.length_nil, Nat.reduceAdd, Nat.reduceLT]
  rw [callF34, uponX_enterK]
  simp only [Array.empty_append, List.append_toArray, List.cons_append, List.nil_append]
  refine hrec.runs.mono ?_
  rintro _ H5 ⟨rfl, xs', rfl, hP5⟩
  simp -implicitDefEqProofs (disch := first | omega | (simp only [qd] <;> omega)) only [xq, ↓xp, qc, Nat.reduceAdd, List.range, List.range.loop, fine, Nat.reduceEqDiff, ↓reduceIte, yielded, reduceCtorEq, Nat.reduceLT, Nat.reduceMul, Nat.reduceSub, one, Nat.reduceLeDiff, runX_cons, y33_50, aq, ↓ap, qe0, qe1, qe2, *, -hK, cells_nilFunc, cells_func, List.size_toArray, List.length_cons, List.length_nil, Nat.reduceAdd, Nat.reduceLT]
  refine hK _ _ ?_
  ((try simp only [nq, ↓reduceIte, Nat.reduceEqDiff]); rw [bodyX_normal, results_zero Tryd.results33])
  exact ⟨rfl, hP5.cl, hP5.known, fun b x hS hbm hx => hP5.fr b x hS hbm (nHa b x hx) hx⟩

theorem begin_known (H : Hp) (mb L : Nat) (pl : Int) (ts : List Int) (h : H mb = some (true, .map #[] 0)) : KnownI H mb L pl ts := ⟨#[], 0, h, fun e he => by simp at he⟩

theorem behind_exit {n : Nat} {e : Nat → Value} {ds : List Deferred} {l r id : Nat} {Q : Exit → Act → Hp → Prop} {v : Value} {H : Hp} {q : Loop} (h : H l = some (true, .loop q)) (h1 : q.state ≠ .busy) (h2 : q.pending = some (.exit id))
    (hk : Q (.exit id) (act n e (coll r :: ds)) (H.set l (.loop { q with state := .exhausted }))) : behind l r (act n e ds) Q (.returned v) H := by
  refine ⟨q, h, h1, ?_⟩
  cases q
  simp only [] at h1 h2
  subst h2
  exact hk

/-- What Best's loop holds. -/
def bestT (l r ob cb : Nat) (n : Nat) (lo : Loop) (t : Bool) (L : List (List Int)) (H : Hp) : Prop :=
  H r = some (true, .deferred (some [])) ∧ H cb = some (true, .cells #[.slice (some ⟨ob, 0, none⟩) n n] 22 (0, 0)) ∧
    ((t = true ∧ L = [] ∧ H l = some (true, .loop lo) ∧ H ob = some (true, .cells (ints (List.replicate n 0)).toArray 3 (0, 0))) ∨
     (t = false ∧ ∃ xs, L = [xs] ∧ H l = some (true, .loop { lo with state := .done, pending := some (.exit 0) }) ∧ H ob = some (true, .cells (ints (xs.take n)).toArray 3 (0, 0))))

theorem best_spec (main : Bool) (H : Hp) (places pieces : Int) (sv cv tv : Value) (start : List Int) (xss : List (List Int)) (ts : List Int) (hd : DayIn H places pieces sv cv tv start xss ts) :
    FnX Tryd.prog main 6 #[.agg #[.int .i64 places, .int .i64 pieces, sv, cv], tv] H fun e H' => ∃ v, e = .returned (.tuple #[v, .int .i64 (optF ts.length places ts (oOf start)), .int .i64 0]) ∧ SlI H' v (pathF ts.length places ts (oOf start)) ∧ H.le H' := by
  obtain ⟨sa, sn, sc, rfl⟩ := hd.st.isSlice
  obtain ⟨ca, cn, cc, rfl⟩ := hd.calls.isSlice
  obtain ⟨ta, tc, rfl, htc, _⟩ := id hd.truth
  refine FnX_start Tryd.func6 rfl Tryd.ntmps6 (by simp) ?_
  repeat' (first
  | (refine wpX_stmtL rfl ?_; intro K hK; simp -implicitDefEqProofs (disch := first | omega | (simp only [qd] <;> omega)) only [xq, ↓xp, qc, Nat.reduceAdd, List.range, List.range.loop, fine, Nat.reduceEqDiff, ↓reduceIte, yielded, reduceCtorEq, Nat.reduceLT, Nat.reduceMul, Nat.reduceSub, one, Nat.reduceLeDiff, runX_cons, y6_50, aq, ↓ap, qe0, qe1, qe2, *, -hK]; try (refine hK _ _ ?_; clear hK K))
  | (refine wpX_lastL rfl ?_; intro K hK; simp -implicitDefEqProofs (disch := first | omega | (simp only [qd] <;> omega)) only [xq, ↓xp, qc, Nat.reduceAdd, List.range, List.range.loop, fine, Nat.reduceEqDiff, ↓reduceIte, yielded, reduceCtorEq, Nat.reduceLT, Nat.reduceMul, Nat.reduceSub, one, Nat.reduceLeDiff, runX_cons, y6_50, aq, ↓ap, qe0, qe1, qe2, *, -hK]; try (refine hK _ _ ?_; clear hK K; (try simp only [nq, ↓reduceIte, Nat.reduceEqDiff])))
  | (refine wpX_skip ?_; (try simp only [nq, ↓reduceIte, Nat.reduceEqDiff]))
  | (refine wpX_label ?_; (try simp only [nq, ↓reduceIte, Nat.reduceEqDiff]))
  | (refine wpX_exit ?_; (try simp only [nq, ↓reduceIte, Nat.reduceEqDiff]))
  | (refine wpX_goto ?_; (try simp only [nq, ↓reduceIte, Nat.reduceEqDiff]))
  | (refine wpX_condK (by simp only [act_eval, upd_get, Nat.reduceEqDiff, Nat.reduceLT, ↓reduceIte, *]; rfl) ?_ ?_ <;> (intro hc; first | (exfalso; simp -implicitDefEqProofs (disch := omega) only [*, bq, reduceCtorEq] at hc; done) | (simp only [dq, qe3, qe4, qe5, qe6] at hc) | skip))
  | (refine wpX_scope0 ?_)
  | (refine wpX_block ?_)
  | (refine wpX_seq ?_))
  (intro vb hvb; generalize hG : Hp.set _ vb _ = H1; have lH1 := le_of_set hG hvb; have vvb := at_of_set hG; clear hG)
  have hd1 := hd.le lH1
  (try simp -implicitDefEqProofs (disch := first | omega | (simp only [qd] <;> omega)) only [xq, ↓xp, qc, Nat.reduceAdd, List.range, List.range.loop, fine, Nat.reduceEqDiff, ↓reduceIte, yielded, reduceCtorEq, Nat.reduceLT, Nat.reduceMul, Nat.reduceSub, one, Nat.reduceLeDiff, runX_cons, y6_50, aq, ↓ap, qe0, qe1, qe2, *, -hK]); try (refine hK _ _ ?_; clear hK K; (try simp only [nq, ↓reduceIte, Nat.reduceEqDiff])); repeat' (first
  | (refine wpX_stmtL rfl ?_; intro K hK; simp -implicitDefEqProofs (disch := first | omega | (simp only [qd] <;> omega)) only [xq, ↓xp, qc, Nat.reduceAdd, List.range, List.range.loop, fine, Nat.reduceEqDiff, ↓reduceIte, yielded, reduceCtorEq, Nat.reduceLT, Nat.reduceMul, Nat.reduceSub, one, Nat.reduceLeDiff, runX_cons, y6_50, aq, ↓ap, qe0, qe1, qe2, *, -hK]; try (refine hK _ _ ?_; clear hK K))
  | (refine wpX_lastL rfl ?_; intro K hK; simp -implicitDefEqProofs (disch := first | omega | (simp only [qd] <;> omega)) only [xq, ↓xp, qc, Nat.reduceAdd, List.range, List.range.loop, fine, Nat.reduceEqDiff, ↓reduceIte, yielded, reduceCtorEq, Nat.reduceLT, Nat.reduceMul, Nat.reduceSub, one, Nat.reduceLeDiff, runX_cons, y6_50, aq, ↓ap, qe0, qe1, qe2, *, -hK]; try (refine hK _ _ ?_; clear hK K; (try simp only [nq, ↓reduceIte, Nat.reduceEqDiff])))
  | (refine wpX_skip ?_; (try simp only [nq, ↓reduceIte, Nat.reduceEqDiff]))
  | (refine wpX_label ?_; (try simp only [nq, ↓reduceIte, Nat.reduceEqDiff]))
  | (refine wpX_exit ?_; (try simp only [nq, ↓reduceIte, Nat.reduceEqDiff]))
  | (refine wpX_goto ?_; (try simp only [nq, ↓reduceIte, Nat.reduceEqDiff]))
  | (refine wpX_condK (by simp only [act_eval, upd_get, Nat.reduceEqDiff, Nat.reduceLT, ↓reduceIte, *]; rfl) ?_ ?_ <;> (intro hc; first | (exfalso; simp -implicitDefEqProofs (disch := omega) only [*, bq, reduceCtorEq] at hc; done) | (simp only [dq, qe3, qe4, qe5, qe6] at hc) | skip))
  | (refine wpX_scope0 ?_)
  | (refine wpX_block ?_)
  | (refine wpX_seq ?_))
  refine (begin_spec main H1 places pieces _ _ _ start xss ts hd1).runs.mono ?_
  rintro _ H2 ⟨db, mb, rfl, lH2, hdm, hdb, hmb, vdb, vmb⟩
  have hd2 := hd1.le lH2
  have hl8 : ts.length ≤ 8 := by have := hd.true.1; have := hd.few; omega
  (try simp -implicitDefEqProofs (disch := first | omega | (simp only [qd] <;> omega)) only [xq, ↓xp, qc, Nat.reduceAdd, List.range, List.range.loop, fine, Nat.reduceEqDiff, ↓reduceIte, yielded, reduceCtorEq, Nat.reduceLT, Nat.reduceMul, Nat.reduceSub, one, Nat.reduceLeDiff, runX_cons, y6_50, aq, ↓ap, qe0, qe1, qe2, *, -hK]); try (refine hK _ _ ?_; clear hK K; (try simp only [nq, ↓reduceIte, Nat.reduceEqDiff])); repeat' (first
  | (refine wpX_stmtL rfl ?_; intro K hK; simp -implicitDefEqProofs (disch := first | omega | (simp only [qd] <;> omega)) only [xq, ↓xp, qc, Nat.reduceAdd, List.range, List.range.loop, fine, Nat.reduceEqDiff, ↓reduceIte, yielded, reduceCtorEq, Nat.reduceLT, Nat.reduceMul, Nat.reduceSub, one, Nat.reduceLeDiff, runX_cons, y6_50, aq, ↓ap, qe0, qe1, qe2, *, -hK]; try (refine hK _ _ ?_; clear hK K))
  | (refine wpX_lastL rfl ?_; intro K hK; simp -implicitDefEqProofs (disch := first | omega | (simp only [qd] <;> omega)) only [xq, ↓xp, qc, Nat.reduceAdd, List.range, List.range.loop, fine, Nat.reduceEqDiff, ↓reduceIte, yielded, reduceCtorEq, Nat.reduceLT, Nat.reduceMul, Nat.reduceSub, one, Nat.reduceLeDiff, runX_cons, y6_50, aq, ↓ap, qe0, qe1, qe2, *, -hK]; try (refine hK _ _ ?_; clear hK K; (try simp only [nq, ↓reduceIte, Nat.reduceEqDiff])))
  | (refine wpX_skip ?_; (try simp only [nq, ↓reduceIte, Nat.reduceEqDiff]))
  | (refine wpX_label ?_; (try simp only [nq, ↓reduceIte, Nat.reduceEqDiff]))
  | (refine wpX_exit ?_; (try simp only [nq, ↓reduceIte, Nat.reduceEqDiff]))
  | (refine wpX_goto ?_; (try simp only [nq, ↓reduceIte, Nat.reduceEqDiff]))
  | (refine wpX_condK (by simp only [act_eval, upd_get, Nat.reduceEqDiff, Nat.reduceLT, ↓reduceIte, *]; rfl) ?_ ?_ <;> (intro hc; first | (exfalso; simp -implicitDefEqProofs (disch := omega) only [*, bq, reduceCtorEq] at hc; done) | (simp only [dq, qe3, qe4, qe5, qe6] at hc) | skip))
  | (refine wpX_scope0 ?_)
  | (refine wpX_block ?_)
  | (refine wpX_seq ?_))
  intro ob hob cb hcb
  replace hcb : (Hp.set H2 ob (.cells (Array.replicate ts.length (.int .i64 0)) 3 (0, 0))) cb = none := hcb
  have ncb : ob ≠ cb := fun e => by rw [e, set_at] at hcb; cases hcb
  generalize hG : Hp.set H2 ob _ = H3 at hcb
  have lH3 := le_of_set hG hob
  have vob3 := at_of_set hG
  have hcb2 := Hp.le_none lH3 hcb
  (try simp -implicitDefEqProofs (disch := first | omega | (simp only [qd] <;> omega)) only [xq, ↓xp, qc, Nat.reduceAdd, List.range, List.range.loop, fine, Nat.reduceEqDiff, ↓reduceIte, yielded, reduceCtorEq, Nat.reduceLT, Nat.reduceMul, Nat.reduceSub, one, Nat.reduceLeDiff, runX_cons, y6_50, aq, ↓ap, qe0, qe1, qe2, *, -hK]); try (refine hK _ _ ?_; clear hK K; (try simp only [nq, ↓reduceIte, Nat.reduceEqDiff])); repeat' (first
  | (refine wpX_stmtL rfl ?_; intro K hK; simp -implicitDefEqProofs (disch := first | omega | (simp only [qd] <;> omega)) only [xq, ↓xp, qc, Nat.reduceAdd, List.range, List.range.loop, fine, Nat.reduceEqDiff, ↓reduceIte, yielded, reduceCtorEq, Nat.reduceLT, Nat.reduceMul, Nat.reduceSub, one, Nat.reduceLeDiff, runX_cons, y6_50, aq, ↓ap, qe0, qe1, qe2, *, -hK]; try (refine hK _ _ ?_; clear hK K))
  | (refine wpX_lastL rfl ?_; intro K hK; simp -implicitDefEqProofs (disch := first | omega | (simp only [qd] <;> omega)) only [xq, ↓xp, qc, Nat.reduceAdd, List.range, List.range.loop, fine, Nat.reduceEqDiff, ↓reduceIte, yielded, reduceCtorEq, Nat.reduceLT, Nat.reduceMul, Nat.reduceSub, one, Nat.reduceLeDiff, runX_cons, y6_50, aq, ↓ap, qe0, qe1, qe2, *, -hK]; try (refine hK _ _ ?_; clear hK K; (try simp only [nq, ↓reduceIte, Nat.reduceEqDiff])))
  | (refine wpX_skip ?_; (try simp only [nq, ↓reduceIte, Nat.reduceEqDiff]))
  | (refine wpX_label ?_; (try simp only [nq, ↓reduceIte, Nat.reduceEqDiff]))
  | (refine wpX_exit ?_; (try simp only [nq, ↓reduceIte, Nat.reduceEqDiff]))
  | (refine wpX_goto ?_; (try simp only [nq, ↓reduceIte, Nat.reduceEqDiff]))
  | (refine wpX_condK (by simp only [act_eval, upd_get, Nat.reduceEqDiff, Nat.reduceLT, ↓reduceIte, *]; rfl) ?_ ?_ <;> (intro hc; first | (exfalso; simp -implicitDefEqProofs (disch := omega) only [*, bq, reduceCtorEq] at hc; done) | (simp only [dq, qe3, qe4, qe5, qe6] at hc) | skip))
  | (refine wpX_scope0 ?_)
  | (refine wpX_block ?_)
  | (refine wpX_seq ?_))
  clear hG
  generalize hG : Hp.set H3 cb _ = H4
  have lH4 := le_of_set hG hcb
  have vcb4 := at_of_set hG
  clear hG
  have vob4 := lH4 _ _ vob3
  have l24 := Hp.le_trans lH3 lH4
  clear lH3 lH4 vob3 hcb
  refine (choices_spec main H4 db).runs.mono ?_
  rintro _ H5 ⟨thisb, rfl, vth5, lH5⟩
  have vcb5 := lH5 _ _ vcb4
  have vob5 := lH5 _ _ vob4
  have l25 := Hp.le_trans l24 lH5
  have vdb5 := l25 _ _ vdb
  have vmb5 := l25 _ _ vmb
  have hd5 := hd2.le l25
  have l05 : H.le H5 := Hp.le_trans lH1 (Hp.le_trans lH2 l25)
  have vdb2 := vdb
  have vmb2 := vmb
  clear lH5 vcb4 vob4 vdb vmb l24
  (try simp -implicitDefEqProofs (disch := first | omega | (simp only [qd] <;> omega)) only [xq, ↓xp, qc, Nat.reduceAdd, List.range, List.range.loop, fine, Nat.reduceEqDiff, ↓reduceIte, yielded, reduceCtorEq, Nat.reduceLT, Nat.reduceMul, Nat.reduceSub, one, Nat.reduceLeDiff, runX_cons, y6_50, aq, ↓ap, qe0, qe1, qe2, *, -hK]); try (refine hK _ _ ?_; clear hK K; (try simp only [nq, ↓reduceIte, Nat.reduceEqDiff])); repeat' (first
  | (refine wpX_stmtL rfl ?_; intro K hK; simp -implicitDefEqProofs (disch := first | omega | (simp only [qd] <;> omega)) only [xq, ↓xp, qc, Nat.reduceAdd, List.range, List.range.loop, fine, Nat.reduceEqDiff, ↓reduceIte, yielded, reduceCtorEq, Nat.reduceLT, Nat.reduceMul, Nat.reduceSub, one, Nat.reduceLeDiff, runX_cons, y6_50, aq, ↓ap, qe0, qe1, qe2, *, -hK]; try (refine hK _ _ ?_; clear hK K))
  | (refine wpX_lastL rfl ?_; intro K hK; simp -implicitDefEqProofs (disch := first | omega | (simp only [qd] <;> omega)) only [xq, ↓xp, qc, Nat.reduceAdd, List.range, List.range.loop, fine, Nat.reduceEqDiff, ↓reduceIte, yielded, reduceCtorEq, Nat.reduceLT, Nat.reduceMul, Nat.reduceSub, one, Nat.reduceLeDiff, runX_cons, y6_50, aq, ↓ap, qe0, qe1, qe2, *, -hK]; try (refine hK _ _ ?_; clear hK K; (try simp only [nq, ↓reduceIte, Nat.reduceEqDiff])))
  | (refine wpX_skip ?_; (try simp only [nq, ↓reduceIte, Nat.reduceEqDiff]))
  | (refine wpX_label ?_; (try simp only [nq, ↓reduceIte, Nat.reduceEqDiff]))
  | (refine wpX_exit ?_; (try simp only [nq, ↓reduceIte, Nat.reduceEqDiff]))
  | (refine wpX_goto ?_; (try simp only [nq, ↓reduceIte, Nat.reduceEqDiff]))
  | (refine wpX_condK (by simp only [act_eval, upd_get, Nat.reduceEqDiff, Nat.reduceLT, ↓reduceIte, *]; rfl) ?_ ?_ <;> (intro hc; first | (exfalso; simp -implicitDefEqProofs (disch := omega) only [*, bq, reduceCtorEq] at hc; done) | (simp only [dq, qe3, qe4, qe5, qe6] at hc) | skip))
  | (refine wpX_scope0 ?_)
  | (refine wpX_block ?_)
  | (refine wpX_seq ?_))
  refine wpX_forget (fun e => e 7 = .pointer (some ⟨db, 0, none⟩) ∧ e 9 = .pointer (some ⟨cb, 0, none⟩) ∧ e 24 = .func (.func 33) #[] #[.pointer (some ⟨thisb, 0, none⟩)]) ⟨rfl, rfl, rfl⟩ ?_
  rintro e ⟨e7, e9, e24⟩
  refine wpX_range1 (g := 33) (fi := #[]) (cap := #[.pointer (some ⟨thisb, 0, none⟩)]) (by rw [act_eval (by omega), e24]) (by omega) (fun _ _ _ _ => callF33 _ _ _) (fun r l lo hr hl hlo1 hlo2 hround => ?_)
  have hlr : r ≠ l := fun e => by rw [← e, set_at] at hl; cases hl
  have hnl : H5 l = none := by
    rw [set_ne (Ne.symm hlr)] at hl; exact hl
  have hC : Client Tryd.prog main (.func (.yield l) #[] #[]) (fun b => b = l ∨ b = r ∨ b = ob ∨ b = cb) (fun H v xs => v = .agg (ints xs).toArray) (fun xs => xs.length = 8) (bestT l r ob cb ts.length lo) := by
    refine ⟨?_, ?_, ?_⟩
    · rintro t L H H' ⟨h1, h2, h3⟩ hk
      refine ⟨hk _ _ (.inr (.inl rfl)) h1, hk _ _ (.inr (.inr (.inr rfl))) h2, ?_⟩
      rcases h3 with ⟨h3, h4, h5, h6⟩ | ⟨h3, xs, h4, h5, h6⟩
      · exact .inl ⟨h3, h4, hk _ _ (.inl rfl) h5, hk _ _ (.inr (.inr (.inl rfl))) h6⟩
      · exact .inr ⟨h3, xs, h4, hk _ _ (.inl rfl) h5, hk _ _ (.inr (.inr (.inl rfl))) h6⟩
    · rintro t L H b ⟨h1, h2, h3⟩ hb
      rcases hb with rfl | rfl | rfl | rfl
      · rcases h3 with ⟨_, _, h, _⟩ | ⟨_, _, _, h, _⟩ <;> rw [h] <;> simp
      · rw [h1]; simp
      · rcases h3 with ⟨_, _, _, h⟩ | ⟨_, _, _, _, h⟩ <;> rw [h] <;> simp
      · rw [h2]; simp
    · rintro L H v' xs ⟨h1, h2, h3⟩ rfl hA
      obtain ⟨rfl, h3, h4⟩ : L = [] ∧ H l = some (true, .loop lo) ∧ H ob = some (true, .cells (ints (List.replicate ts.length 0)).toArray 3 (0, 0)) := by
        rcases h3 with ⟨_, a, b, c⟩ | ⟨h, _⟩
        · exact ⟨a, b, c⟩
        · cases h
      refine hround H _ _ h3 ?_
      have hil : (ints xs).length = 8 := by rw [ints_len]; exact hA
      have hone : (ints xs).all one = true := List.all_eq_true.2 (ints_one _)
      repeat' (first
  | (refine wpX_stmtL rfl ?_; intro K hK; simp -implicitDefEqProofs (disch := first | omega | (simp only [qd] <;> omega)) only [xq, ↓xp, qc, Nat.reduceAdd, List.range, List.range.loop, fine, Nat.reduceEqDiff, ↓reduceIte, yielded, reduceCtorEq, Nat.reduceLT, Nat.reduceMul, Nat.reduceSub, one, Nat.reduceLeDiff, runX_cons, y6_50, aq, ↓ap, qe0, qe1, qe2, *, -hK, Bool.or_true]; try (refine hK _ _ ?_; clear hK K))
  | (refine wpX_lastL rfl ?_; intro K hK; simp -implicitDefEqProofs (disch := first | omega | (simp only [qd] <;> omega)) only [xq, ↓xp, qc, Nat.reduceAdd, List.range, List.range.loop, fine, Nat.reduceEqDiff, ↓reduceIte, yielded, reduceCtorEq, Nat.reduceLT, Nat.reduceMul, Nat.reduceSub, one, Nat.reduceLeDiff, runX_cons, y6_50, aq, ↓ap, qe0, qe1, qe2, *, -hK, Bool.or_true]; try (refine hK _ _ ?_; clear hK K; (try simp only [nq, ↓reduceIte, Nat.reduceEqDiff])))
  | (refine wpX_skip ?_; (try simp only [nq, ↓reduceIte, Nat.reduceEqDiff]))
  | (refine wpX_label ?_; (try simp only [nq, ↓reduceIte, Nat.reduceEqDiff]))
  | (refine wpX_exit ?_; (try simp only [nq, ↓reduceIte, Nat.reduceEqDiff]))
  | (refine wpX_goto ?_; (try simp only [nq, ↓reduceIte, Nat.reduceEqDiff]))
  | (refine wpX_condK (by simp only [act_eval, upd_get, Nat.reduceEqDiff, Nat.reduceLT, ↓reduceIte, *]; rfl) ?_ ?_ <;> (intro hc; first | (exfalso; simp -implicitDefEqProofs (disch := omega) only [*, bq, reduceCtorEq] at hc; done) | (simp only [dq, qe3, qe4, qe5, qe6] at hc) | skip))
  | (refine wpX_scope0 ?_)
  | (refine wpX_block ?_)
  | (refine wpX_seq ?_))
      intro tb htb
      have hne : ints xs ≠ [] := fun h => by rw [h] at hil; cases hil
      have vt0 : (H.set tb (.cells #[.int .i64 0, .int .i64 0, .int .i64 0, .int .i64 0, .int .i64 0, .int .i64 0, .int .i64 0, .int .i64 0] 58 (0, 0))) tb = _ := set_at
      have hov : over #[Value.int .i64 0, .int .i64 0, .int .i64 0, .int .i64 0, .int .i64 0, .int .i64 0, .int .i64 0, .int .i64 0] 0 (ints xs) = (ints xs).toArray := over_all (l := [Value.int .i64 0, .int .i64 0, .int .i64 0, .int .i64 0, .int .i64 0, .int .i64 0, .int .i64 0, .int .i64 0]) (by rw [hil]; rfl)
      (try simp -implicitDefEqProofs (disch := first | omega | (simp only [qd] <;> omega)) only [xq, ↓xp, qc, Nat.reduceAdd, List.range, List.range.loop, fine, Nat.reduceEqDiff, ↓reduceIte, yielded, reduceCtorEq, Nat.reduceLT, Nat.reduceMul, Nat.reduceSub, one, Nat.reduceLeDiff, runX_cons, y6_50, aq, ↓ap, qe0, qe1, qe2, *, -hK, Bool.or_true, storL_at hne vt0]); try (refine hK _ _ ?_; clear hK K; (try simp only [nq, ↓reduceIte, Nat.reduceEqDiff])); repeat' (first
  | (refine wpX_stmtL rfl ?_; intro K hK; simp -implicitDefEqProofs (disch := first | omega | (simp only [qd] <;> omega)) only [xq, ↓xp, qc, Nat.reduceAdd, List.range, List.range.loop, fine, Nat.reduceEqDiff, ↓reduceIte, yielded, reduceCtorEq, Nat.reduceLT, Nat.reduceMul, Nat.reduceSub, one, Nat.reduceLeDiff, runX_cons, y6_50, aq, ↓ap, qe0, qe1, qe2, *, -hK, Bool.or_true, storL_at hne vt0]; try (refine hK _ _ ?_; clear hK K))
  | (refine wpX_lastL rfl ?_; intro K hK; simp -implicitDefEqProofs (disch := first | omega | (simp only [qd] <;> omega)) only [xq, ↓xp, qc, Nat.reduceAdd, List.range, List.range.loop, fine, Nat.reduceEqDiff, ↓reduceIte, yielded, reduceCtorEq, Nat.reduceLT, Nat.reduceMul, Nat.reduceSub, one, Nat.reduceLeDiff, runX_cons, y6_50, aq, ↓ap, qe0, qe1, qe2, *, -hK, Bool.or_true, storL_at hne vt0]; try (refine hK _ _ ?_; clear hK K; (try simp only [nq, ↓reduceIte, Nat.reduceEqDiff])))
  | (refine wpX_skip ?_; (try simp only [nq, ↓reduceIte, Nat.reduceEqDiff]))
  | (refine wpX_label ?_; (try simp only [nq, ↓reduceIte, Nat.reduceEqDiff]))
  | (refine wpX_exit ?_; (try simp only [nq, ↓reduceIte, Nat.reduceEqDiff]))
  | (refine wpX_goto ?_; (try simp only [nq, ↓reduceIte, Nat.reduceEqDiff]))
  | (refine wpX_condK (by simp only [act_eval, upd_get, Nat.reduceEqDiff, Nat.reduceLT, ↓reduceIte, *]; rfl) ?_ ?_ <;> (intro hc; first | (exfalso; simp -implicitDefEqProofs (disch := omega) only [*, bq, reduceCtorEq] at hc; done) | (simp only [dq, qe3, qe4, qe5, qe6] at hc) | skip))
  | (refine wpX_scope0 ?_)
  | (refine wpX_block ?_)
  | (refine wpX_seq ?_))
      clear hov vt0
      generalize hG : Hp.set H tb _ = Ha
      have lHa := le_of_set hG htb
      have vta := at_of_set hG
      have hfra : ∀ b x, b ≠ tb → Ha b = some x → H b = some x := fun b x hb hx => by rw [← hG, set_ne hb] at hx; exact hx
      clear hG
      have h1a := lHa _ _ h1
      have h2a := lHa _ _ h2
      have h3a := lHa _ _ h3
      have h4a := lHa _ _ h4
      refine ⟨h3a, ?_⟩
      have ncl : cb ≠ l := fun e => by rw [e, h3a] at h2a; cases h2a
      have nol : ob ≠ l := fun e => by rw [e, h3a] at h4a; cases h4a
      have ntl : tb ≠ l := fun e => by rw [e, h3a] at vta; cases vta
      have nto : tb ≠ ob := fun e => by rw [e, h4a] at vta; simp at vta
      have nco : cb ≠ ob := fun e => by rw [e, h4a] at h2a; simp at h2a
      have nro : r ≠ ob := fun e => by rw [e, h4a] at h1a; simp at h1a
      generalize hB : Hp.set Ha l (.loop { lo with state := .busy }) = Hb
      have vlb : Hb l = some (true, .loop { lo with state := .busy }) := by rw [← hB, set_at]
      have hbx : ∀ b x, b ≠ l → Ha b = some x → Hb b = some x := fun b x hn hx => by rw [← hB, set_ne hn]; exact hx
      have hb2 := hbx _ _ ncl h2a
      have hb4 := hbx _ _ nol h4a
      have hbt := hbx _ _ ntl vta
      have hb1 := hbx _ _ hlr h1a
      have hbf : ∀ b x, b ≠ l → H b = some x → Hb b = some x := fun b x hn hx => by rw [← hB, set_ne hn]; exact lHa _ _ hx
      clear hbx hB h1 h2 h3 h4 h1a h2a h3a h4a vta lHa hfra
      repeat' (first
  | (refine wpX_stmtL rfl ?_; intro K hK; simp -implicitDefEqProofs (disch := first | omega | (simp only [qd] <;> omega)) only [xq, ↓xp, qc, Nat.reduceAdd, List.range, List.range.loop, fine, Nat.reduceEqDiff, ↓reduceIte, yielded, reduceCtorEq, Nat.reduceLT, Nat.reduceMul, Nat.reduceSub, one, Nat.reduceLeDiff, runX_cons, y6_50, aq, ↓ap, qe0, qe1, qe2, *, -hK, Bool.or_true]; try (refine hK _ _ ?_; clear hK K))
  | (refine wpX_lastL rfl ?_; intro K hK; simp -implicitDefEqProofs (disch := first | omega | (simp only [qd] <;> omega)) only [xq, ↓xp, qc, Nat.reduceAdd, List.range, List.range.loop, fine, Nat.reduceEqDiff, ↓reduceIte, yielded, reduceCtorEq, Nat.reduceLT, Nat.reduceMul, Nat.reduceSub, one, Nat.reduceLeDiff, runX_cons, y6_50, aq, ↓ap, qe0, qe1, qe2, *, -hK, Bool.or_true]; try (refine hK _ _ ?_; clear hK K; (try simp only [nq, ↓reduceIte, Nat.reduceEqDiff])))
  | (refine wpX_skip ?_; (try simp only [nq, ↓reduceIte, Nat.reduceEqDiff]))
  | (refine wpX_label ?_; (try simp only [nq, ↓reduceIte, Nat.reduceEqDiff]))
  | (refine wpX_exit ?_; (try simp only [nq, ↓reduceIte, Nat.reduceEqDiff]))
  | (refine wpX_goto ?_; (try simp only [nq, ↓reduceIte, Nat.reduceEqDiff]))
  | (refine wpX_condK (by simp only [act_eval, upd_get, Nat.reduceEqDiff, Nat.reduceLT, ↓reduceIte, *]; rfl) ?_ ?_ <;> (intro hc; first | (exfalso; simp -implicitDefEqProofs (disch := omega) only [*, bq, reduceCtorEq] at hc; done) | (simp only [dq, qe3, qe4, qe5, qe6] at hc) | skip)))
      refine wpX_block (wpX_seq ?_)
      (refine wpX_dst1 2 [(true, 0), (true, 1), (false, 2)] (by kernel_rfl) (by kernel_rfl) (by simp) (by kernel_rfl) ?_; intro K hK; (iterate 2 (apply plan_take rfl rfl rfl; (focus (simp -implicitDefEqProofs (disch := first | omega | (simp only [qd] <;> omega)) only [xq, ↓xp, qc, Nat.reduceAdd, List.range, List.range.loop, fine, Nat.reduceEqDiff, ↓reduceIte, yielded, reduceCtorEq, Nat.reduceLT, Nat.reduceMul, Nat.reduceSub, one, Nat.reduceLeDiff, runX_cons, y6_50, aq, ↓ap, qe0, qe1, qe2, *, -hK, YN_value, Bool.or_true] <;> (first | exact rfl | exact ⟨rfl, rfl⟩ | exact ⟨rfl, trivial⟩))); simp -implicitDefEqProofs (disch := first | omega | (simp only [qd] <;> omega)) only [act_put, act_put_none])); refine plan_tail ?_; simp -implicitDefEqProofs (disch := first | omega | (simp only [qd] <;> omega)) only [xq, ↓xp, qc, Nat.reduceAdd, List.range, List.range.loop, fine, Nat.reduceEqDiff, ↓reduceIte, yielded, reduceCtorEq, Nat.reduceLT, Nat.reduceMul, Nat.reduceSub, one, Nat.reduceLeDiff, runX_cons, y6_50, aq, ↓ap, qe0, qe1, qe2, *, -hK, Bool.or_true]; try (refine hK _ _ ?_; clear hK K; (try simp only [nq, ↓reduceIte, Nat.reduceEqDiff])))
      have hmin : min 8 ts.length = ts.length := by omega
      have hrl : (ints (List.replicate ts.length 0)).length = ts.length := by rw [ints_len, List.length_replicate]
      have htk : ((ints xs).drop 0).take (min 8 ts.length) = ints (xs.take ts.length) := by
        rw [List.drop_zero, hmin]; simp [ints, List.map_take]
      refine copy_slices Tryd.underlying22 Tryd.sizeOf3 _ _ ob 0 ts.length ts.length tb 0 8 8 hb4 hbt (by omega) (by omega) (fun v hv => List.all_eq_true.1 hone v (List.mem_of_mem_drop (List.mem_of_mem_take hv))) _ _ ?_
      rw [htk, over_all (by rw [ints_len, List.length_take, hrl]; omega)]
      generalize hC : Hp.set Hb ob _ = Hc
      have hcx : ∀ b x, b ≠ ob → Hb b = some x → Hc b = some x := fun b x hn hx => by rw [← hC, set_ne hn]; exact hx
      have vob : Hc ob = some (true, .cells (ints (xs.take ts.length)).toArray 3 (0, 0)) := by rw [← hC, set_at]
      clear hC
      simp -implicitDefEqProofs (disch := first | omega | (simp only [qd] <;> omega)) only [xq, ↓xp, qc, Nat.reduceAdd, List.range, List.range.loop, fine, Nat.reduceEqDiff, ↓reduceIte, yielded, reduceCtorEq, Nat.reduceLT, Nat.reduceMul, Nat.reduceSub, one, Nat.reduceLeDiff, runX_cons, y6_50, aq, ↓ap, qe0, qe1, qe2, *, -hK, Bool.or_true]
      refine hK _ _ ?_
      clear hK K
      (try simp only [nq, ↓reduceIte, Nat.reduceEqDiff])
      repeat' (first
  | (refine wpX_stmtL rfl ?_; intro K hK; simp -implicitDefEqProofs (disch := first | omega | (simp only [qd] <;> omega)) only [xq, ↓xp, qc, Nat.reduceAdd, List.range, List.range.loop, fine, Nat.reduceEqDiff, ↓reduceIte, yielded, reduceCtorEq, Nat.reduceLT, Nat.reduceMul, Nat.reduceSub, one, Nat.reduceLeDiff, runX_cons, y6_50, aq, ↓ap, qe0, qe1, qe2, *, -hK, Bool.or_true]; try (refine hK _ _ ?_; clear hK K))
  | (refine wpX_lastL rfl ?_; intro K hK; simp -implicitDefEqProofs (disch := first | omega | (simp only [qd] <;> omega)) only [xq, ↓xp, qc, Nat.reduceAdd, List.range, List.range.loop, fine, Nat.reduceEqDiff, ↓reduceIte, yielded, reduceCtorEq, Nat.reduceLT, Nat.reduceMul, Nat.reduceSub, one, Nat.reduceLeDiff, runX_cons, y6_50, aq, ↓ap, qe0, qe1, qe2, *, -hK, Bool.or_true]; try (refine hK _ _ ?_; clear hK K; (try simp only [nq, ↓reduceIte, Nat.reduceEqDiff])))
  | (refine wpX_skip ?_; (try simp only [nq, ↓reduceIte, Nat.reduceEqDiff]))
  | (refine wpX_label ?_; (try simp only [nq, ↓reduceIte, Nat.reduceEqDiff]))
  | (refine wpX_exit ?_; (try simp only [nq, ↓reduceIte, Nat.reduceEqDiff]))
  | (refine wpX_goto ?_; (try simp only [nq, ↓reduceIte, Nat.reduceEqDiff]))
  | (refine wpX_condK (by simp only [act_eval, upd_get, Nat.reduceEqDiff, Nat.reduceLT, ↓reduceIte, *]; rfl) ?_ ?_ <;> (intro hc; first | (exfalso; simp -implicitDefEqProofs (disch := omega) only [*, bq, reduceCtorEq] at hc; done) | (simp only [dq, qe3, qe4, qe5, qe6] at hc) | skip))
  | (refine wpX_scope0 ?_)
  | (refine wpX_block ?_)
  | (refine wpX_seq ?_))
      refine ⟨rfl, _, hcx _ _ (Ne.symm nol) vlb, false, rfl, ⟨?_, ?_, .inr ⟨rfl, xs, rfl, set_at, ?_⟩⟩, ?_⟩
      · rw [set_ne hlr]; exact hcx _ _ nro hb1
      · rw [set_ne ncl]; exact hcx _ _ nco hb2
      · rw [set_ne nol]; exact vob
      · intro b x hn hx
        have n1 : b ≠ l := fun h => hn (.inl h)
        have n2 : b ≠ ob := fun h => hn (.inr (.inr (.inl h)))
        rw [set_ne n1]
        exact hcx _ _ n2 (hbf _ _ n1 hx)
  generalize hG : Hp.set (Hp.set H5 r (.deferred (some []))) l (.loop lo) = H6
  have l56 : H5.le H6 := fun b x hx => by rw [← hG]; exact Hp.le_set hl _ _ (Hp.le_set hr _ _ hx)
  have vl6 : H6 l = some (true, .loop lo) := by rw [← hG, set_at]
  have vr6 : H6 r = some (true, .deferred (some [])) := by rw [← hG, set_ne hlr, set_at]
  clear hG
  have nS : ∀ b x, H2 b = some x → ¬ (b = l ∨ b = r ∨ b = ob ∨ b = cb) := fun b x hx h => by
    have h5 := l25 _ _ hx
    rcases h with rfl | rfl | rfl | rfl
    · rw [hnl] at h5; cases h5
    · rw [hr] at h5; cases h5
    · rw [hob] at hx; cases hx
    · rw [hcb2] at hx; cases hx
  have hTb : bestT l r ob cb ts.length lo true [] H6 := ⟨vr6, l56 _ _ vcb5, .inl ⟨rfl, rfl, vl6, by
    have : (ints (List.replicate ts.length 0)).toArray = Array.replicate ts.length (Value.int .i64 0) := by simp [ints]
    rw [this]; exact l56 _ _ vob5⟩⟩
  have hst6 : ∀ x ∈ start, 0 ≤ x ∧ x < 6 := fun x hx => by
    have := hd.ok.2.2.2.2.2.2.1 x hx; have := hd.ok.2.2.2.1; omega
  have hts6 : ∀ t ∈ ts, 0 ≤ t ∧ t < 6 := hd.true.bnd hd.ok
  have hsl : start.length ≤ 1000 := by have := hd.ok.2.2.2.2.1; have := hd.ok.2.1; omega
  have hp1 : 1 ≤ places := hd.ok.1
  have nth : ¬ (thisb = l ∨ thisb = r ∨ thisb = ob ∨ thisb = cb) := fun h => by
    rcases h with e | e | e | e
    · rw [e, hnl] at vth5; cases vth5
    · rw [e, hr] at vth5; cases vth5
    · rw [e, vob5] at vth5; simp at vth5
    · rw [e, vcb5] at vth5; simp at vth5
  have ntv : ts ≠ [] → ∀ b, rowB (.slice ta ts.length tc) = some b → ¬ (b = l ∨ b = r ∨ b = ob ∨ b = cb) := fun hne b hb => by
    obtain ⟨b', o', p', c', fr', he, hb', _⟩ := SlI.get hd2.truth (List.getElem?_eq_getElem (List.length_pos_iff.2 hne))
    subst he
    cases hb
    exact nS _ _ hb'
  have hrun := pick1_spec main (A := fun xs => xs.length = 8) hdm hl8 hts6 hp1 hC (fun xs H' h => by
    obtain ⟨_, _, h | h⟩ := h
    · exact absurd h.2.1 (by simp)
    · exact absurd h.1 (by simp)) H6 hTb (l56 _ _ vth5) (l56 _ _ vdb5) ((hd5.le l56).truth) ((hd5.le l56).st) hst6 hsl (begin_known _ _ _ _ _ (l56 _ _ vmb5)) nth (nS _ _ vdb2) (nS _ _ vmb2) ntv (by simp [optF_path_len]; omega)
  refine hrun.runs.mono ?_
  have hd6 := hd5.le l56
  have vdb6 := l56 _ _ vdb5
  have l06 := Hp.le_trans l05 l56
  have hH2 : ∀ b x, H2 b = some x → H6 b = some x := fun b x hx => l56 _ _ (l25 _ _ hx)
  clear hrun hC hround hTb
  rintro _ H7 ⟨rfl, ⟨vr7, vcb7, h7⟩, hk7, hfr7⟩
  obtain ⟨vl7, vob7⟩ : H7 l = some (true, .loop { lo with state := .done, pending := some (.exit 0) }) ∧ H7 ob = some (true, .cells (ints ((pathF ts.length places ts (oOf start) ++ List.replicate (8 - ts.length) 0).take ts.length)).toArray 3 (0, 0)) := by
    rcases h7 with ⟨h, _⟩ | ⟨_, xs, hx, h1, h2⟩
    · cases h
    · cases hx; exact ⟨h1, h2⟩
  have htk : (pathF ts.length places ts (oOf start) ++ List.replicate (8 - ts.length) 0).take ts.length = pathF ts.length places ts (oOf start) := by
    rw [List.take_append_of_le_length (by rw [optF_path_len]; omega), List.take_of_length_le (by rw [optF_path_len]; omega)]
  rw [htk] at vob7
  clear h7
  have ncl : cb ≠ l := fun e => by rw [e, vl7] at vcb7; cases vcb7
  have nol : ob ≠ l := fun e => by rw [e, vl7] at vob7; cases vob7
  have nHm : ∀ b x, H b = some x → b ≠ mb := fun b x hx e => by have := lH1 _ _ hx; rw [e, hmb] at this; cases this
  have hfrm : ∀ b x, H b = some x → H7 b = some x := fun b x hx => hfr7 _ _ (nS _ _ (lH2 _ _ (lH1 _ _ hx))) (nHm b x hx) (hH2 _ _ (lH2 _ _ (lH1 _ _ hx)))
  have hnlH : ∀ b x, H b = some x → b ≠ l := fun b x hx e => nS _ _ (lH2 _ _ (lH1 _ _ hx)) (.inl e)
  have vdb7 := hfr7 _ _ (nS _ _ vdb2) hdm vdb6
  have nml : mb ≠ l := fun e => by obtain ⟨es, cl, h1, _⟩ := hk7; rw [e, vl7] at h1; cases h1
  have ndl : db ≠ l := fun e => by rw [e, vl7] at vdb7; cases vdb7
  refine behind_exit vl7 (by simp) rfl ?_
  generalize hG : Hp.set H7 l _ = H8
  have h78 : ∀ b x, b ≠ l → H7 b = some x → H8 b = some x := fun b x hn hx => by rw [← hG, set_ne hn]; exact hx
  clear hG
  have vcb8 := h78 _ _ ncl vcb7
  have vob8 := h78 _ _ nol vob7
  have vr8 := h78 _ _ hlr vr7
  have vdb8 := h78 _ _ ndl vdb7
  have l08 : H.le H8 := fun b x hx => h78 _ _ (hnlH b x hx) (hfrm b x hx)
  have hk8 : KnownI H8 mb ts.length places ts := by obtain ⟨es, cl, h1, h2⟩ := hk7; exact ⟨es, cl, h78 _ _ nml h1, h2⟩
  have hst8 := hd.st.le l08
  have hts8 := hd.truth.le l08
  have nom : ob ≠ mb := fun e => nS _ _ vmb2 (.inr (.inr (.inl e.symm)))
  have ncm : cb ≠ mb := fun e => nS _ _ vmb2 (.inr (.inr (.inr e.symm)))
  have nrm : r ≠ mb := fun e => nS _ _ vmb2 (.inr (.inl e.symm))
  have nHr : ∀ b x, H b = some x → b ≠ r := fun b x hx e => nS _ _ (lH2 _ _ (lH1 _ _ hx)) (.inr (.inl e))
  have hfirst := fun H' (hd : H' db = some (true, dayO places pieces (.slice sa sn sc) (.slice ca cn cc) (.slice ta ts.length tc) mb)) (hs : SlI H' (.slice sa sn sc) start) => first_spec main H' db places pieces _ _ _ start mb hd hs hst6 (by omega)
  clear h78 vcb7 vob7 vr7 vdb7 vl7 hk7 hfr7 hfrm hH2 vdb6 hd6 l06 vdb2 vmb2 vdb5 vmb5 hd5 l05 vcb5 vob5 vth5 l25 vl6 vr6 l56 nS ntv nth e24 hd1 hd2 vvb hob hcb2 hr hl hnl lH1 lH2 hvb hdb hmb
  (try simp only [nq, ↓reduceIte, Nat.reduceEqDiff])
  refine wpX_seq ?_
  refine wpX_dlast (fun HX => HX cb = some (true, .cells #[.slice (some ⟨ob, 0, none⟩) ts.length ts.length] 22 (0, 0)) ∧ HX db = some (true, dayO places pieces (.slice sa sn sc) (.slice ca cn cc) (.slice ta ts.length tc) mb) ∧ SlI HX (.slice sa sn sc) start) 8 [(true, 0), (true, 1), (true, 2), (true, 3), (false, 4), (true, 5), (true, 6), (true, 7)] (by kernel_rfl) (by kernel_rfl) (by simp) (by kernel_rfl) ?_; intro K hK
  (iterate 3 (apply plan_takeS rfl rfl rfl (by exact ⟨vcb8, vdb8, hst8⟩); (focus (intro HX hHX; have hX1 := hHX.1; have hX2 := hHX.2; clear hHX; simp -implicitDefEqProofs (disch := first | omega | (simp only [qd] <;> omega)) only [xq, ↓xp, qc, Nat.reduceAdd, List.range, List.range.loop, fine, Nat.reduceEqDiff, ↓reduceIte, yielded, reduceCtorEq, Nat.reduceLT, Nat.reduceMul, Nat.reduceSub, one, Nat.reduceLeDiff, runX_cons, y6_50, aq, ↓ap, qe0, qe1, qe2, *, -hK, YN_value] <;> (first | exact rfl | exact ⟨rfl, rfl⟩ | exact ⟨rfl, trivial⟩))); simp -implicitDefEqProofs (disch := first | omega | (simp only [qd] <;> omega)) only [act_put, act_put_none]))
  (apply plan_takeS rfl rfl rfl ⟨vcb8, vdb8, hst8⟩; (focus (intro HX hHX; simp -implicitDefEqProofs (disch := first | omega | (simp only [qd] <;> omega)) only [xq, ↓xp, qc, Nat.reduceAdd, List.range, List.range.loop, fine, Nat.reduceEqDiff, ↓reduceIte, yielded, reduceCtorEq, Nat.reduceLT, Nat.reduceMul, Nat.reduceSub, one, Nat.reduceLeDiff, runX_cons, y6_50, aq, ↓ap, qe0, qe1, qe2, *, -hK, YN_enter]; exact quiet_le (hfirst HX hHX.2.1 hHX.2.2))); simp -implicitDefEqProofs (disch := omega) only [act_put, act_put_none])
  refine planX_act ?_
  have hl2 := least_spec main db places pieces _ _ _ ts mb hdm (by omega) hts6 ts.length 0 (oOf start) H8 rfl (by omega) (oOf_lt start 0 (by omega) hst6) vdb8 hts8 hk8
  simp only [spotV] at hl2
  simp -implicitDefEqProofs (disch := first | omega | (simp only [qd] <;> omega)) only [xq, ↓xp, qc, Nat.reduceAdd, List.range, List.range.loop, fine, Nat.reduceEqDiff, ↓reduceIte, yielded, reduceCtorEq, Nat.reduceLT, Nat.reduceMul, Nat.reduceSub, one, Nat.reduceLeDiff, runX_cons, y6_50, aq, ↓ap, qe0, qe1, qe2, *, -hK]
  refine hl2.runs.mono ?_
  rintro _ H9 ⟨rfl, hL9, hk9⟩
  rw [List.drop_zero]
  have vcb9 := hL9.keeps vcb8 ncm
  have vdb9 := hL9.keeps vdb8 hdm
  have vr9 := hL9.keeps vr8 nrm
  have vob9 := hL9.keeps vob8 nom
  have hst9 : SlI H9 (.slice sa sn sc) start := hst8.lexMap hL9 (show H8 mb = some (true, _) from (Classical.choose_spec (Classical.choose_spec hk8)).1)
  have l09 : H.le H9 := fun b x hx => hL9.keeps (l08 _ _ hx) (nHm b x hx)
  clear hl2 vcb8 vdb8 vr8 vob8 hst8 hts8 hk8 hL9 hk9 l08 hfirst
  simp -implicitDefEqProofs (disch := first | omega | (simp only [qd] <;> omega)) only [xq, ↓xp, qc, Nat.reduceAdd, List.range, List.range.loop, fine, Nat.reduceEqDiff, ↓reduceIte, yielded, reduceCtorEq, Nat.reduceLT, Nat.reduceMul, Nat.reduceSub, one, Nat.reduceLeDiff, runX_cons, y6_50, aq, ↓ap, qe0, qe1, qe2, *, -hK]
  refine ⟨.inr trivial, ?_⟩
  (iterate 3 (apply plan_takeS rfl rfl rfl (by exact ⟨vcb9, vdb9, hst9⟩); (focus (intro HX hHX; have hX1 := hHX.1; have hX2 := hHX.2; clear hHX; simp -implicitDefEqProofs (disch := first | omega | (simp only [qd] <;> omega)) only [xq, ↓xp, qc, Nat.reduceAdd, List.range, List.range.loop, fine, Nat.reduceEqDiff, ↓reduceIte, yielded, reduceCtorEq, Nat.reduceLT, Nat.reduceMul, Nat.reduceSub, one, Nat.reduceLeDiff, runX_cons, y6_50, aq, ↓ap, qe0, qe1, qe2, *, -hK, YN_value] <;> (first | exact rfl | exact ⟨rfl, rfl⟩ | exact ⟨rfl, trivial⟩))); simp -implicitDefEqProofs (disch := first | omega | (simp only [qd] <;> omega)) only [act_put, act_put_none]))
  refine plan_nil (hK _ _ ?_)
  clear hK K
  (try simp only [nq, ↓reduceIte, Nat.reduceEqDiff])
  refine wpX_ret ?_
  refine bodyX_coll vr9 ?_
  rw [results_three Tryd.results6 (by decide) (by decide) (by decide)]
  simp only [upd_get, Nat.reduceEqDiff, ↓reduceIte]
  have nor : ob ≠ r := fun e => by rw [e, vr9] at vob9; cases vob9
  have hv : SlI (H9.set r (.deferred none)) (.slice (some ⟨ob, 0, none⟩) ts.length ts.length) (pathF ts.length places ts (oOf start)) := by
    refine ⟨some ⟨ob, 0, none⟩, ts.length, ?_, ?_, fun i x hi => ⟨ob, 0, true, (ints (pathF ts.length places ts (oOf start))).toArray, (0, 0), rfl, ?_, ?_⟩⟩
    · rw [optF_path_len]
    · rw [optF_path_len]; exact Nat.le_refl _
    · rw [set_ne nor]; exact vob9
    · rw [Nat.zero_add]; simpa using ints_get hi
  exact ⟨_, rfl, hv, fun b x hx => by rw [set_ne (nHr b x hx)]; exact l09 _ _ hx⟩
end Go.Proofs.YtiempdpjcddgfaaDoor
end
section
/- What is computed answers as is said: no rule fetches less than the best choices, the rule that knows what comes fetches just as much, and with a barrow for each job nothing is late. -/
set_option linter.unusedSimpArgs false
set_option maxRecDepth 100000
set_option maxHeartbeats 1000000
set_option linter.unusedVariables false
namespace Go.Proofs.YtiempdpjcddgfaaDoor
open Go Go.X

/-! ### offices as sets -/
theorem oWith_bit (m n x : Nat) : (oWith m n).testBit x = (m.testBit x || decide (x = n)) := by
  unfold oWith
  rw [Nat.testBit_or, Nat.testBit_two_pow]
  congr 1
  exact decide_eq_decide.2 eq_comm
theorem mask_bit : ∀ n : Fin 6, ∀ x : Fin 6, (63 - 2 ^ n.val).testBit x.val = !decide (x.val = n.val) := by decide
theorem oWithout_bit (m n x : Nat) (hn : n < 6) (hx : x < 6) : (oWithout m n).testBit x = (m.testBit x && !decide (x = n)) := by
  unfold oWithout
  rw [Nat.testBit_and, mask_bit ⟨n, hn⟩ ⟨x, hx⟩]
theorem oNext_bit (m : Nat) (s t : Int) (hs : -1 ≤ s) (hs6 : s < 6) (h0 : 0 ≤ t) (x : Nat) (hx : x < 6) : (oNext m s t).testBit x = (decide ((x : Int) = t) || (m.testBit x && !decide ((x : Int) = s))) := by
  unfold oNext
  rw [oWith_bit]
  have ht : decide (x = t.toNat) = decide ((x : Int) = t) := decide_eq_decide.2 (by omega)
  rw [ht]
  split
  · rw [oWithout_bit m _ x (by omega) hx]
    have : decide (x = s.toNat) = decide ((x : Int) = s) := decide_eq_decide.2 (by omega)
    rw [this, Bool.or_comm]
  · have : decide ((x : Int) = s) = false := decide_eq_false (by omega)
    rw [this, Bool.not_false, Bool.and_true, Bool.or_comm]

/-- What is in an office, as a set of numbers. -/
def inO (m : Nat) (x : Int) : Prop := 0 ≤ x ∧ x < 6 ∧ m.testBit x.toNat = true
theorem inO_next {m : Nat} {s t x : Int} (hs : -1 ≤ s) (hs6 : s < 6) (h0 : 0 ≤ t) (h6 : t < 6) : inO (oNext m s t) x ↔ x = t ∨ (inO m x ∧ x ≠ s) := by
  unfold inO
  by_cases hx : 0 ≤ x ∧ x < 6
  · rw [oNext_bit m s t hs hs6 h0 x.toNat (by omega), Bool.or_eq_true, Bool.and_eq_true, Bool.not_eq_true', decide_eq_true_eq, decide_eq_false_iff_not]
    have hxe : (x.toNat : Int) = x := by omega
    rw [hxe]
    constructor
    · rintro ⟨_, _, h | h⟩
      · exact .inl h
      · exact .inr ⟨⟨hx.1, hx.2, h.1⟩, h.2⟩
    · rintro (h | h)
      · exact ⟨hx.1, hx.2, .inl h⟩
      · exact ⟨hx.1, hx.2, .inr ⟨h.1.2.2, h.2⟩⟩
  · constructor
    · rintro ⟨h1, h2, _⟩; exact absurd ⟨h1, h2⟩ hx
    · rintro (h | h)
      · exact absurd ⟨by omega, by omega⟩ hx
      · exact absurd ⟨h.1.1, h.1.2.1⟩ hx
theorem inO_list {m : Nat} {x : Int} : x ∈ oList m ↔ inO m x := by
  refine ⟨fun h => oList_mem h, fun ⟨h0, h6, hb⟩ => ?_⟩
  simp only [oList, oListN, List.mem_map, List.mem_filter, List.mem_range]
  exact ⟨x.toNat, ⟨by omega, by simpa using hb⟩, by omega⟩
theorem inO_bit {m : Nat} {x : Int} (h0 : 0 ≤ x) (h6 : x < 6) : m.testBit x.toNat = true ↔ inO m x := ⟨fun h => ⟨h0, h6, h⟩, fun h => h.2.2⟩
theorem oCount_mono {m n : Nat} (h : ∀ x, inO m x → inO n x) : oCount m ≤ oCount n := by
  unfold oCount
  refine List.countP_mono_left fun x hx hb => ?_
  rw [List.mem_range] at hx
  have := (h (x : Int) ⟨by omega, by omega, by simpa using hb⟩).2.2
  simpa using this
theorem countP_lt {α : Type} {p q : α → Bool} : ∀ {l : List α}, (∀ x ∈ l, p x = true → q x = true) → ∀ y ∈ l, q y = true → p y = false → l.countP p < l.countP q
  | [], _, y, hy, _, _ => by cases hy
  | a :: l, h, y, hy, hq, hp => by
    have hm := List.countP_mono_left (l := l) (p := p) (q := q) fun x hx => h x (List.mem_cons_of_mem _ hx)
    simp only [List.countP_cons]
    rcases List.mem_cons.1 hy with rfl | hy
    · rw [hq, hp]; simp; omega
    · have := countP_lt (l := l) (fun x hx => h x (List.mem_cons_of_mem _ hx)) y hy hq hp
      have ha := h a List.mem_cons_self
      cases hpa : p a
      · simp; omega
      · rw [ha hpa]; simp; omega
theorem oCount_lt {m n : Nat} (h : ∀ x, inO m x → inO n x) {y : Int} (hy : inO n y) (hn : ¬ inO m y) : oCount m < oCount n := by
  unfold oCount
  refine countP_lt (fun x hx hb => ?_) y.toNat (List.mem_range.2 (by have := hy.1; have := hy.2.1; omega)) hy.2.2 ?_
  · rw [List.mem_range] at hx
    have := (h (x : Int) ⟨by omega, by omega, by simpa using hb⟩).2.2
    simpa using this
  · cases hb : m.testBit y.toNat
    · rfl
    · exact absurd ⟨hy.1, hy.2.1, hb⟩ hn

/-! ### the fewest: sets that hold more are no worse -/
theorem optF_ext (L : Nat) (pl : Int) : ∀ (ts : List Int) (a b : Nat), (∀ t ∈ ts, 0 ≤ t ∧ t < 6) → (∀ x, inO a x ↔ inO b x) → optF L pl ts a = optF L pl ts b
  | [], _, _, _, _ => rfl
  | t :: ts, a, b, ht, h => by
    have h6 := ht t List.mem_cons_self
    have ih := fun s (hs : -1 ≤ s ∧ s < 6) => optF_ext L pl ts (oNext a s t) (oNext b s t) (fun x hx => ht x (List.mem_cons_of_mem _ hx)) fun x => by
      rw [inO_next hs.1 hs.2 h6.1 h6.2, inO_next hs.1 hs.2 h6.1 h6.2, h x]
    have hb : a.testBit t.toNat = b.testBit t.toNat := by
      have := h t
      rw [← inO_bit h6.1 h6.2, ← inO_bit h6.1 h6.2] at this
      exact Bool.eq_iff_iff.2 this
    have hc : oCount a = oCount b := Nat.le_antisymm (oCount_mono fun x hx => (h x).1 hx) (oCount_mono fun x hx => (h x).2 hx)
    have hl : oList a = oList b := by
      unfold oList oListN
      congr 1
      refine List.filter_congr fun x hx => ?_
      rw [List.mem_range] at hx
      have := h (x : Int)
      rw [← inO_bit (by omega) (by omega), ← inO_bit (by omega) (by omega)] at this
      exact Bool.eq_iff_iff.2 (by simpa using this)
    rw [optF, optF, hb, hc, hl, ih (-1) (by omega)]
    split
    · rfl
    · split
      · have key : ∀ (l : List Int) (acc : Nat), (∀ x ∈ l, -1 ≤ x ∧ x < 6) → l.foldl (fun acc p => min acc (1 + optF L pl ts (oNext a p t))) acc = l.foldl (fun acc p => min acc (1 + optF L pl ts (oNext b p t))) acc := by
          intro l
          induction l with
          | nil => intro acc _; rfl
          | cons x l ihl =>
            intro acc hx
            simp only [List.foldl_cons]
            rw [ih x (hx x List.mem_cons_self), ihl _ fun y hy => hx y (List.mem_cons_of_mem _ hy)]
        refine key _ _ fun x hx => ?_
        have := oList_mem hx
        omega
      · rfl

/-- A way on: what may be sent from here. -/
theorem optsF_range {pl : Int} {m : Nat} {t s : Int} (h : s ∈ optsF pl m t) : -1 ≤ s ∧ s < 6 := by
  unfold optsF at h
  split at h
  · rw [List.mem_singleton.1 h]; omega
  · split at h
    · have := oList_mem h; omega
    · rw [List.mem_singleton.1 h]; omega
theorem optsF_hit {pl : Int} {m : Nat} {t : Int} (h0 : 0 ≤ t) (h6 : t < 6) (h : inO m t) : optsF pl m t = [-1] ∧ costF m t = 0 := by
  unfold optsF costF
  rw [(inO_bit h0 h6).2 h]
  simp
theorem optsF_miss {pl : Int} {m : Nat} {t : Int} (h : ¬ inO m t) (h0 : 0 ≤ t) (h6 : t < 6) : optsF pl m t = (if pl ≤ oCount m then oList m else [-1]) ∧ costF m t = 1 := by
  unfold optsF costF
  have : m.testBit t.toNat ≠ true := fun hb => h ((inO_bit h0 h6).1 hb)
  simp [this]
theorem inO_none {m : Nat} {x : Int} (h : inO m x) : x ≠ -1 := fun e => by have := h.1; omega

theorem next_count : ∀ m : Fin 64, ∀ s t : Fin 6, m.val.testBit s.val = true → m.val.testBit t.val = false → oCount (oNext m.val (s.val : Int) (t.val : Int)) = oCount m.val := by decide +kernel
theorem next_more : ∀ m : Fin 64, ∀ t : Fin 6, oCount (oNext m.val (-1) (t.val : Int)) ≤ oCount m.val + 1 := by decide +kernel
theorem oCount_send {m : Nat} {s t : Int} (hm : m < 64) (hs : inO m s) (h0 : 0 ≤ t) (h6 : t < 6) (ht : ¬ inO m t) : oCount (oNext m s t) = oCount m := by
  have := next_count ⟨m, hm⟩ ⟨s.toNat, by have := hs.1; have := hs.2.1; omega⟩ ⟨t.toNat, by omega⟩ hs.2.2 (by
    cases hb : m.testBit t.toNat
    · rfl
    · exact absurd ⟨h0, h6, hb⟩ ht)
  simp only [] at this
  rwa [show ((s.toNat : Nat) : Int) = s by have := hs.1; omega, show ((t.toNat : Nat) : Int) = t by omega] at this
theorem oCount_more {m : Nat} {t : Int} (hm : m < 64) (h0 : 0 ≤ t) (h6 : t < 6) : oCount (oNext m (-1) t) ≤ oCount m + 1 := by
  have := next_more ⟨m, hm⟩ ⟨t.toNat, by omega⟩
  simp only [] at this
  rwa [show ((t.toNat : Nat) : Int) = t by omega] at this
theorem oCount_hit {m : Nat} {t : Int} (h0 : 0 ≤ t) (h6 : t < 6) (ht : inO m t) : oCount (oNext m (-1) t) ≤ oCount m := oCount_mono fun x hx => by
  rcases (inO_next (by omega) (by omega) h0 h6).1 hx with rfl | hx
  · exact ht
  · exact hx.1

/-- What is asked of two offices, for each way on of the one a way on of the other. -/
theorem optF_step (L : Nat) (pl : Int) (h1 : 1 ≤ pl) {t : Int} {ts : List Int} {a b : Nat} (d : Nat) (hL : (t :: ts).length ≤ L)
    (h : ∀ s ∈ optsF pl b t, ∃ s' ∈ optsF pl a t, costF a t + optF L pl ts (oNext a s' t) ≤ d + (costF b t + optF L pl ts (oNext b s t))) : optF L pl (t :: ts) a ≤ d + optF L pl (t :: ts) b := by
  obtain ⟨s, hs, he⟩ := optF_at L pl h1 t ts b hL
  obtain ⟨s', hs', hle⟩ := h s hs
  have := optF_le_at L pl t ts a s' hs'
  omega

section
variable (L : Nat) (pl : Int) (h1 : 1 ≤ pl)
/-- How an office is after a call. -/
structure Fit (pl : Int) (m : Nat) : Prop where
  lt : m < 64
  few : (oCount m : Int) ≤ pl
theorem Fit.next {pl : Int} {m : Nat} {s t : Int} (h : Fit pl m) (h0 : 0 ≤ t) (h6 : t < 6) (hs : s ∈ optsF pl m t) : Fit pl (oNext m s t) := by
  refine ⟨oNext_lt h.lt (optsF_range hs).2 h0 h6, ?_⟩
  have hf := h.few
  by_cases ht : inO m t
  · rw [(optsF_hit h0 h6 ht).1, List.mem_singleton] at hs
    subst hs
    have := oCount_hit h0 h6 ht
    omega
  · rw [(optsF_miss ht h0 h6).1] at hs
    split at hs
    · have := oCount_send h.lt (inO_list.1 hs) h0 h6 ht
      omega
    · rw [List.mem_singleton] at hs
      subst hs
      have := oCount_more h.lt h0 h6
      omega

include h1 in
/-- An office that holds all of another needs no more. -/
theorem optF_sub : ∀ (ts : List Int) (a b : Nat), ts.length ≤ L → (∀ t ∈ ts, 0 ≤ t ∧ t < 6) → Fit pl a → (∀ x, inO b x → inO a x) → optF L pl ts a ≤ optF L pl ts b
  | [], _, _, _, _, _, _ => Nat.le_refl _
  | t :: ts, a, b, hL, ht, hfa, h => by
    have h6 := ht t List.mem_cons_self
    have hts : ∀ x ∈ ts, 0 ≤ x ∧ x < 6 := fun x hx => ht x (List.mem_cons_of_mem _ hx)
    have hL' : ts.length ≤ L := by simp at hL; omega
    have nx : ∀ (m : Nat) (s : Int), -1 ≤ s ∧ s < 6 → ∀ x, inO (oNext m s t) x ↔ x = t ∨ (inO m x ∧ x ≠ s) := fun m s h x => inO_next h.1 h.2 h6.1 h6.2
    have := optF_step L pl h1 (a := a) (b := b) 0 hL fun s hs => by
      have hsr := optsF_range hs
      have key : ∀ s' ∈ optsF pl a t, (∀ x, inO (oNext b s t) x → inO (oNext a s' t) x) → optF L pl ts (oNext a s' t) ≤ optF L pl ts (oNext b s t) := fun s' hs' hsub =>
        optF_sub ts _ _ hL' hts (hfa.next h6.1 h6.2 hs') hsub
      by_cases hta : inO a t
      · obtain ⟨ho, hcost⟩ := optsF_hit (pl := pl) h6.1 h6.2 hta
        refine ⟨-1, by rw [ho]; simp, ?_⟩
        have := key (-1) (by rw [ho]; simp) fun x hx => by
          rcases (nx b s hsr x).1 hx with rfl | hx
          · exact (nx a (-1) (by omega) _).2 (.inl rfl)
          · exact (nx a (-1) (by omega) x).2 (.inr ⟨h x hx.1, inO_none (h x hx.1)⟩)
        omega
      · have htb : ¬ inO b t := fun hb => hta (h t hb)
        obtain ⟨hoa, hca⟩ := optsF_miss (pl := pl) hta h6.1 h6.2
        obtain ⟨hob, hcb⟩ := optsF_miss (pl := pl) htb h6.1 h6.2
        suffices ∃ s' ∈ optsF pl a t, ∀ x, inO (oNext b s t) x → inO (oNext a s' t) x by
          obtain ⟨s', hs', hsub⟩ := this
          exact ⟨s', hs', by have := key s' hs' hsub; omega⟩
        by_cases hfu : pl ≤ oCount a
        · rw [if_pos hfu] at hoa
          rw [hoa]
          by_cases hex : ∃ y, inO a y ∧ ¬ inO b y
          · obtain ⟨y, hya, hyb⟩ := hex
            refine ⟨y, inO_list.2 hya, fun x hx => ?_⟩
            rcases (nx b s hsr x).1 hx with rfl | hx
            · exact (nx a y ⟨by have := hya.1; omega, hya.2.1⟩ _).2 (.inl rfl)
            · exact (nx a y ⟨by have := hya.1; omega, hya.2.1⟩ x).2 (.inr ⟨h x hx.1, fun e => hyb (e ▸ hx.1)⟩)
          · have heq : ∀ x, inO a x → inO b x := fun x hx => Classical.byContradiction fun hn => hex ⟨x, hx, hn⟩
            have hcb : pl ≤ oCount b := by have := oCount_mono heq; omega
            rw [if_pos hcb] at hob
            rw [hob] at hs
            have hsb := inO_list.1 hs
            refine ⟨s, inO_list.2 (h s hsb), fun x hx => ?_⟩
            rcases (nx b s hsr x).1 hx with rfl | hx
            · exact (nx a s hsr _).2 (.inl rfl)
            · exact (nx a s hsr x).2 (.inr ⟨h x hx.1, hx.2⟩)
        · rw [if_neg hfu] at hoa
          rw [hoa]
          refine ⟨-1, by simp, fun x hx => ?_⟩
          rcases (nx b s hsr x).1 hx with rfl | hx
          · exact (nx a (-1) (by omega) _).2 (.inl rfl)
          · exact (nx a (-1) (by omega) x).2 (.inr ⟨h x hx.1, inO_none hx.1⟩)
    omega

/-- One lacks at most what one has that the other has not. -/
theorem exists_more {a b : Nat} {q : Int} (hc : oCount b ≤ oCount a) (hq : inO b q) (hqa : ¬ inO a q) : ∃ y, inO a y ∧ ¬ inO b y := Classical.byContradiction fun hn => by
  have := oCount_lt (m := a) (n := b) (fun x hx => Classical.byContradiction fun hb => hn ⟨x, hx, hb⟩) hq hqa
  omega

include h1 in
/-- An office that lacks one piece of another needs at most one more. -/
theorem optF_one : ∀ (ts : List Int) (a b : Nat) (q : Int), ts.length ≤ L → (∀ t ∈ ts, 0 ≤ t ∧ t < 6) → Fit pl a → Fit pl b → (∀ x, inO b x → inO a x ∨ x = q) → optF L pl ts a ≤ 1 + optF L pl ts b
  | [], _, _, _, _, _, _, _, _ => by simp [optF]
  | t :: ts, a, b, q, hL, ht, hfa, hfb, h => by
    by_cases hsub : ∀ x, inO b x → inO a x
    · have := optF_sub L pl h1 (t :: ts) a b hL ht hfa hsub
      omega
    have hq : inO b q ∧ ¬ inO a q := Classical.byContradiction fun hn => hsub fun x hx => by
      rcases h x hx with h' | rfl
      · exact h'
      · exact Classical.byContradiction fun ha => hn ⟨hx, ha⟩
    have h6 := ht t List.mem_cons_self
    have hts : ∀ x ∈ ts, 0 ≤ x ∧ x < 6 := fun x hx => ht x (List.mem_cons_of_mem _ hx)
    have hL' : ts.length ≤ L := by simp at hL; omega
    have nx : ∀ (m : Nat) (s : Int), -1 ≤ s ∧ s < 6 → ∀ x, inO (oNext m s t) x ↔ x = t ∨ (inO m x ∧ x ≠ s) := fun m s h x => inO_next h.1 h.2 h6.1 h6.2
    refine optF_step L pl h1 (a := a) (b := b) 1 hL fun s hs => ?_
    have hsr := optsF_range hs
    have key : ∀ s' ∈ optsF pl a t, ∀ q', (∀ x, inO (oNext b s t) x → inO (oNext a s' t) x ∨ x = q') → optF L pl ts (oNext a s' t) ≤ 1 + optF L pl ts (oNext b s t) := fun s' hs' q' hsub =>
      optF_one ts _ _ q' hL' hts (hfa.next h6.1 h6.2 hs') (hfb.next h6.1 h6.2 hs) hsub
    by_cases hta : inO a t
    · obtain ⟨ho, hcost⟩ := optsF_hit (pl := pl) h6.1 h6.2 hta
      refine ⟨-1, by rw [ho]; simp, ?_⟩
      have := key (-1) (by rw [ho]; simp) q fun x hx => by
        rcases (nx b s hsr x).1 hx with rfl | hx
        · exact .inl ((nx a (-1) (by omega) _).2 (.inl rfl))
        · rcases h x hx.1 with h' | h'
          · exact .inl ((nx a (-1) (by omega) x).2 (.inr ⟨h', inO_none h'⟩))
          · exact .inr h'
      omega
    · obtain ⟨hoa, hca⟩ := optsF_miss (pl := pl) hta h6.1 h6.2
      by_cases htb : inO b t
      · -- t is q
        obtain rfl : t = q := (h t htb).resolve_left hta
        obtain ⟨hob, hcb⟩ := optsF_hit (pl := pl) h6.1 h6.2 htb
        rw [hob, List.mem_singleton] at hs
        subst hs
        suffices ∃ s' ∈ optsF pl a t, ∀ x, inO (oNext b (-1) t) x → inO (oNext a s' t) x by
          obtain ⟨s', hs', hsub⟩ := this
          have := optF_sub L pl h1 ts _ _ hL' hts (hfa.next h6.1 h6.2 hs') hsub
          exact ⟨s', hs', by omega⟩
        by_cases hfu : pl ≤ oCount a
        · obtain ⟨y, hya, hyb⟩ := exists_more (a := a) (b := b) (by have := hfb.few; omega) htb hta
          rw [hoa, if_pos hfu]
          refine ⟨y, inO_list.2 hya, fun x hx => ?_⟩
          rcases (nx b (-1) (by omega) x).1 hx with rfl | hx
          · exact (nx a y ⟨by have := hya.1; omega, hya.2.1⟩ _).2 (.inl rfl)
          · rcases h x hx.1 with h' | rfl
            · exact (nx a y ⟨by have := hya.1; omega, hya.2.1⟩ x).2 (.inr ⟨h', fun e => hyb (e ▸ hx.1)⟩)
            · exact (nx a y ⟨by have := hya.1; omega, hya.2.1⟩ _).2 (.inl rfl)
        · rw [hoa, if_neg hfu]
          refine ⟨-1, by simp, fun x hx => ?_⟩
          rcases (nx b (-1) (by omega) x).1 hx with rfl | hx
          · exact (nx a (-1) (by omega) _).2 (.inl rfl)
          · rcases h x hx.1 with h' | rfl
            · exact (nx a (-1) (by omega) x).2 (.inr ⟨h', inO_none h'⟩)
            · exact (nx a (-1) (by omega) _).2 (.inl rfl)
      · obtain ⟨hob, hcb⟩ := optsF_miss (pl := pl) htb h6.1 h6.2
        suffices ∃ s' ∈ optsF pl a t, ∃ q', ∀ x, inO (oNext b s t) x → inO (oNext a s' t) x ∨ x = q' by
          obtain ⟨s', hs', q', hsub⟩ := this
          exact ⟨s', hs', by have := key s' hs' q' hsub; omega⟩
        by_cases hfu : pl ≤ oCount a
        · rw [hoa, if_pos hfu]
          -- whatever a sends: something of a that b has not, if there is, or what b sends
          obtain ⟨y, hya, hyb⟩ := exists_more (a := a) (b := b) (by have := hfb.few; omega) hq.1 hq.2
          refine ⟨y, inO_list.2 hya, q, fun x hx => ?_⟩
          rcases (nx b s hsr x).1 hx with rfl | hx
          · exact .inl ((nx a y ⟨by have := hya.1; omega, hya.2.1⟩ _).2 (.inl rfl))
          · rcases h x hx.1 with h' | h'
            · exact .inl ((nx a y ⟨by have := hya.1; omega, hya.2.1⟩ x).2 (.inr ⟨h', fun e => hyb (e ▸ hx.1)⟩))
            · exact .inr h'
        · rw [hoa, if_neg hfu]
          refine ⟨-1, by simp, q, fun x hx => ?_⟩
          rcases (nx b s hsr x).1 hx with rfl | hx
          · exact .inl ((nx a (-1) (by omega) _).2 (.inl rfl))
          · rcases h x hx.1 with h' | h'
            · exact .inl ((nx a (-1) (by omega) x).2 (.inr ⟨h', inO_none h'⟩))
            · exact .inr h'
include h1 in
/-- The piece that is asked for sooner is the better one to have. -/
theorem optF_swap : ∀ (ts : List Int) (a b : Nat) (p q : Int), ts.length ≤ L → (∀ t ∈ ts, 0 ≤ t ∧ t < 6) → Fit pl a → Fit pl b → inO a p → ¬ inO b p → inO b q → ¬ inO a q → (∀ x, x ≠ p → x ≠ q → (inO a x ↔ inO b x)) →
    ts.findIdx (· == p) ≤ ts.findIdx (· == q) → optF L pl ts a ≤ optF L pl ts b
  | [], _, _, _, _, _, _, _, _, _, _, _, _, _, _ => Nat.le_refl _
  | t :: ts, a, b, p, q, hL, ht, hfa, hfb, hap, hbp, hbq, haq, h, hidx => by
    have h6 := ht t List.mem_cons_self
    have hts : ∀ x ∈ ts, 0 ≤ x ∧ x < 6 := fun x hx => ht x (List.mem_cons_of_mem _ hx)
    have hL' : ts.length ≤ L := by simp at hL; omega
    have nx : ∀ (m : Nat) (s : Int), -1 ≤ s ∧ s < 6 → ∀ x, inO (oNext m s t) x ↔ x = t ∨ (inO m x ∧ x ≠ s) := fun m s h x => inO_next h.1 h.2 h6.1 h6.2
    have hpq : p ≠ q := fun e => haq (e ▸ hap)
    rw [List.findIdx_cons, List.findIdx_cons] at hidx
    by_cases htq : t = q
    · exfalso
      have h2 : (t == p) = false := by simp; omega
      simp [htq, h2] at hidx
      rw [htq] at h2
      simp [h2] at hidx
    have htq' : (t == q) = false := by simpa using htq
    by_cases htp : t = p
    · subst htp
      have := optF_step L pl h1 (a := a) (b := b) 0 hL fun s hs => by
        have hsr := optsF_range hs
        obtain ⟨hoa, hca⟩ := optsF_hit (pl := pl) h6.1 h6.2 hap
        obtain ⟨hob, hcb⟩ := optsF_miss (pl := pl) hbp h6.1 h6.2
        have hm : (-1 : Int) ∈ optsF pl a t := by rw [hoa]; simp
        refine ⟨-1, hm, ?_⟩
        have := optF_one L pl h1 ts (oNext a (-1) t) (oNext b s t) q hL' hts (hfa.next h6.1 h6.2 hm) (hfb.next h6.1 h6.2 hs) fun x hx => by
          rcases (nx b s hsr x).1 hx with rfl | hx
          · exact .inl ((nx a (-1) (by omega) _).2 (.inl rfl))
          · by_cases hxq : x = q
            · exact .inr hxq
            · by_cases hxp : x = t
              · exact absurd (hxp ▸ hx.1) hbp
              · have := (h x hxp hxq).2 hx.1
                exact .inl ((nx a (-1) (by omega) x).2 (.inr ⟨this, inO_none this⟩))
        omega
      omega
    have htp' : (t == p) = false := by simpa using htp
    rw [htq', htp'] at hidx
    simp only [cond_false] at hidx
    have htab : inO a t ↔ inO b t := h t htp htq
    have key : ∀ s, s ∈ optsF pl a t → s ∈ optsF pl b t → s ≠ p → s ≠ q → optF L pl ts (oNext a s t) ≤ optF L pl ts (oNext b s t) := fun s hsa hsb hsp hsq => by
      have hsr := optsF_range hsa
      refine optF_swap ts _ _ p q hL' hts (hfa.next h6.1 h6.2 hsa) (hfb.next h6.1 h6.2 hsb) ((nx a s hsr p).2 (.inr ⟨hap, hsp.symm⟩)) (fun hx => ?_) ((nx b s hsr q).2 (.inr ⟨hbq, hsq.symm⟩)) (fun hx => ?_) (fun x hxp hxq => ?_) (by omega)
      · rcases (nx b s hsr p).1 hx with e | e
        · exact htp e.symm
        · exact hbp e.1
      · rcases (nx a s hsr q).1 hx with e | e
        · exact htq e.symm
        · exact haq e.1
      · rw [nx a s hsr x, nx b s hsr x, h x hxp hxq]
    have := optF_step L pl h1 (a := a) (b := b) 0 hL fun s hs => by
      have hsr := optsF_range hs
      by_cases hta : inO a t
      · obtain ⟨hoa, hca⟩ := optsF_hit (pl := pl) h6.1 h6.2 hta
        obtain ⟨hob, hcb⟩ := optsF_hit (pl := pl) h6.1 h6.2 (htab.1 hta)
        have hs1 := hs
        rw [hob, List.mem_singleton] at hs1
        subst hs1
        have := key (-1) (by rw [hoa]; simp) hs (fun e => inO_none hap e.symm) (fun e => inO_none hbq e.symm)
        exact ⟨-1, by rw [hoa]; simp, by omega⟩
      · obtain ⟨hoa, hca⟩ := optsF_miss (pl := pl) hta h6.1 h6.2
        obtain ⟨hob, hcb⟩ := optsF_miss (pl := pl) (fun hb => hta (htab.2 hb)) h6.1 h6.2
        have hcount : oCount a = oCount b := by
          have h0 := hbq.1
          have h7 := hbq.2.1
          rw [← oCount_send hfa.lt hap h0 h7 haq]
          have hx : ∀ x, inO (oNext a p q) x ↔ inO b x := fun x => by
            rw [inO_next (by have := hap.1; omega) hap.2.1 h0 h7]
            constructor
            · rintro (rfl | hx)
              · exact hbq
              · by_cases hxq : x = q
                · rw [hxq]; exact hbq
                · exact (h x hx.2 hxq).1 hx.1
            · intro hx
              by_cases hxq : x = q
              · exact .inl hxq
              · have hxp : x ≠ p := fun e => hbp (e ▸ hx)
                exact .inr ⟨(h x hxp hxq).2 hx, hxp⟩
          exact Nat.le_antisymm (oCount_mono fun x hx' => (hx x).1 hx') (oCount_mono fun x hx' => (hx x).2 hx')
        by_cases hfu : pl ≤ oCount a
        · rw [if_pos hfu] at hoa
          rw [if_pos (by omega)] at hob
          have hsb := hs
          rw [hob] at hsb
          have hsb := inO_list.1 hsb
          by_cases hsq : s = q
          · subst hsq
            refine ⟨p, by rw [hoa]; exact inO_list.2 hap, ?_⟩
            have := optF_ext L pl ts (oNext a p t) (oNext b s t) hts fun x => by
              rw [nx a p ⟨by have := hap.1; omega, hap.2.1⟩ x, nx b s hsr x]
              by_cases hxt : x = t
              · simp [hxt]
              · simp only [hxt, false_or]
                by_cases hxp : x = p
                · subst hxp; simp [hbp]
                · by_cases hxq : x = s
                  · subst hxq; simp [haq]
                  · rw [h x hxp hxq]; simp [hxp, hxq]
            omega
          · have hsp : s ≠ p := fun e => hbp (e ▸ hsb)
            have hsa : s ∈ optsF pl a t := by rw [hoa]; exact inO_list.2 ((h s hsp hsq).2 hsb)
            have := key s hsa hs hsp hsq
            exact ⟨s, hsa, by omega⟩
        · rw [if_neg hfu] at hoa
          rw [if_neg (by omega)] at hob
          have hs1 := hs
          rw [hob, List.mem_singleton] at hs1
          subst hs1
          have := key (-1) (by rw [hoa]; simp) hs (fun e => inO_none hap e.symm) (fun e => inO_none hbq e.symm)
          exact ⟨-1, by rw [hoa]; simp, by omega⟩
    omega

include h1 in
/-- To send what is asked for last is best. -/
theorem optF_late (t : Int) (ts : List Int) (m : Nat) (q : Int) (hL : (t :: ts).length ≤ L) (ht : ∀ x ∈ t :: ts, 0 ≤ x ∧ x < 6) (hf : Fit pl m) (htm : ¬ inO m t) (hfu : pl ≤ oCount m) (hq : inO m q) (hlast : ∀ p, inO m p → ts.findIdx (· == p) ≤ ts.findIdx (· == q)) :
    1 + optF L pl ts (oNext m q t) = optF L pl (t :: ts) m := by
  have h6 := ht t List.mem_cons_self
  have hts : ∀ x ∈ ts, 0 ≤ x ∧ x < 6 := fun x hx => ht x (List.mem_cons_of_mem _ hx)
  have hL' : ts.length ≤ L := by simp at hL; omega
  have nx : ∀ (m : Nat) (s : Int), -1 ≤ s ∧ s < 6 → ∀ x, inO (oNext m s t) x ↔ x = t ∨ (inO m x ∧ x ≠ s) := fun m s h x => inO_next h.1 h.2 h6.1 h6.2
  obtain ⟨ho, hc⟩ := optsF_miss (pl := pl) htm h6.1 h6.2
  rw [if_pos hfu] at ho
  have hqo : q ∈ optsF pl m t := by rw [ho]; exact inO_list.2 hq
  have h2 := optF_le_at L pl t ts m q hqo
  obtain ⟨s, hs, he⟩ := optF_at L pl h1 t ts m hL
  have hso := hs
  rw [ho] at hs
  have hs := inO_list.1 hs
  have hqr := optsF_range hqo
  have hsr := optsF_range hso
  have h3 : optF L pl ts (oNext m q t) ≤ optF L pl ts (oNext m s t) := by
    by_cases hsq : s = q
    · rw [hsq]; exact Nat.le_refl _
    · have hst : s ≠ t := fun e => htm (e ▸ hs)
      have hqt : q ≠ t := fun e => htm (e ▸ hq)
      refine optF_swap L pl h1 ts _ _ s q hL' hts (hf.next h6.1 h6.2 hqo) (hf.next h6.1 h6.2 hso) ((nx m q hqr s).2 (.inr ⟨hs, hsq⟩)) (fun hx => ?_) ((nx m s hsr q).2 (.inr ⟨hq, fun e => hsq e.symm⟩)) (fun hx => ?_) (fun x hxs hxq => ?_) (hlast s hs)
      · rcases (nx m s hsr s).1 hx with e | e
        · exact hst e
        · exact e.2 rfl
      · rcases (nx m q hqr q).1 hx with e | e
        · exact hqt e
        · exact e.2 rfl
      · rw [nx m q hqr x, nx m s hsr x]
        simp [hxs, hxq]
  omega
end

/-! ### rules -/
theorem pickF_min (rk : Int → Int) : ∀ (l : List Int) (c : Int), (∀ x ∈ l, 0 ≤ x) → (c < 0 → l ≠ []) →
    let r := l.foldl (fun c q => if c < 0 ∨ rk q < rk c then q else c) c
    (r ∈ l ∨ (r = c ∧ 0 ≤ c)) ∧ (∀ x ∈ l, rk r ≤ rk x) ∧ (0 ≤ c → rk r ≤ rk c)
  | [], c, _, hc => by
    refine ⟨.inr ⟨rfl, ?_⟩, by simp, fun _ => Int.le_refl _⟩
    exact Int.not_lt.1 fun h => hc h rfl
  | x :: l, c, hl, hc => by
    have hx := hl x List.mem_cons_self
    simp only [List.foldl_cons]
    by_cases hif : c < 0 ∨ rk x < rk c
    · rw [if_pos hif]
      obtain ⟨h1, h2, h3⟩ := pickF_min rk l x (fun y hy => hl y (List.mem_cons_of_mem _ hy)) (by omega)
      refine ⟨.inl ?_, fun y hy => ?_, fun h => ?_⟩
      · rcases h1 with h1 | h1
        · exact List.mem_cons_of_mem _ h1
        · rw [h1.1]; exact List.mem_cons_self
      · rcases List.mem_cons.1 hy with rfl | hy
        · exact h3 hx
        · exact h2 y hy
      · have := h3 hx; omega
    · rw [if_neg hif]
      have hc0 : 0 ≤ c := by omega
      obtain ⟨h1, h2, h3⟩ := pickF_min rk l c (fun y hy => hl y (List.mem_cons_of_mem _ hy)) (by omega)
      refine ⟨?_, fun y hy => ?_, h3⟩
      · rcases h1 with h1 | h1
        · exact .inl (List.mem_cons_of_mem _ h1)
        · exact .inr h1
      · rcases List.mem_cons.1 hy with rfl | hy
        · have := h3 hc0; omega
        · exact h2 y hy
theorem pickF_spec (rk : Int → Int) (m : Nat) (h : 0 < oCount m) : inO m (pickF rk (oList m)) ∧ ∀ x, inO m x → rk (pickF rk (oList m)) ≤ rk x := by
  obtain ⟨h1, h2, _⟩ := pickF_min rk (oList m) (-1) (fun x hx => (oList_mem hx).1) (fun _ hn => by
    have := oList_len m; rw [hn] at this; simp at this; omega)
  refine ⟨?_, fun x hx => h2 x (inO_list.2 hx)⟩
  rcases h1 with h1 | h1
  · exact inO_list.1 h1
  · omega
theorem sendB_iff {pl : Int} {m : Nat} {t : Int} (h0 : 0 ≤ t) (h6 : t < 6) : sendB pl m t = true ↔ ¬ inO m t ∧ pl ≤ oCount m := by
  unfold sendB
  rw [Bool.and_eq_true, Bool.not_eq_true', decide_eq_true_eq, ← inO_bit h0 h6]
  simp
/-- What a rule sends is one of what may be sent. -/
theorem rsent_opts {pl r : Int} {ts : List Int} {i : Nat} {t : Int} {s : RS} (h1 : 1 ≤ pl) (h0 : 0 ≤ t) (h6 : t < 6) : rsent pl r ts i t s ∈ optsF pl s.m t := by
  unfold rsent
  by_cases hs : sendB pl s.m t = true
  · rw [if_pos hs]
    obtain ⟨hm, hf⟩ := (sendB_iff h0 h6).1 hs
    rw [(optsF_miss hm h0 h6).1, if_pos hf]
    exact inO_list.2 (pickF_spec _ s.m (by omega)).1
  · rw [if_neg hs]
    by_cases hm : inO s.m t
    · rw [(optsF_hit h0 h6 hm).1]; simp
    · rw [(optsF_miss hm h0 h6).1, if_neg (fun hf => hs ((sendB_iff h0 h6).2 ⟨hm, hf⟩))]; simp

theorem ts_at {ts : List Int} {i : Nat} (h : i < ts.length) : ts.drop i = ts.getD i 0 :: ts.drop (i + 1) := by
  rw [List.drop_eq_getElem_cons h]
  simp [List.getD, List.getElem?_eq_getElem h]
theorem ts_in {ts : List Int} {i : Nat} (h : i < ts.length) (hb : ∀ t ∈ ts, 0 ≤ t ∧ t < 6) : 0 ≤ ts.getD i 0 ∧ ts.getD i 0 < 6 := by
  simp [List.getD, List.getElem?_eq_getElem h]
  exact hb _ (List.getElem_mem _)
theorem cost_f (s : RS) (pl r : Int) (ts : List Int) (i : Nat) (t : Int) : (rstep pl r ts i t s).f = s.f + costF s.m t := by
  simp [rstep, costF]
theorem rrun_fit {pl r : Int} {ts : List Int} {s0 : RS} (h1 : 1 ≤ pl) (hb : ∀ t ∈ ts, 0 ≤ t ∧ t < 6) (hf : Fit pl s0.m) : ∀ i, i ≤ ts.length → Fit pl (rrun pl r ts s0 i).m
  | 0, _ => hf
  | i + 1, h => by
    have h6 := ts_in (i := i) (by omega) hb
    exact (rrun_fit h1 hb hf i (by omega)).next h6.1 h6.2 (rsent_opts h1 h6.1 h6.2)
/-- No rule fetches less. -/
theorem rrun_least {pl r : Int} {ts : List Int} {s0 : RS} (L : Nat) (hL : ts.length ≤ L) (h1 : 1 ≤ pl) (hb : ∀ t ∈ ts, 0 ≤ t ∧ t < 6) : ∀ i, i ≤ ts.length → s0.f + optF L pl ts s0.m ≤ (rrun pl r ts s0 i).f + optF L pl (ts.drop i) (rrun pl r ts s0 i).m
  | 0, _ => Nat.le_refl _
  | i + 1, h => by
    have ih := rrun_least (r := r) (s0 := s0) L hL h1 hb i (by omega)
    have h6 := ts_in (i := i) (by omega) hb
    rw [ts_at (by omega)] at ih
    have := optF_le_at L pl (ts.getD i 0) (ts.drop (i + 1)) (rrun pl r ts s0 i).m (rsent pl r ts i (ts.getD i 0) (rrun pl r ts s0 i)) (rsent_opts h1 h6.1 h6.2)
    rw [rrun, cost_f]
    have e : (rstep pl r ts i (ts.getD i 0) (rrun pl r ts s0 i)).m = oNext (rrun pl r ts s0 i).m (rsent pl r ts i (ts.getD i 0) (rrun pl r ts s0 i)) (ts.getD i 0) := rfl
    rw [e]
    omega
/-- The rule that knows what comes fetches no more. -/
theorem rrun_late {pl : Int} {ts : List Int} {s0 : RS} (L : Nat) (hL : ts.length ≤ L) (h1 : 1 ≤ pl) (hb : ∀ t ∈ ts, 0 ≤ t ∧ t < 6) (hf : Fit pl s0.m) : ∀ i, i ≤ ts.length → s0.f + optF L pl ts s0.m = (rrun pl 3 ts s0 i).f + optF L pl (ts.drop i) (rrun pl 3 ts s0 i).m
  | 0, _ => rfl
  | i + 1, h => by
    have ih := rrun_late (s0 := s0) L hL h1 hb hf i (by omega)
    have hfi := rrun_fit (r := 3) h1 hb hf i (by omega)
    have h6 := ts_in (i := i) (by omega) hb
    rw [ts_at (by omega)] at ih
    rw [rrun, cost_f]
    have e : (rstep pl 3 ts i (ts.getD i 0) (rrun pl 3 ts s0 i)).m = oNext (rrun pl 3 ts s0 i).m (rsent pl 3 ts i (ts.getD i 0) (rrun pl 3 ts s0 i)) (ts.getD i 0) := rfl
    rw [e]
    generalize rrun pl 3 ts s0 i = s at *
    have hdl : (ts.getD i 0 :: ts.drop (i + 1)).length ≤ L := by rw [← ts_at (by omega), List.length_drop]; omega
    have hin : ∀ x ∈ ts.getD i 0 :: ts.drop (i + 1), 0 ≤ x ∧ x < 6 := fun x hx => hb x (by
      rw [← ts_at (by omega)] at hx
      exact List.mem_of_mem_drop hx)
    have hmem := rsent_opts (pl := pl) (r := 3) (ts := ts) (i := i) (s := s) h1 h6.1 h6.2
    by_cases hm : inO s.m (ts.getD i 0)
    · obtain ⟨ho, hc⟩ := optsF_hit (pl := pl) h6.1 h6.2 hm
      obtain ⟨s', hs', he⟩ := optF_at L pl h1 (ts.getD i 0) (ts.drop (i + 1)) s.m hdl
      rw [ho, List.mem_singleton] at hs' hmem
      rw [hmem]
      rw [hs'] at he
      omega
    · obtain ⟨ho, hc⟩ := optsF_miss (pl := pl) hm h6.1 h6.2
      by_cases hfu : pl ≤ oCount s.m
      · have hs : rsent pl 3 ts i (ts.getD i 0) s = pickF (rankF 3 s.came s.asked (laterL ts (i + 1))) (oList s.m) := by
          unfold rsent
          rw [if_pos ((sendB_iff h6.1 h6.2).2 ⟨hm, hfu⟩)]
          rfl
        obtain ⟨hq, hmin⟩ := pickF_spec (rankF 3 s.came s.asked (laterL ts (i + 1))) s.m (by omega)
        rw [← hs] at hq hmin
        have := optF_late L pl h1 (ts.getD i 0) (ts.drop (i + 1)) s.m _ hdl hin hfi hm hfu hq fun p hp => by
          have := hmin p hp
          unfold rankF at this
          simp only [Int.reduceEq, if_false] at this
          rw [laterL_get _ _ _ hq.1 hq.2.1, laterL_get _ _ _ hp.1 hp.2.1] at this
          unfold nxt at this
          omega
        omega
      · obtain ⟨s', hs', he⟩ := optF_at L pl h1 (ts.getD i 0) (ts.drop (i + 1)) s.m hdl
        rw [ho, if_neg hfu, List.mem_singleton] at hs' hmem
        rw [hmem]
        rw [hs'] at he
        omega
/-! ### jobs -/
theorem oWith_inO {m : Nat} {n x : Int} (h0 : 0 ≤ n) (h6 : n < 6) : inO (oWith m n.toNat) x ↔ x = n ∨ inO m x := by
  have := inO_next (m := m) (s := -1) (t := n) (x := x) (by omega) (by omega) h0 h6
  have e : oNext m (-1) n = oWith m n.toNat := by simp [oNext]
  rw [e] at this
  rw [this]
  constructor
  · rintro (h | h)
    · exact .inl h
    · exact .inr h.1
  · rintro (h | h)
    · exact .inl h
    · exact .inr ⟨h, inO_none h⟩
theorem oOf_inO : ∀ (xs : List Int) (m : Nat) (x : Int), (∀ y ∈ xs, 0 ≤ y ∧ y < 6) → (inO (xs.foldl (fun m x => oWith m x.toNat) m) x ↔ x ∈ xs ∨ inO m x)
  | [], m, x, _ => by simp
  | y :: xs, m, x, h => by
    have hy := h y List.mem_cons_self
    rw [List.foldl_cons, oOf_inO xs _ x fun z hz => h z (List.mem_cons_of_mem _ hz), oWith_inO hy.1 hy.2, List.mem_cons]
    constructor
    · rintro (h | h | h)
      · exact .inl (.inr h)
      · exact .inl (.inl h)
      · exact .inr h
    · rintro ((h | h) | h)
      · exact .inr (.inl h)
      · exact .inl h
      · exact .inr (.inr h)
theorem inO_zero (x : Int) : ¬ inO 0 x := fun h => by have := h.2.2; simp at this
theorem start_inO {start : List Int} (h : ∀ y ∈ start, 0 ≤ y ∧ y < 6) (x : Int) : inO (oOf start) x ↔ x ∈ start := by
  rw [oOf, oOf_inO start 0 x h]
  exact ⟨fun h => h.resolve_right (inO_zero x), .inl⟩
theorem with_more : ∀ m : Fin 64, ∀ t : Fin 6, oCount (oWith m.val t.val) ≤ oCount m.val + 1 := by decide +kernel
theorem oOf_count : ∀ (xs : List Int) (m : Nat), m < 64 → (∀ y ∈ xs, 0 ≤ y ∧ y < 6) → oCount (xs.foldl (fun m x => oWith m x.toNat) m) ≤ oCount m + xs.length
  | [], m, _, _ => Nat.le_refl _
  | y :: xs, m, hm, h => by
    have hy := h y List.mem_cons_self
    rw [List.foldl_cons]
    have h1 := oOf_count xs _ (oWith_lt hm hy.1 hy.2) fun z hz => h z (List.mem_cons_of_mem _ hz)
    have h2 := with_more ⟨m, hm⟩ ⟨y.toNat, by omega⟩
    simp only [] at h2
    simp only [List.length_cons]
    omega
theorem start_fit {pl : Int} {start : List Int} (h : ∀ y ∈ start, 0 ≤ y ∧ y < 6) (hl : (start.length : Int) ≤ pl) : Fit pl (oOf start) := by
  refine ⟨oOf_lt start 0 (by omega) h, ?_⟩
  have := oOf_count start 0 (by omega) h
  have h0 : oCount 0 = 0 := by decide
  unfold oOf
  omega

/-- What a run sends is kept. -/
theorem rrun_cl {pl r : Int} {ts : List Int} {s0 : RS} (hl : s0.cl.length = 8) (h8 : ts.length ≤ 8) : ∀ k, k ≤ ts.length → (rrun pl r ts s0 k).cl.length = 8 ∧ ∀ i, i < k → (rrun pl r ts s0 k).cl[i]? = some (rsent pl r ts i (ts.getD i 0) (rrun pl r ts s0 i))
  | 0, _ => ⟨hl, fun i h => by omega⟩
  | k + 1, h => by
    obtain ⟨h1, h2⟩ := rrun_cl (pl := pl) (r := r) (s0 := s0) hl h8 k (by omega)
    refine ⟨by simp [rrun, rstep, h1], fun i hi => ?_⟩
    simp only [rrun, rstep]
    by_cases hik : i = k
    · subst hik
      rw [List.getElem?_set_self (by omega)]
    · rw [List.getElem?_set_ne (by omega)]
      exact h2 i (by omega)
theorem sents_at {pl r : Int} {ts : List Int} {s0 : RS} (hl : s0.cl.length = 8) (h8 : ts.length ≤ 8) {i : Nat} (hi : i < ts.length) : ((rrun pl r ts s0 ts.length).cl.take ts.length).getD i 0 = rsent pl r ts i (ts.getD i 0) (rrun pl r ts s0 i) := by
  have := (rrun_cl (pl := pl) (r := r) hl h8 ts.length (Nat.le_refl _)).2 i hi
  simp [List.getD, List.getElem?_take_of_lt hi, this]

/-- The jobs are the calls at which a piece is fetched. -/
theorem nhS_run {pl r : Int} {ts start : List Int} (h1 : 1 ≤ pl) (h8 : ts.length ≤ 8) (hb : ∀ t ∈ ts, 0 ≤ t ∧ t < 6) (hs : ∀ y ∈ start, 0 ≤ y ∧ y < 6) (ss : List Int) (hss : ∀ i, i < ts.length → ss.getD i 0 = rsent pl r ts i (ts.getD i 0) (rrun pl r ts (rs0 start) i)) :
    ∀ i, i ≤ ts.length → (∀ x, x ∈ (nhS ts ss start i).1 ↔ inO (rrun pl r ts (rs0 start) i).m x) ∧ (nhS ts ss start i).2.length = (rrun pl r ts (rs0 start) i).f ∧ ∀ j ∈ (nhS ts ss start i).2, 0 ≤ j ∧ j < i
  | 0, _ => ⟨fun x => (start_inO hs x).symm, rfl, by simp [nhS]⟩
  | i + 1, h => by
    obtain ⟨ih1, ih2, ih3⟩ := nhS_run h1 h8 hb hs ss hss i (by omega)
    have h6 := ts_in (i := i) (by omega) hb
    have hsi := hss i (by omega)
    have hmem := rsent_opts (pl := pl) (r := r) (ts := ts) (i := i) (s := rrun pl r ts (rs0 start) i) h1 h6.1 h6.2
    have e : (rrun pl r ts (rs0 start) (i + 1)).m = oNext (rrun pl r ts (rs0 start) i).m (rsent pl r ts i (ts.getD i 0) (rrun pl r ts (rs0 start) i)) (ts.getD i 0) := rfl
    have ef : (rrun pl r ts (rs0 start) (i + 1)).f = (rrun pl r ts (rs0 start) i).f + costF (rrun pl r ts (rs0 start) i).m (ts.getD i 0) := cost_f _ _ _ _ _ _
    rw [e, ef]
    rw [nhS, hsi]
    have hsr := optsF_range hmem
    by_cases ht : inO (rrun pl r ts (rs0 start) i).m (ts.getD i 0)
    · rw [if_pos ((ih1 _).2 ht)]
      obtain ⟨ho, hc⟩ := optsF_hit (pl := pl) h6.1 h6.2 ht
      rw [ho, List.mem_singleton] at hmem
      rw [hmem, hc]
      refine ⟨fun x => ?_, ih2, fun j hj => by have := ih3 j hj; omega⟩
      rw [ih1, inO_next (by omega) (by omega) h6.1 h6.2]
      constructor
      · intro hx; exact .inr ⟨hx, inO_none hx⟩
      · rintro (rfl | hx)
        · exact ht
        · exact hx.1
    · rw [if_neg (fun h => ht ((ih1 _).1 h))]
      obtain ⟨ho, hc⟩ := optsF_miss (pl := pl) ht h6.1 h6.2
      rw [hc]
      refine ⟨fun x => ?_, by simp [ih2], fun j hj => ?_⟩
      · rw [inO_next hsr.1 hsr.2 h6.1 h6.2, List.mem_append, List.mem_filter, List.mem_singleton, ih1]
        simp only [Bool.not_eq_true', beq_eq_false_iff_ne, ne_eq]
        exact or_comm
      · simp only [List.mem_append, List.mem_singleton] at hj
        rcases hj with hj | rfl
        · have := ih3 j hj; omega
        · omega

/-- What a haul's numbers are. -/
structure NumOk (n : HN) : Prop where
  pl : 1 ≤ n.places
  t8 : n.ts.length ≤ 8
  tb : ∀ t ∈ n.ts, 0 ≤ t ∧ t < 6
  sb : ∀ y ∈ n.start, 0 ≤ y ∧ y < 6
  sl : (n.start.length : Int) ≤ n.places
theorem HN.jobs_run (n : HN) (h : NumOk n) : n.jobs.length = (rrun n.places n.rule n.ts (rs0 n.start) n.ts.length).f ∧ ∀ j ∈ n.jobs, 0 ≤ j ∧ j < n.ts.length := by
  have hcl : (rs0 n.start).cl.length = 8 := by simp [rs0]
  have := nhS_run (r := n.rule) h.pl h.t8 h.tb h.sb n.sents (fun i hi => sents_at hcl h.t8 hi) n.ts.length (Nat.le_refl _)
  exact this.2
theorem jobs_least (n : HN) (h : NumOk n) : optF n.ts.length n.places n.ts (oOf n.start) ≤ n.jobs.length := by
  rw [(n.jobs_run h).1]
  have := rrun_least (r := n.rule) (s0 := rs0 n.start) n.ts.length (Nat.le_refl _) h.pl h.tb n.ts.length (Nat.le_refl _)
  rw [List.drop_length] at this
  simpa [rs0, optF] using this
theorem jobs_late (n : HN) (h : NumOk n) (hr : n.rule = 3) : n.jobs.length = optF n.ts.length n.places n.ts (oOf n.start) := by
  rw [(n.jobs_run h).1, hr]
  have := rrun_late (s0 := rs0 n.start) n.ts.length (Nat.le_refl _) h.pl h.tb (start_fit h.sb h.sl) n.ts.length (Nat.le_refl _)
  rw [List.drop_length] at this
  simpa [rs0, optF] using this.symm

/-! ### a barrow for each job -/
theorem HN.due_nonneg (n : HN) (js : List Int) (k : Nat) (h : ∀ x ∈ n.xs, 0 ≤ x ∧ x ≤ 99) : 0 ≤ n.due js k := by
  unfold HN.due
  by_cases hl : (js.getD k 0).toNat < n.xs.length
  · simp only [List.getD] at hl ⊢
    rw [List.getElem?_eq_getElem hl]
    exact (h _ (List.getElem_mem _)).1
  · simp only [List.getD] at hl ⊢
    rw [List.getElem?_eq_none (by omega)]
    exact Int.le_refl _
theorem pickB_fresh (bs : List Int) (i : Nat) (hi : i < 4) (hl : bs.length = i) (hb : ∀ x ∈ bs, -1048576 < x) : pickB (bs ++ List.replicate (4 - i) (-1048576)) 4 = i := by
  obtain rfl | rfl | rfl | rfl : i = 0 ∨ i = 1 ∨ i = 2 ∨ i = 3 := by omega
  · obtain rfl := List.length_eq_zero_iff.1 hl
    decide
  · obtain ⟨a, rfl⟩ := List.length_eq_one_iff.1 hl
    have := hb a (by simp)
    simp [pickB, List.replicate, List.getD, this]
  · match bs, hl with
    | [a, b], _ =>
      have := hb a (by simp)
      have := hb b (by simp)
      simp [pickB, List.replicate, List.getD]
      split <;> (try simp_all) <;> omega
  · match bs, hl with
    | [a, b, c], _ =>
      have := hb a (by simp)
      have := hb b (by simp)
      have := hb c (by simp)
      simp [pickB, List.replicate, List.getD]
      split <;> split <;> (try simp_all) <;> omega
theorem alone_dS (n : HN) (js : List Int) (mi : Int) (hx : ∀ x ∈ n.xs, 0 ≤ x ∧ x ≤ 99) (h4 : n.barrows = 4) (n30 : n.notice ≤ 30) (hm : 1 ≤ mi) (hn : mi ≤ n.notice) (k : Nat) (hk : k ≤ 4) : ∀ i, i ≤ k →
    ∃ bs : List Int, (dS n js mi (List.replicate k 1) i).1 = bs ++ List.replicate (4 - i) (-1048576) ∧ bs.length = i ∧ (∀ x ∈ bs, -1048576 < x) ∧ (dS n js mi (List.replicate k 1) i).2.1 = i ∧
      (dS n js mi (List.replicate k 1) i).2.2.length = i ∧ ∀ j r, (dS n js mi (List.replicate k 1) i).2.2[j]? = some r → r.back - n.due js j ≤ 0
  | 0, _ => ⟨[], rfl, rfl, by simp, rfl, rfl, by simp [dS]⟩
  | i + 1, hi => by
    obtain ⟨bs, h1, h2, h3, h5, h6, h7⟩ := alone_dS n js mi hx h4 n30 hm hn k hk i (by omega)
    have hg : (List.replicate k 1).getD i 0 = 1 := by simp [List.getD, List.getElem?_replicate, show i < k by omega]
    have hp := pickB_fresh bs i (by omega) h2 h3
    have hd := n.due_nonneg js i hx
    have hget : (bs ++ List.replicate (4 - i) (-1048576)).getD i 0 = -1048576 := by
      simp [List.getD, List.getElem?_append_right (show bs.length ≤ i by omega), h2, List.getElem?_replicate, show 0 < 4 - i by omega]
    have hride : rideF n js (dS n js mi (List.replicate k 1) i).1 (dS n js mi (List.replicate k 1) i).2.1 ((List.replicate k 1).getD i 0) mi = ⟨i, n.due js i - n.notice, n.due js i - n.notice + mi⟩ := by
      rw [h1, h5, hg]
      unfold rideF
      rw [h4]
      simp only [Int.reduceToNat]
      rw [hp, hget, Nat.add_sub_cancel, Int.max_eq_right (by omega)]
    have hS : dS n js mi (List.replicate k 1) (i + 1) = (bs ++ List.replicate (4 - i) (-1048576) |>.set i (n.due js i - n.notice + mi), i + 1, (dS n js mi (List.replicate k 1) i).2.2 ++ [⟨i, n.due js i - n.notice, n.due js i - n.notice + mi⟩]) := by
      rw [dS]
      rw [hride, h1, h5, hg, h4]
      simp only [Int.reduceToNat]
      rw [hp]
    rw [hS]
    refine ⟨bs ++ [n.due js i - n.notice + mi], ?_, by simp [h2], ?_, rfl, by simp [h6], ?_⟩
    · rw [List.set_append_right _ _ (by omega), h2, Nat.sub_self, show 4 - i = (4 - (i + 1)) + 1 by omega, List.replicate_succ, List.set_cons_zero, List.append_assoc]
      rfl
    · intro x hx
      rcases List.mem_append.1 hx with hx | hx
      · exact h3 x hx
      · rw [List.mem_singleton] at hx; omega
    · intro j r hj
      by_cases hji : j < i
      · rw [List.getElem?_append_left (by omega)] at hj
        exact h7 j r hj
      · have hlt := (List.getElem?_eq_some_iff.1 hj).1
        simp only [List.length_append, List.length_cons, List.length_nil] at hlt
        obtain rfl : j = i := by omega
        rw [List.getElem?_append_right (by omega), h6, Nat.sub_self, List.getElem?_cons_zero] at hj
        cases hj
        simp only []
        omega
theorem alone_fine (n : HN) (js : List Int) (mi : Int) (hx : ∀ x ∈ n.xs, 0 ≤ x ∧ x ≤ 99) (h4 : n.barrows = 4) (n30 : n.notice ≤ 30) (hm : 1 ≤ mi) (hn : mi ≤ n.notice) (hk : js.length ≤ 4) : fineP n js mi (List.replicate js.length 1) := by
  obtain ⟨bs, h1, h2, h3, h5, h6, h7⟩ := alone_dS n js mi hx h4 n30 hm hn js.length hk js.length (Nat.le_refl _)
  intro i r hr j hj
  rw [List.length_replicate] at hr
  have hi : i < js.length := by have := (List.getElem?_eq_some_iff.1 hr).1; omega
  have hg : (List.replicate js.length 1).getD i 0 = 1 := by simp [List.getD, List.getElem?_replicate, hi]
  rw [hg] at hj
  obtain rfl : j = 0 := by omega
  have hsum : ((List.replicate js.length 1).take i).sum = i := by
    rw [List.take_replicate, Nat.min_eq_left (by omega)]; simp
  rw [hsum]
  exact h7 i r hr
end Go.Proofs.YtiempdpjcddgfaaDoor
end
