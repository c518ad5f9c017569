/- Texts Top Bridge Proofs. -/
import Derived.Test.YtiempdpjcddgfaaDoorJ11
import Derived.Calls
import Derived.Below
import Derived.Carry
import Derived.ChangeSame
import Derived.ChangeVars
import Derived.ChangeSlices
import Derived.JoinedOf
import Derived.RowKit
import Derived.RowKitTokens
import Derived.LaidLaws
import Derived.LaidHandle
import Derived.Stop.Joined
import Derived.Test.YtiempdpjcddgfaaDoorRows
section
/- TopCarried answers true. -/
set_option linter.unusedSimpArgs false
set_option maxRecDepth 100000
set_option maxHeartbeats 1000000
set_option linter.unusedVariables false
namespace Go.Proofs.YtiempdpjcddgfaaDoor
open Go Go.X
set_option linter.defProp false
def y3_52 := And.intro @callF5 (And.intro @callF4 (And.intro (fun H => ex_alloc (H := H) (P := Tryd.prog) (h := Tryd.zeroValue29)) (And.intro (fun H => storeAt_agg (H := H) Tryd.sizeOf29) (And.intro (fun H => fieldAt_eq (H := H) Tryd.underlying29 (i := 0) rfl (off := 0) rfl Tryd.sizeOf25) (And.intro (fun H => loadAt_aggE (H := H) Tryd.underlying25 rfl Tryd.sizeOf25) (And.intro (fun H => fieldAt_eq (H := H) Tryd.underlying29 (i := 1) rfl (off := 4) rfl Tryd.sizeOf22) (And.intro (fun H => loadAt_one (H := H) Tryd.underlying22 rfl) (And.intro @callF6 (And.intro (fun H => fieldAt_eq (H := H) Tryd.underlying29 (i := 2) rfl (off := 5) rfl Tryd.sizeOf3) (And.intro (fun H => storeAt_int (H := H) Tryd.sizeOf3) (And.intro (fun H => loadAt_aggE (H := H) Tryd.underlying29 rfl Tryd.sizeOf29) (And.intro @callF7 (And.intro (fun H => len_slice (H := H) Tryd.underlying22) (And.intro (fun H => fieldAt_eq (H := H) Tryd.underlying29 (i := 4) rfl (off := 7) rfl Tryd.sizeOf3) (And.intro (fun H => loadAt_one (H := H) Tryd.underlying3 rfl) (And.intro (fun H => fieldAt_eq (H := H) Tryd.underlying29 (i := 7) rfl (off := 10) rfl Tryd.sizeOf27) (And.intro (fun H => fieldAt_eq (H := H) Tryd.underlying27 (i := 1) rfl (off := 1) rfl Tryd.sizeOf3) (And.intro @max_int (And.intro (fun H => fieldAt_eq (H := H) Tryd.underlying29 (i := 6) rfl (off := 9) rfl Tryd.sizeOf3) (And.intro @callF8 @callF9))))))))))))))))))))
def y9_52 := And.intro @lit_22_1_0_0 (And.intro @lit_23_2_0_1_0 (And.intro @bld_25_0_1_2_3_0 (And.intro (fun H => ex_alloc (H := H) (P := Tryd.prog) (h := Tryd.zeroValue25)) (And.intro (fun H => storeAt_agg (H := H) Tryd.sizeOf25) (And.intro (fun H => loadAt_aggE (H := H) Tryd.underlying25 rfl Tryd.sizeOf25) (And.intro @lit_22_2_0_1_0 (And.intro @bld_27_0_1_0 (And.intro @bld_29_0_1_3_5_6_7_0 (And.intro @callF7 (And.intro @callF6 @callF23))))))))))

/-- The haul of the example. -/
abbrev awakeN : HN := ⟨1, 2, 0, 0, 1, 1, 1, 1, [0], [[1], [0]], [1, 0], [3, 4]⟩
theorem awake_jobs : awakeN.jobs = [0, 1] := by decide +kernel
theorem awake_opt : optF 2 1 [1, 0] (oOf [0]) = 2 := by decide +kernel
theorem awake_path : pathF 2 1 [1, 0] (oOf [0]) = [0, 1] := by decide +kernel

theorem SlI.here {H : Hp} {b n : Nat} {p : Bool} {xs : List Int} {c : Array Value} {fr : Nat × Nat} (h : H b = some (p, .cells c 3 fr)) (hc : c = (ints xs).toArray) (hn : n = xs.length) : SlI H (.slice (some ⟨b, 0, none⟩) n n) xs := by
  subst hc hn
  refine ⟨some ⟨b, 0, none⟩, xs.length, rfl, Nat.le_refl _, fun i x hi => ⟨b, 0, p, _, fr, rfl, h, ?_⟩⟩
  rw [Nat.zero_add]
  simpa using ints_get hi

theorem awake_spec (main : Bool) (H : Hp) : FnX Tryd.prog main 9 #[] H fun e H' => e = .returned (.bool true) ∧ H.le H' := by
  refine FnX_start Tryd.func9 rfl Tryd.ntmps9 (by simp) ?_
  repeat' (first
  | (refine wpX_stmtL rfl ?_; intro K hK; simp -implicitDefEqProofs (disch := first | omega | (simp only [qd] <;> omega)) only [xq, ↓xp, qc, Nat.reduceAdd, List.range, List.range.loop, fine, Nat.reduceEqDiff, ↓reduceIte, yielded, reduceCtorEq, Nat.reduceLT, Nat.reduceMul, Nat.reduceSub, one, Nat.reduceLeDiff, runX_cons, y9_52, aq, ↓ap, qe0, qe1, qe2, *, -hK]; try (refine hK _ _ ?_; clear hK K))
  | (refine wpX_lastL rfl ?_; intro K hK; simp -implicitDefEqProofs (disch := first | omega | (simp only [qd] <;> omega)) only [xq, ↓xp, qc, Nat.reduceAdd, List.range, List.range.loop, fine, Nat.reduceEqDiff, ↓reduceIte, yielded, reduceCtorEq, Nat.reduceLT, Nat.reduceMul, Nat.reduceSub, one, Nat.reduceLeDiff, runX_cons, y9_52, aq, ↓ap, qe0, qe1, qe2, *, -hK]; try (refine hK _ _ ?_; clear hK K; (try simp only [nq, ↓reduceIte, Nat.reduceEqDiff])))
  | (refine wpX_skip ?_; (try simp only [nq, ↓reduceIte, Nat.reduceEqDiff]))
  | (refine wpX_label ?_; (try simp only [nq, ↓reduceIte, Nat.reduceEqDiff]))
  | (refine wpX_exit ?_; (try simp only [nq, ↓reduceIte, Nat.reduceEqDiff]))
  | (refine wpX_goto ?_; (try simp only [nq, ↓reduceIte, Nat.reduceEqDiff]))
  | (refine wpX_condK (by simp only [act_eval, upd_get, Nat.reduceEqDiff, Nat.reduceLT, ↓reduceIte, *]; rfl) ?_ ?_ <;> (intro hc; first | (exfalso; simp -implicitDefEqProofs (disch := omega) only [*, bq, reduceCtorEq] at hc; done) | (simp only [dq, qe3, qe4, qe5, qe6] at hc) | skip))
  | (refine wpX_scope0 ?_)
  | (refine wpX_block ?_)
  | (refine wpX_seq ?_))
  intro b0 h0 b1 h1 b2 h2 b3 h3 b4 h4
  replace h4 : (Hp.set (Hp.set (Hp.set (Hp.set H b0 (.cells #[.int .i64 0] 3 (0, 0))) b1 (.cells #[.int .i64 1] 3 (0, 0))) b2 (.cells #[.int .i64 0] 3 (0, 0))) b3 (.cells #[.slice (some ⟨b1, 0, none⟩) 1 1, .slice (some ⟨b2, 0, none⟩) 1 1] 22 (0, 0))) b4 = none := h4
  replace h3 : (Hp.set (Hp.set (Hp.set H b0 (.cells #[.int .i64 0] 3 (0, 0))) b1 (.cells #[.int .i64 1] 3 (0, 0))) b2 (.cells #[.int .i64 0] 3 (0, 0))) b3 = none := h3
  replace h2 : (Hp.set (Hp.set H b0 (.cells #[.int .i64 0] 3 (0, 0))) b1 (.cells #[.int .i64 1] 3 (0, 0))) b2 = none := h2
  replace h1 : (Hp.set H b0 (.cells #[.int .i64 0] 3 (0, 0))) b1 = none := h1
  generalize hG : Hp.set H b0 _ = H1 at h1 h2 h3 h4 ⊢
  have l1 := le_of_set hG h0
  have v0 := at_of_set hG
  clear hG
  generalize hG : Hp.set H1 b1 _ = H2 at h2 h3 h4 ⊢
  have l2 := le_of_set hG h1
  have v1 := at_of_set hG
  clear hG
  generalize hG : Hp.set H2 b2 _ = H3 at h3 h4 ⊢
  have l3 := le_of_set hG h2
  have v2 := at_of_set hG
  clear hG
  generalize hG : Hp.set H3 b3 _ = H4 at h4 ⊢
  have l4 := le_of_set hG h3
  have v3 := at_of_set hG
  clear hG
  generalize hG : Hp.set H4 b4 _ = H5
  have l5 := le_of_set hG h4
  have v4 := at_of_set hG
  clear hG
  have hst : SlI H5 (.slice (some ⟨b0, 0, none⟩) 1 1) [0] := (SlI.here (xs := [0]) v0 rfl rfl).le (Hp.le_trans l2 (Hp.le_trans l3 (Hp.le_trans l4 l5)))
  have hcalls : SlR H5 (.slice (some ⟨b3, 0, none⟩) 2 2) [[1], [0]] := by
    refine ⟨some ⟨b3, 0, none⟩, 2, rfl, Nat.le_refl _, fun i xs hi => ?_⟩
    have w1 : SlI H5 (.slice (some ⟨b1, 0, none⟩) 1 1) [1] := (SlI.here (xs := [1]) v1 rfl rfl).le (Hp.le_trans l3 (Hp.le_trans l4 l5))
    have w2 : SlI H5 (.slice (some ⟨b2, 0, none⟩) 1 1) [0] := (SlI.here (xs := [0]) v2 rfl rfl).le (Hp.le_trans l4 l5)
    match i with
    | 0 => cases hi; exact ⟨b3, 0, true, _, _, _, rfl, l5 _ _ v3, rfl, w1⟩
    | 1 => cases hi; exact ⟨b3, 0, true, _, _, _, rfl, l5 _ _ v3, rfl, w2⟩
  have l05 : H.le H5 := Hp.le_trans l1 (Hp.le_trans l2 (Hp.le_trans l3 (Hp.le_trans l4 l5)))
  clear v0 v1 v2 v3 l1 l2 l3 l4 l5 h0 h1 h2 h3 h4
  (try simp -implicitDefEqProofs (disch := first | omega | (simp only [qd] <;> omega)) only [xq, ↓xp, qc, Nat.reduceAdd, List.range, List.range.loop, fine, Nat.reduceEqDiff, ↓reduceIte, yielded, reduceCtorEq, Nat.reduceLT, Nat.reduceMul, Nat.reduceSub, one, Nat.reduceLeDiff, runX_cons, y9_52, aq, ↓ap, qe0, qe1, qe2, *, -hK]); try (refine hK _ _ ?_; clear hK K; (try simp only [nq, ↓reduceIte, Nat.reduceEqDiff])); repeat' (first
  | (refine wpX_stmtL rfl ?_; intro K hK; simp -implicitDefEqProofs (disch := first | omega | (simp only [qd] <;> omega)) only [xq, ↓xp, qc, Nat.reduceAdd, List.range, List.range.loop, fine, Nat.reduceEqDiff, ↓reduceIte, yielded, reduceCtorEq, Nat.reduceLT, Nat.reduceMul, Nat.reduceSub, one, Nat.reduceLeDiff, runX_cons, y9_52, aq, ↓ap, qe0, qe1, qe2, *, -hK]; try (refine hK _ _ ?_; clear hK K))
  | (refine wpX_lastL rfl ?_; intro K hK; simp -implicitDefEqProofs (disch := first | omega | (simp only [qd] <;> omega)) only [xq, ↓xp, qc, Nat.reduceAdd, List.range, List.range.loop, fine, Nat.reduceEqDiff, ↓reduceIte, yielded, reduceCtorEq, Nat.reduceLT, Nat.reduceMul, Nat.reduceSub, one, Nat.reduceLeDiff, runX_cons, y9_52, aq, ↓ap, qe0, qe1, qe2, *, -hK]; try (refine hK _ _ ?_; clear hK K; (try simp only [nq, ↓reduceIte, Nat.reduceEqDiff])))
  | (refine wpX_skip ?_; (try simp only [nq, ↓reduceIte, Nat.reduceEqDiff]))
  | (refine wpX_label ?_; (try simp only [nq, ↓reduceIte, Nat.reduceEqDiff]))
  | (refine wpX_exit ?_; (try simp only [nq, ↓reduceIte, Nat.reduceEqDiff]))
  | (refine wpX_goto ?_; (try simp only [nq, ↓reduceIte, Nat.reduceEqDiff]))
  | (refine wpX_condK (by simp only [act_eval, upd_get, Nat.reduceEqDiff, Nat.reduceLT, ↓reduceIte, *]; rfl) ?_ ?_ <;> (intro hc; first | (exfalso; simp -implicitDefEqProofs (disch := omega) only [*, bq, reduceCtorEq] at hc; done) | (simp only [dq, qe3, qe4, qe5, qe6] at hc) | skip))
  | (refine wpX_scope0 ?_)
  | (refine wpX_block ?_)
  | (refine wpX_seq ?_))
  intro b5 h5 b6 h6
  replace h6 : (Hp.set H5 b5 (.cells #[.int .i64 1, .int .i64 0] 3 (0, 0))) b6 = none := h6
  generalize hG : Hp.set H5 b5 _ = H6 at h6 ⊢
  have l6 := le_of_set hG h5
  have v5 := at_of_set hG
  clear hG
  generalize hG : Hp.set H6 b6 _ = H7
  have l7 := le_of_set hG h6
  have v6 := at_of_set hG
  clear hG
  have l57 := Hp.le_trans l6 l7
  have hts : SlI H7 (.slice (some ⟨b5, 0, none⟩) 2 2) [1, 0] := (SlI.here (xs := [1, 0]) v5 rfl rfl).le l7
  have hxs : SlI H7 (.slice (some ⟨b6, 0, none⟩) 2 2) [3, 4] := SlI.here (xs := [3, 4]) v6 rfl rfl
  have hvo : VaultOk 1 2 [0] [[1], [0]] := ⟨by omega, by omega, by omega, by omega, by decide, by decide, by simp, fun xs hx => by
    simp only [List.mem_cons, List.not_mem_nil, or_false] at hx
    rcases hx with rfl | rfl <;> exact ⟨by simp, by simp, by simp⟩⟩
  have htr : TruthOk [[1], [0]] [1, 0] := ⟨rfl, fun i t xs ht hx => by
    match i with
    | 0 => cases ht; cases hx; simp
    | 1 => cases ht; cases hx; simp⟩
  have hday : DayIn H7 1 2 (.slice (some ⟨b0, 0, none⟩) 1 1) (.slice (some ⟨b3, 0, none⟩) 2 2) (.slice (some ⟨b5, 0, none⟩) 2 2) [0] [[1], [0]] [1, 0] :=
    ⟨hst.le l57, hcalls.le l57, hts, hvo, by simp, htr⟩
  have hhi : HaulIn H7 awakeN ⟨.slice (some ⟨b0, 0, none⟩) 1 1, .slice (some ⟨b3, 0, none⟩) 2 2, .slice (some ⟨b5, 0, none⟩) 2 2, .slice (some ⟨b6, 0, none⟩) 2 2⟩ :=
    { day := hday, times := hxs, ok := ⟨rfl, by simp, by simp⟩, r0 := by simp, r3 := by simp, n0 := by simp, n30 := by simp, l1 := by simp, l3 := by simp, b1 := by simp, b4 := by simp, t1 := by simp, t2 := by simp, t20 := by simp }
  refine (jobs_spec main H7 awakeN _ hhi).runs.mono ?_
  rintro _ H8 ⟨jv, rfl, l8, hj⟩
  rw [awake_jobs] at hj
  have v48 := l8 _ _ (l57 _ _ v4)
  have l58 := Hp.le_trans l57 l8
  obtain ⟨ja, jn, jc, rfl⟩ := hj.isSlice
  clear hday hhi hxs hts v5 v6 l6 l7 l57 v4 l8 h5 h6
  (try simp -implicitDefEqProofs (disch := first | omega | (simp only [qd] <;> omega)) only [xq, ↓xp, qc, Nat.reduceAdd, List.range, List.range.loop, fine, Nat.reduceEqDiff, ↓reduceIte, yielded, reduceCtorEq, Nat.reduceLT, Nat.reduceMul, Nat.reduceSub, one, Nat.reduceLeDiff, runX_cons, y9_52, aq, ↓ap, qe0, qe1, qe2, *, -hK]); try (refine hK _ _ ?_; clear hK K; (try simp only [nq, ↓reduceIte, Nat.reduceEqDiff])); repeat' (first
  | (refine wpX_stmtL rfl ?_; intro K hK; simp -implicitDefEqProofs (disch := first | omega | (simp only [qd] <;> omega)) only [xq, ↓xp, qc, Nat.reduceAdd, List.range, List.range.loop, fine, Nat.reduceEqDiff, ↓reduceIte, yielded, reduceCtorEq, Nat.reduceLT, Nat.reduceMul, Nat.reduceSub, one, Nat.reduceLeDiff, runX_cons, y9_52, aq, ↓ap, qe0, qe1, qe2, *, -hK]; try (refine hK _ _ ?_; clear hK K))
  | (refine wpX_lastL rfl ?_; intro K hK; simp -implicitDefEqProofs (disch := first | omega | (simp only [qd] <;> omega)) only [xq, ↓xp, qc, Nat.reduceAdd, List.range, List.range.loop, fine, Nat.reduceEqDiff, ↓reduceIte, yielded, reduceCtorEq, Nat.reduceLT, Nat.reduceMul, Nat.reduceSub, one, Nat.reduceLeDiff, runX_cons, y9_52, aq, ↓ap, qe0, qe1, qe2, *, -hK]; try (refine hK _ _ ?_; clear hK K; (try simp only [nq, ↓reduceIte, Nat.reduceEqDiff])))
  | (refine wpX_skip ?_; (try simp only [nq, ↓reduceIte, Nat.reduceEqDiff]))
  | (refine wpX_label ?_; (try simp only [nq, ↓reduceIte, Nat.reduceEqDiff]))
  | (refine wpX_exit ?_; (try simp only [nq, ↓reduceIte, Nat.reduceEqDiff]))
  | (refine wpX_goto ?_; (try simp only [nq, ↓reduceIte, Nat.reduceEqDiff]))
  | (refine wpX_condK (by simp only [act_eval, upd_get, Nat.reduceEqDiff, Nat.reduceLT, ↓reduceIte, *]; rfl) ?_ ?_ <;> (intro hc; first | (exfalso; simp -implicitDefEqProofs (disch := omega) only [*, bq, reduceCtorEq] at hc; done) | (simp only [dq, qe3, qe4, qe5, qe6] at hc) | skip))
  | (refine wpX_scope0 ?_)
  | (refine wpX_block ?_)
  | (refine wpX_seq ?_))
  (intro b7 hb7; generalize hG : Hp.set _ b7 _ = H9; have lH9 := le_of_set hG hb7; have vb7 := at_of_set hG; clear hG)
  have hts9 : SlI H9 (.slice (some ⟨b7, 0, none⟩) 2 2) [1, 0] := SlI.here (xs := [1, 0]) vb7 rfl rfl
  have l59 := Hp.le_trans l58 lH9
  have hday : DayIn H9 1 2 (.slice (some ⟨b0, 0, none⟩) 1 1) (.slice (some ⟨b3, 0, none⟩) 2 2) (.slice (some ⟨b7, 0, none⟩) 2 2) [0] [[1], [0]] [1, 0] :=
    ⟨hst.le l59, hcalls.le l59, hts9, hvo, by simp, htr⟩
  refine (best_spec main H9 1 2 _ _ _ [0] [[1], [0]] [1, 0] hday).runs.mono ?_
  rintro _ H10 ⟨cv, rfl, hcv, l10⟩
  have e1 : optF [(1 : Int), 0].length 1 [1, 0] (oOf [0]) = 2 := by decide +kernel
  have e2 : pathF [(1 : Int), 0].length 1 [1, 0] (oOf [0]) = [0, 1] := by decide +kernel
  rw [e2] at hcv
  rw [e1]
  obtain ⟨ca, cn, cc, rfl⟩ := hcv.isSlice
  have hj10 := hj.le (Hp.le_trans lH9 l10)
  have l510 := Hp.le_trans l59 l10
  have l010 := Hp.le_trans l05 l510
  clear hday hts9 hcalls hst hj v48 vb7 lH9 l10 l59 l58 l510 l05 e1 e2 hvo htr hb7
  (try simp -implicitDefEqProofs (disch := first | omega | (simp only [qd] <;> omega)) only [xq, ↓xp, qc, Nat.reduceAdd, List.range, List.range.loop, fine, Nat.reduceEqDiff, ↓reduceIte, yielded, reduceCtorEq, Nat.reduceLT, Nat.reduceMul, Nat.reduceSub, one, Nat.reduceLeDiff, runX_cons, y9_52, aq, ↓ap, qe0, qe1, qe2, *, -hK]); try (refine hK _ _ ?_; clear hK K; (try simp only [nq, ↓reduceIte, Nat.reduceEqDiff])); repeat' (first
  | (refine wpX_stmtL rfl ?_; intro K hK; simp -implicitDefEqProofs (disch := first | omega | (simp only [qd] <;> omega)) only [xq, ↓xp, qc, Nat.reduceAdd, List.range, List.range.loop, fine, Nat.reduceEqDiff, ↓reduceIte, yielded, reduceCtorEq, Nat.reduceLT, Nat.reduceMul, Nat.reduceSub, one, Nat.reduceLeDiff, runX_cons, y9_52, aq, ↓ap, qe0, qe1, qe2, *, -hK]; try (refine hK _ _ ?_; clear hK K))
  | (refine wpX_lastL rfl ?_; intro K hK; simp -implicitDefEqProofs (disch := first | omega | (simp only [qd] <;> omega)) only [xq, ↓xp, qc, Nat.reduceAdd, List.range, List.range.loop, fine, Nat.reduceEqDiff, ↓reduceIte, yielded, reduceCtorEq, Nat.reduceLT, Nat.reduceMul, Nat.reduceSub, one, Nat.reduceLeDiff, runX_cons, y9_52, aq, ↓ap, qe0, qe1, qe2, *, -hK]; try (refine hK _ _ ?_; clear hK K; (try simp only [nq, ↓reduceIte, Nat.reduceEqDiff])))
  | (refine wpX_skip ?_; (try simp only [nq, ↓reduceIte, Nat.reduceEqDiff]))
  | (refine wpX_label ?_; (try simp only [nq, ↓reduceIte, Nat.reduceEqDiff]))
  | (refine wpX_exit ?_; (try simp only [nq, ↓reduceIte, Nat.reduceEqDiff]))
  | (refine wpX_goto ?_; (try simp only [nq, ↓reduceIte, Nat.reduceEqDiff]))
  | (refine wpX_condK (by simp only [act_eval, upd_get, Nat.reduceEqDiff, Nat.reduceLT, ↓reduceIte, *]; rfl) ?_ ?_ <;> (intro hc; first | (exfalso; simp -implicitDefEqProofs (disch := omega) only [*, bq, reduceCtorEq] at hc; done) | (simp only [dq, qe3, qe4, qe5, qe6] at hc) | skip))
  | (refine wpX_scope0 ?_)
  | (refine wpX_block ?_)
  | (refine wpX_seq ?_))
  (intro b8 hb8; generalize hG : Hp.set _ b8 _ = H11; have lH11 := le_of_set hG hb8; have vb8 := at_of_set hG; clear hG)
  have w8 : SlI H11 (.slice (some ⟨b8, 0, none⟩) 2 2) [0, 1] := SlI.here (xs := [0, 1]) vb8 rfl rfl
  refine (likeInts_spec main H11 _ _ [0, 1] [0, 1] (hj10.le lH11) w8 (by simp) (by simp)).runs.mono ?_
  rintro _ HQ ⟨rfl, hHQ⟩
  rw [hHQ, decide_eq_true (show ([0, 1] : List Int) = [0, 1] from rfl)]
  clear hHQ HQ
  have hcv11 := hcv.le lH11
  have l011 := Hp.le_trans l010 lH11
  clear hj10 hcv w8 vb8 lH11 hb8 l010
  (try simp -implicitDefEqProofs (disch := first | omega | (simp only [qd] <;> omega)) only [xq, ↓xp, qc, Nat.reduceAdd, List.range, List.range.loop, fine, Nat.reduceEqDiff, ↓reduceIte, yielded, reduceCtorEq, Nat.reduceLT, Nat.reduceMul, Nat.reduceSub, one, Nat.reduceLeDiff, runX_cons, y9_52, aq, ↓ap, qe0, qe1, qe2, *, -hK]); try (refine hK _ _ ?_; clear hK K; (try simp only [nq, ↓reduceIte, Nat.reduceEqDiff])); repeat' (first
  | (refine wpX_stmtL rfl ?_; intro K hK; simp -implicitDefEqProofs (disch := first | omega | (simp only [qd] <;> omega)) only [xq, ↓xp, qc, Nat.reduceAdd, List.range, List.range.loop, fine, Nat.reduceEqDiff, ↓reduceIte, yielded, reduceCtorEq, Nat.reduceLT, Nat.reduceMul, Nat.reduceSub, one, Nat.reduceLeDiff, runX_cons, y9_52, aq, ↓ap, qe0, qe1, qe2, *, -hK]; try (refine hK _ _ ?_; clear hK K))
  | (refine wpX_lastL rfl ?_; intro K hK; simp -implicitDefEqProofs (disch := first | omega | (simp only [qd] <;> omega)) only [xq, ↓xp, qc, Nat.reduceAdd, List.range, List.range.loop, fine, Nat.reduceEqDiff, ↓reduceIte, yielded, reduceCtorEq, Nat.reduceLT, Nat.reduceMul, Nat.reduceSub, one, Nat.reduceLeDiff, runX_cons, y9_52, aq, ↓ap, qe0, qe1, qe2, *, -hK]; try (refine hK _ _ ?_; clear hK K; (try simp only [nq, ↓reduceIte, Nat.reduceEqDiff])))
  | (refine wpX_skip ?_; (try simp only [nq, ↓reduceIte, Nat.reduceEqDiff]))
  | (refine wpX_label ?_; (try simp only [nq, ↓reduceIte, Nat.reduceEqDiff]))
  | (refine wpX_exit ?_; (try simp only [nq, ↓reduceIte, Nat.reduceEqDiff]))
  | (refine wpX_goto ?_; (try simp only [nq, ↓reduceIte, Nat.reduceEqDiff]))
  | (refine wpX_condK (by simp only [act_eval, upd_get, Nat.reduceEqDiff, Nat.reduceLT, ↓reduceIte, *]; rfl) ?_ ?_ <;> (intro hc; first | (exfalso; simp -implicitDefEqProofs (disch := omega) only [*, bq, reduceCtorEq] at hc; done) | (simp only [dq, qe3, qe4, qe5, qe6] at hc) | skip))
  | (refine wpX_scope0 ?_)
  | (refine wpX_block ?_)
  | (refine wpX_seq ?_))
  (intro b9 hb9; generalize hG : Hp.set _ b9 _ = H12; have lH12 := le_of_set hG hb9; have vb9 := at_of_set hG; clear hG)
  have w9 : SlI H12 (.slice (some ⟨b9, 0, none⟩) 2 2) [0, 1] := SlI.here (xs := [0, 1]) vb9 rfl rfl
  refine (likeInts_spec main H12 _ _ [0, 1] [0, 1] (hcv11.le lH12) w9 (by simp) (by simp)).runs.mono ?_
  rintro _ HQ ⟨rfl, hHQ⟩
  rw [hHQ, decide_eq_true (show ([0, 1] : List Int) = [0, 1] from rfl)]
  clear hHQ HQ
  have l012 := Hp.le_trans l011 lH12
  clear hcv11 w9 vb9 lH12 hb9 l011
  (try simp -implicitDefEqProofs (disch := first | omega | (simp only [qd] <;> omega)) only [xq, ↓xp, qc, Nat.reduceAdd, List.range, List.range.loop, fine, Nat.reduceEqDiff, ↓reduceIte, yielded, reduceCtorEq, Nat.reduceLT, Nat.reduceMul, Nat.reduceSub, one, Nat.reduceLeDiff, runX_cons, y9_52, aq, ↓ap, qe0, qe1, qe2, *, -hK]); try (refine hK _ _ ?_; clear hK K; (try simp only [nq, ↓reduceIte, Nat.reduceEqDiff])); repeat' (first
  | (refine wpX_stmtL rfl ?_; intro K hK; simp -implicitDefEqProofs (disch := first | omega | (simp only [qd] <;> omega)) only [xq, ↓xp, qc, Nat.reduceAdd, List.range, List.range.loop, fine, Nat.reduceEqDiff, ↓reduceIte, yielded, reduceCtorEq, Nat.reduceLT, Nat.reduceMul, Nat.reduceSub, one, Nat.reduceLeDiff, runX_cons, y9_52, aq, ↓ap, qe0, qe1, qe2, *, -hK]; try (refine hK _ _ ?_; clear hK K))
  | (refine wpX_lastL rfl ?_; intro K hK; simp -implicitDefEqProofs (disch := first | omega | (simp only [qd] <;> omega)) only [xq, ↓xp, qc, Nat.reduceAdd, List.range, List.range.loop, fine, Nat.reduceEqDiff, ↓reduceIte, yielded, reduceCtorEq, Nat.reduceLT, Nat.reduceMul, Nat.reduceSub, one, Nat.reduceLeDiff, runX_cons, y9_52, aq, ↓ap, qe0, qe1, qe2, *, -hK]; try (refine hK _ _ ?_; clear hK K; (try simp only [nq, ↓reduceIte, Nat.reduceEqDiff])))
  | (refine wpX_skip ?_; (try simp only [nq, ↓reduceIte, Nat.reduceEqDiff]))
  | (refine wpX_label ?_; (try simp only [nq, ↓reduceIte, Nat.reduceEqDiff]))
  | (refine wpX_exit ?_; (try simp only [nq, ↓reduceIte, Nat.reduceEqDiff]))
  | (refine wpX_goto ?_; (try simp only [nq, ↓reduceIte, Nat.reduceEqDiff]))
  | (refine wpX_condK (by simp only [act_eval, upd_get, Nat.reduceEqDiff, Nat.reduceLT, ↓reduceIte, *]; rfl) ?_ ?_ <;> (intro hc; first | (exfalso; simp -implicitDefEqProofs (disch := omega) only [*, bq, reduceCtorEq] at hc; done) | (simp only [dq, qe3, qe4, qe5, qe6] at hc) | skip))
  | (refine wpX_scope0 ?_)
  | (refine wpX_block ?_)
  | (refine wpX_seq ?_))
  (refine wpX_ret ?_; (try simp only [nq, ↓reduceIte, Nat.reduceEqDiff]); rw [bodyX_ret, results_one Tryd.results9 (by decide)]; simp only [upd_get, Nat.reduceEqDiff, ↓reduceIte])
  exact ⟨by trivial, l012⟩

theorem HaulIn.put {H : Hp} {n : HN} {v : HV} (h : HaulIn H n v) {b : Nat} {c : Array Value} {o : Obj} (hb : H b = some (true, .cells c 29 (0, 0))) : HaulIn (H.set b o) n v := by
  have hk : ∀ x p c' fr e, (e = 3 ∨ e = 22) → H x = some (p, .cells c' e fr) → (H.set b o) x = some (p, .cells c' e fr) := fun x p c' fr e he hx => by
    rw [set_ne (fun h => by rw [h, hb] at hx; rcases he with rfl | rfl <;> simp at hx)]; exact hx
  exact { h with day := { h.day with st := h.day.st.move fun x p c fr hx => hk x p c fr _ (.inl rfl) hx, calls := h.day.calls.move hk, truth := h.day.truth.move fun x p c fr hx => hk x p c fr _ (.inl rfl) hx }, times := h.times.move fun x p c fr hx => hk x p c fr _ (.inl rfl) hx }
theorem HaulIn.num {H : Hp} {n : HN} {v : HV} (h : HaulIn H n v) : NumOk n :=
  ⟨h.day.ok.1, by have := h.day.true.1; have := h.day.few; omega, h.day.true.bnd h.day.ok, fun x hx => by
    have := h.day.ok.2.2.2.2.2.2.1 x hx; have := h.day.ok.2.2.2.1; omega, h.day.ok.2.2.2.2.1⟩

theorem top_spec (main : Bool) (H : Hp) (sa : Option Addr) (sl sc : Nat) (hs : ∀ i : Nat, i < sl → ∃ sb so c e fr x, sa = some ⟨sb, so, none⟩ ∧ H sb = some (false, .cells c e fr) ∧ c[so + i]? = some (.int .i64 x)) :
    FnX Tryd.prog main 3 #[.slice sa sl sc] H fun e _ => e = .returned (.bool true) := by
  refine FnX_start Tryd.func3 rfl Tryd.ntmps3 (by simp) ?_
  repeat' (first
  | (refine wpX_stmtL rfl ?_; intro K hK; simp -implicitDefEqProofs (disch := first | omega | (simp only [qd] <;> omega)) only [xq, ↓xp, qc, Nat.reduceAdd, List.range, List.range.loop, fine, Nat.reduceEqDiff, ↓reduceIte, yielded, reduceCtorEq, Nat.reduceLT, Nat.reduceMul, Nat.reduceSub, one, Nat.reduceLeDiff, runX_cons, y3_52, aq, ↓ap, qe0, qe1, qe2, *, -hK]; try (refine hK _ _ ?_; clear hK K))
  | (refine wpX_lastL rfl ?_; intro K hK; simp -implicitDefEqProofs (disch := first | omega | (simp only [qd] <;> omega)) only [xq, ↓xp, qc, Nat.reduceAdd, List.range, List.range.loop, fine, Nat.reduceEqDiff, ↓reduceIte, yielded, reduceCtorEq, Nat.reduceLT, Nat.reduceMul, Nat.reduceSub, one, Nat.reduceLeDiff, runX_cons, y3_52, aq, ↓ap, qe0, qe1, qe2, *, -hK]; try (refine hK _ _ ?_; clear hK K; (try simp only [nq, ↓reduceIte, Nat.reduceEqDiff])))
  | (refine wpX_skip ?_; (try simp only [nq, ↓reduceIte, Nat.reduceEqDiff]))
  | (refine wpX_label ?_; (try simp only [nq, ↓reduceIte, Nat.reduceEqDiff]))
  | (refine wpX_exit ?_; (try simp only [nq, ↓reduceIte, Nat.reduceEqDiff]))
  | (refine wpX_goto ?_; (try simp only [nq, ↓reduceIte, Nat.reduceEqDiff]))
  | (refine wpX_condK (by simp only [act_eval, upd_get, Nat.reduceEqDiff, Nat.reduceLT, ↓reduceIte, *]; rfl) ?_ ?_ <;> (intro hc; first | (exfalso; simp -implicitDefEqProofs (disch := omega) only [*, bq, reduceCtorEq] at hc; done) | (simp only [dq, qe3, qe4, qe5, qe6] at hc) | skip))
  | (refine wpX_scope0 ?_)
  | (refine wpX_block ?_)
  | (refine wpX_seq ?_))
  refine (newTin_spec main H sa sl sc hs 200 (by omega)).runs.mono ?_
  rintro _ H1 ⟨tb, rfl, l1, hT⟩
  (try simp -implicitDefEqProofs (disch := first | omega | (simp only [qd] <;> omega)) only [xq, ↓xp, qc, Nat.reduceAdd, List.range, List.range.loop, fine, Nat.reduceEqDiff, ↓reduceIte, yielded, reduceCtorEq, Nat.reduceLT, Nat.reduceMul, Nat.reduceSub, one, Nat.reduceLeDiff, runX_cons, y3_52, aq, ↓ap, qe0, qe1, qe2, *, -hK]); try (refine hK _ _ ?_; clear hK K; (try simp only [nq, ↓reduceIte, Nat.reduceEqDiff])); repeat' (first
  | (refine wpX_stmtL rfl ?_; intro K hK; simp -implicitDefEqProofs (disch := first | omega | (simp only [qd] <;> omega)) only [xq, ↓xp, qc, Nat.reduceAdd, List.range, List.range.loop, fine, Nat.reduceEqDiff, ↓reduceIte, yielded, reduceCtorEq, Nat.reduceLT, Nat.reduceMul, Nat.reduceSub, one, Nat.reduceLeDiff, runX_cons, y3_52, aq, ↓ap, qe0, qe1, qe2, *, -hK]; try (refine hK _ _ ?_; clear hK K))
  | (refine wpX_lastL rfl ?_; intro K hK; simp -implicitDefEqProofs (disch := first | omega | (simp only [qd] <;> omega)) only [xq, ↓xp, qc, Nat.reduceAdd, List.range, List.range.loop, fine, Nat.reduceEqDiff, ↓reduceIte, yielded, reduceCtorEq, Nat.reduceLT, Nat.reduceMul, Nat.reduceSub, one, Nat.reduceLeDiff, runX_cons, y3_52, aq, ↓ap, qe0, qe1, qe2, *, -hK]; try (refine hK _ _ ?_; clear hK K; (try simp only [nq, ↓reduceIte, Nat.reduceEqDiff])))
  | (refine wpX_skip ?_; (try simp only [nq, ↓reduceIte, Nat.reduceEqDiff]))
  | (refine wpX_label ?_; (try simp only [nq, ↓reduceIte, Nat.reduceEqDiff]))
  | (refine wpX_exit ?_; (try simp only [nq, ↓reduceIte, Nat.reduceEqDiff]))
  | (refine wpX_goto ?_; (try simp only [nq, ↓reduceIte, Nat.reduceEqDiff]))
  | (refine wpX_condK (by simp only [act_eval, upd_get, Nat.reduceEqDiff, Nat.reduceLT, ↓reduceIte, *]; rfl) ?_ ?_ <;> (intro hc; first | (exfalso; simp -implicitDefEqProofs (disch := omega) only [*, bq, reduceCtorEq] at hc; done) | (simp only [dq, qe3, qe4, qe5, qe6] at hc) | skip))
  | (refine wpX_scope0 ?_)
  | (refine wpX_block ?_)
  | (refine wpX_seq ?_))
  refine (haulOf_spec main H1 tb 0 hT).runs.mono ?_
  rintro _ H2 ⟨places, pieces, st, start, cv, xss, tv, ts, rule, xv, xs, notice, load, barrows, lo, hi, rfl, hst, hcv, htv, hxv, hvo, hl7, htr, hto, n0, n30, lo1, lo3, b1, b4, t1, t2, t20, _, _⟩
  obtain ⟨sta, stn, stc, rfl⟩ := hst.isSlice
  obtain ⟨cva, cvn, cvc, rfl⟩ := hcv.isSlice
  obtain ⟨tva, tvn, tvc, rfl⟩ := htv.isSlice
  obtain ⟨xva, xvn, xvc, rfl⟩ := hxv.isSlice
  have hd2 : HaulIn H2 ⟨places, pieces, 0, notice, load, barrows, lo, hi, start, xss, ts, xs⟩ ⟨_, _, _, _⟩ :=
    { day := ⟨hst, hcv, htv, hvo, Nat.le_succ_of_le hl7, htr⟩, times := hxv, ok := hto, r0 := by simp, r3 := by simp, n0 := n0, n30 := n30, l1 := lo1, l3 := lo3, b1 := b1, b4 := b4, t1 := t1, t2 := t2, t20 := t20 }
  clear hst hcv htv hxv hvo htr hto hT hs l1
  (try simp -implicitDefEqProofs (disch := first | omega | (simp only [qd] <;> omega)) only [xq, ↓xp, qc, Nat.reduceAdd, List.range, List.range.loop, fine, Nat.reduceEqDiff, ↓reduceIte, yielded, reduceCtorEq, Nat.reduceLT, Nat.reduceMul, Nat.reduceSub, one, Nat.reduceLeDiff, runX_cons, y3_52, aq, ↓ap, qe0, qe1, qe2, *, -hK]); try (refine hK _ _ ?_; clear hK K; (try simp only [nq, ↓reduceIte, Nat.reduceEqDiff])); repeat' (first
  | (refine wpX_stmtL rfl ?_; intro K hK; simp -implicitDefEqProofs (disch := first | omega | (simp only [qd] <;> omega)) only [xq, ↓xp, qc, Nat.reduceAdd, List.range, List.range.loop, fine, Nat.reduceEqDiff, ↓reduceIte, yielded, reduceCtorEq, Nat.reduceLT, Nat.reduceMul, Nat.reduceSub, one, Nat.reduceLeDiff, runX_cons, y3_52, aq, ↓ap, qe0, qe1, qe2, *, -hK]; try (refine hK _ _ ?_; clear hK K))
  | (refine wpX_lastL rfl ?_; intro K hK; simp -implicitDefEqProofs (disch := first | omega | (simp only [qd] <;> omega)) only [xq, ↓xp, qc, Nat.reduceAdd, List.range, List.range.loop, fine, Nat.reduceEqDiff, ↓reduceIte, yielded, reduceCtorEq, Nat.reduceLT, Nat.reduceMul, Nat.reduceSub, one, Nat.reduceLeDiff, runX_cons, y3_52, aq, ↓ap, qe0, qe1, qe2, *, -hK]; try (refine hK _ _ ?_; clear hK K; (try simp only [nq, ↓reduceIte, Nat.reduceEqDiff])))
  | (refine wpX_skip ?_; (try simp only [nq, ↓reduceIte, Nat.reduceEqDiff]))
  | (refine wpX_label ?_; (try simp only [nq, ↓reduceIte, Nat.reduceEqDiff]))
  | (refine wpX_exit ?_; (try simp only [nq, ↓reduceIte, Nat.reduceEqDiff]))
  | (refine wpX_goto ?_; (try simp only [nq, ↓reduceIte, Nat.reduceEqDiff]))
  | (refine wpX_condK (by simp only [act_eval, upd_get, Nat.reduceEqDiff, Nat.reduceLT, ↓reduceIte, *]; rfl) ?_ ?_ <;> (intro hc; first | (exfalso; simp -implicitDefEqProofs (disch := omega) only [*, bq, reduceCtorEq] at hc; done) | (simp only [dq, qe3, qe4, qe5, qe6] at hc) | skip))
  | (refine wpX_scope0 ?_)
  | (refine wpX_block ?_)
  | (refine wpX_seq ?_))
  (intro hb hhb; generalize hG : Hp.set _ hb _ = H3; have lH3 := le_of_set hG hhb; have vhb := at_of_set hG; clear hG)
  have hd3 := hd2.le lH3
  clear hd2 lH3 hhb
  (try simp -implicitDefEqProofs (disch := first | omega | (simp only [qd] <;> omega)) only [xq, ↓xp, qc, Nat.reduceAdd, List.range, List.range.loop, fine, Nat.reduceEqDiff, ↓reduceIte, yielded, reduceCtorEq, Nat.reduceLT, Nat.reduceMul, Nat.reduceSub, one, Nat.reduceLeDiff, runX_cons, y3_52, aq, ↓ap, qe0, qe1, qe2, *, -hK]); try (refine hK _ _ ?_; clear hK K; (try simp only [nq, ↓reduceIte, Nat.reduceEqDiff])); repeat' (first
  | (refine wpX_stmtL rfl ?_; intro K hK; simp -implicitDefEqProofs (disch := first | omega | (simp only [qd] <;> omega)) only [xq, ↓xp, qc, Nat.reduceAdd, List.range, List.range.loop, fine, Nat.reduceEqDiff, ↓reduceIte, yielded, reduceCtorEq, Nat.reduceLT, Nat.reduceMul, Nat.reduceSub, one, Nat.reduceLeDiff, runX_cons, y3_52, aq, ↓ap, qe0, qe1, qe2, *, -hK]; try (refine hK _ _ ?_; clear hK K))
  | (refine wpX_lastL rfl ?_; intro K hK; simp -implicitDefEqProofs (disch := first | omega | (simp only [qd] <;> omega)) only [xq, ↓xp, qc, Nat.reduceAdd, List.range, List.range.loop, fine, Nat.reduceEqDiff, ↓reduceIte, yielded, reduceCtorEq, Nat.reduceLT, Nat.reduceMul, Nat.reduceSub, one, Nat.reduceLeDiff, runX_cons, y3_52, aq, ↓ap, qe0, qe1, qe2, *, -hK]; try (refine hK _ _ ?_; clear hK K; (try simp only [nq, ↓reduceIte, Nat.reduceEqDiff])))
  | (refine wpX_skip ?_; (try simp only [nq, ↓reduceIte, Nat.reduceEqDiff]))
  | (refine wpX_label ?_; (try simp only [nq, ↓reduceIte, Nat.reduceEqDiff]))
  | (refine wpX_exit ?_; (try simp only [nq, ↓reduceIte, Nat.reduceEqDiff]))
  | (refine wpX_goto ?_; (try simp only [nq, ↓reduceIte, Nat.reduceEqDiff]))
  | (refine wpX_condK (by simp only [act_eval, upd_get, Nat.reduceEqDiff, Nat.reduceLT, ↓reduceIte, *]; rfl) ?_ ?_ <;> (intro hc; first | (exfalso; simp -implicitDefEqProofs (disch := omega) only [*, bq, reduceCtorEq] at hc; done) | (simp only [dq, qe3, qe4, qe5, qe6] at hc) | skip))
  | (refine wpX_scope0 ?_)
  | (refine wpX_block ?_)
  | (refine wpX_seq ?_))
  refine (best_spec main H3 places pieces _ _ _ start xss ts hd3.day).runs.mono ?_
  rintro _ H4 ⟨bv, rfl, _, l4⟩
  have hd4 := hd3.le l4
  have vhb4 := l4 _ _ vhb
  have hopt : optF ts.length places ts (oOf start) ≤ ts.length := optF_len _ _ hd4.num.pl _ _ (Nat.le_refl _)
  have ht8 : ts.length ≤ 8 := hd4.num.t8
  clear hd3 vhb l4
  have hjobs : ∀ r, optF ts.length places ts (oOf start) ≤ (HN.mk places pieces r notice load barrows lo hi start xss ts xs).jobs.length ∧ (r = 3 → (HN.mk places pieces r notice load barrows lo hi start xss ts xs).jobs.length = optF ts.length places ts (oOf start)) ∧ ∀ j ∈ (HN.mk places pieces r notice load barrows lo hi start xss ts xs).jobs, 0 ≤ j ∧ j < ts.length := fun r =>
    have hno : NumOk (HN.mk places pieces r notice load barrows lo hi start xss ts xs) := { hd4.num with }
    ⟨jobs_least _ hno, fun hr => jobs_late _ hno hr, (HN.jobs_run _ hno).2⟩
  have hjl : ∀ r, (HN.mk places pieces r notice load barrows lo hi start xss ts xs).jobs.length ≤ 1000 := fun r => by
    have hno : NumOk (HN.mk places pieces r notice load barrows lo hi start xss ts xs) := { hd4.num with }
    exact Nat.le_trans (nhS_len ts (HN.mk places pieces r notice load barrows lo hi start xss ts xs).sents start ts.length).2 (by omega)
  generalize optF ts.length places ts (oOf start) = opt at *
  (try simp -implicitDefEqProofs (disch := first | omega | (simp only [qd] <;> omega)) only [xq, ↓xp, qc, Nat.reduceAdd, List.range, List.range.loop, fine, Nat.reduceEqDiff, ↓reduceIte, yielded, reduceCtorEq, Nat.reduceLT, Nat.reduceMul, Nat.reduceSub, one, Nat.reduceLeDiff, runX_cons, y3_52, aq, ↓ap, qe0, qe1, qe2, *, -hK]); try (refine hK _ _ ?_; clear hK K; (try simp only [nq, ↓reduceIte, Nat.reduceEqDiff])); repeat' (first
  | (refine wpX_stmtL rfl ?_; intro K hK; simp -implicitDefEqProofs (disch := first | omega | (simp only [qd] <;> omega)) only [xq, ↓xp, qc, Nat.reduceAdd, List.range, List.range.loop, fine, Nat.reduceEqDiff, ↓reduceIte, yielded, reduceCtorEq, Nat.reduceLT, Nat.reduceMul, Nat.reduceSub, one, Nat.reduceLeDiff, runX_cons, y3_52, aq, ↓ap, qe0, qe1, qe2, *, -hK]; try (refine hK _ _ ?_; clear hK K))
  | (refine wpX_lastL rfl ?_; intro K hK; simp -implicitDefEqProofs (disch := first | omega | (simp only [qd] <;> omega)) only [xq, ↓xp, qc, Nat.reduceAdd, List.range, List.range.loop, fine, Nat.reduceEqDiff, ↓reduceIte, yielded, reduceCtorEq, Nat.reduceLT, Nat.reduceMul, Nat.reduceSub, one, Nat.reduceLeDiff, runX_cons, y3_52, aq, ↓ap, qe0, qe1, qe2, *, -hK]; try (refine hK _ _ ?_; clear hK K; (try simp only [nq, ↓reduceIte, Nat.reduceEqDiff])))
  | (refine wpX_skip ?_; (try simp only [nq, ↓reduceIte, Nat.reduceEqDiff]))
  | (refine wpX_label ?_; (try simp only [nq, ↓reduceIte, Nat.reduceEqDiff]))
  | (refine wpX_exit ?_; (try simp only [nq, ↓reduceIte, Nat.reduceEqDiff]))
  | (refine wpX_goto ?_; (try simp only [nq, ↓reduceIte, Nat.reduceEqDiff]))
  | (refine wpX_condK (by simp only [act_eval, upd_get, Nat.reduceEqDiff, Nat.reduceLT, ↓reduceIte, *]; rfl) ?_ ?_ <;> (intro hc; first | (exfalso; simp -implicitDefEqProofs (disch := omega) only [*, bq, reduceCtorEq] at hc; done) | (simp only [dq, qe3, qe4, qe5, qe6] at hc) | skip))
  | (refine wpX_scope0 ?_)
  | (refine wpX_block ?_)
  | (refine wpX_seq ?_))
  refine wpX_loop (fun w a' H' => ∃ e j R, w = 5 - j ∧ j ≤ 4 ∧ a' = act 83 e [] ∧ e 3 = .pointer (some ⟨hb, 0, none⟩) ∧ e 5 = .int .i64 opt ∧ e 7 = .int .i64 (j : Nat) ∧ H' hb = some (true, .cells #[.int .i64 places, .int .i64 pieces, .slice sta stn stc, .slice cva cvn cvc, .slice tva tvn tvc, .int .i64 R, .slice xva xvn xvc, .int .i64 notice, .int .i64 load, .int .i64 barrows, .int .i64 lo, .int .i64 hi] 29 (0, 0)) ∧ HaulIn H' ⟨places, pieces, 0, notice, load, barrows, lo, hi, start, xss, ts, xs⟩ ⟨.slice sta stn stc, .slice cva cvn cvc, .slice tva tvn tvc, .slice xva xvn xvc⟩) (n := 5) ?_ ?_
  · exact ⟨_, 0, rule, by omega, by omega, rfl, rfl, rfl, rfl, vhb4, hd4⟩
  · clear hd4 vhb4
    rintro w a' H5 ⟨e, j, R, rfl, hj, rfl, e3, e5, e7, vhb5, hd5⟩
    by_cases hj4 : j < 4
    · repeat' (first
  | (refine wpX_stmtL rfl ?_; intro K hK; simp -implicitDefEqProofs (disch := first | omega | (simp only [qd] <;> omega)) only [xq, ↓xp, qc, Nat.reduceAdd, List.range, List.range.loop, fine, Nat.reduceEqDiff, ↓reduceIte, yielded, reduceCtorEq, Nat.reduceLT, Nat.reduceMul, Nat.reduceSub, one, Nat.reduceLeDiff, runX_cons, y3_52, aq, ↓ap, qe0, qe1, qe2, *, -hK]; try (refine hK _ _ ?_; clear hK K))
  | (refine wpX_lastL rfl ?_; intro K hK; simp -implicitDefEqProofs (disch := first | omega | (simp only [qd] <;> omega)) only [xq, ↓xp, qc, Nat.reduceAdd, List.range, List.range.loop, fine, Nat.reduceEqDiff, ↓reduceIte, yielded, reduceCtorEq, Nat.reduceLT, Nat.reduceMul, Nat.reduceSub, one, Nat.reduceLeDiff, runX_cons, y3_52, aq, ↓ap, qe0, qe1, qe2, *, -hK]; try (refine hK _ _ ?_; clear hK K; (try simp only [nq, ↓reduceIte, Nat.reduceEqDiff])))
  | (refine wpX_skip ?_; (try simp only [nq, ↓reduceIte, Nat.reduceEqDiff]))
  | (refine wpX_label ?_; (try simp only [nq, ↓reduceIte, Nat.reduceEqDiff]))
  | (refine wpX_exit ?_; (try simp only [nq, ↓reduceIte, Nat.reduceEqDiff]))
  | (refine wpX_goto ?_; (try simp only [nq, ↓reduceIte, Nat.reduceEqDiff]))
  | (refine wpX_condK (by simp only [act_eval, upd_get, Nat.reduceEqDiff, Nat.reduceLT, ↓reduceIte, *]; rfl) ?_ ?_ <;> (intro hc; first | (exfalso; simp -implicitDefEqProofs (disch := omega) only [*, bq, reduceCtorEq] at hc; done) | (simp only [dq, qe3, qe4, qe5, qe6] at hc) | skip))
  | (refine wpX_scope0 ?_)
  | (refine wpX_block ?_)
  | (refine wpX_seq ?_))
      generalize hG : Hp.set H5 hb _ = H6
      have vhb6 := at_of_set hG
      have hd6 : HaulIn H6 (HN.mk places pieces j notice load barrows lo hi start xss ts xs) ⟨.slice sta stn stc, .slice cva cvn cvc, .slice tva tvn tvc, .slice xva xvn xvc⟩ := by
        have := hG ▸ hd5.put vhb5
        exact { this with r0 := by simp only []; omega, r3 := by simp only []; omega }
      clear hG vhb5 hd5
      have hjs := jobs_spec main H6 _ _ hd6
      simp only [HN.agg] at hjs
      refine hjs.runs.mono ?_
      rintro _ H7 ⟨jv, rfl, l7, hjv⟩
      obtain ⟨hj1, hj2, hj3⟩ := hjobs j
      have hj5 := hjl j
      have hd7 := hd6.le l7
      have vhb7 := l7 _ _ vhb6
      clear hjs hd6 vhb6 l7
      obtain ⟨jva, jvc, rfl, _, _⟩ := id hjv
      have hxj : ∀ bs nn, (HN.mk places pieces j nn load bs lo hi start xss ts xs).jobs = (HN.mk places pieces j notice load barrows lo hi start xss ts xs).jobs := fun _ _ => rfl
      generalize hN : (HN.mk places pieces j notice load barrows lo hi start xss ts xs).jobs = N at *
      have hj2' : j = 3 → N.length ≤ opt := fun h => by have := hj2 (by omega); omega
      clear hj2 hN
      (try simp -implicitDefEqProofs (disch := first | omega | (simp only [qd] <;> omega)) only [xq, ↓xp, qc, Nat.reduceAdd, List.range, List.range.loop, fine, Nat.reduceEqDiff, ↓reduceIte, yielded, reduceCtorEq, Nat.reduceLT, Nat.reduceMul, Nat.reduceSub, one, Nat.reduceLeDiff, runX_cons, y3_52, aq, ↓ap, qe0, qe1, qe2, *, -hK]); try (refine hK _ _ ?_; clear hK K; (try simp only [nq, ↓reduceIte, Nat.reduceEqDiff])); repeat' (first
  | (refine wpX_stmtL rfl ?_; intro K hK; simp -implicitDefEqProofs (disch := first | omega | (simp only [qd] <;> omega)) only [xq, ↓xp, qc, Nat.reduceAdd, List.range, List.range.loop, fine, Nat.reduceEqDiff, ↓reduceIte, yielded, reduceCtorEq, Nat.reduceLT, Nat.reduceMul, Nat.reduceSub, one, Nat.reduceLeDiff, runX_cons, y3_52, aq, ↓ap, qe0, qe1, qe2, *, -hK]; try (refine hK _ _ ?_; clear hK K))
  | (refine wpX_lastL rfl ?_; intro K hK; simp -implicitDefEqProofs (disch := first | omega | (simp only [qd] <;> omega)) only [xq, ↓xp, qc, Nat.reduceAdd, List.range, List.range.loop, fine, Nat.reduceEqDiff, ↓reduceIte, yielded, reduceCtorEq, Nat.reduceLT, Nat.reduceMul, Nat.reduceSub, one, Nat.reduceLeDiff, runX_cons, y3_52, aq, ↓ap, qe0, qe1, qe2, *, -hK]; try (refine hK _ _ ?_; clear hK K; (try simp only [nq, ↓reduceIte, Nat.reduceEqDiff])))
  | (refine wpX_skip ?_; (try simp only [nq, ↓reduceIte, Nat.reduceEqDiff]))
  | (refine wpX_label ?_; (try simp only [nq, ↓reduceIte, Nat.reduceEqDiff]))
  | (refine wpX_exit ?_; (try simp only [nq, ↓reduceIte, Nat.reduceEqDiff]))
  | (refine wpX_goto ?_; (try simp only [nq, ↓reduceIte, Nat.reduceEqDiff]))
  | (refine wpX_condK (by simp only [act_eval, upd_get, Nat.reduceEqDiff, Nat.reduceLT, ↓reduceIte, *]; rfl) ?_ ?_ <;> (intro hc; first | (exfalso; simp -implicitDefEqProofs (disch := omega) only [*, bq, reduceCtorEq] at hc; done) | (simp only [dq, qe3, qe4, qe5, qe6] at hc) | skip)))
      refine wpX_cut (fun a' H' => ∃ e, a' = act 83 e [] ∧ H' = H7 ∧ e 3 = .pointer (some ⟨hb, 0, none⟩) ∧ e 5 = .int .i64 opt ∧ e 7 = .int .i64 (j : Nat) ∧ e 8 = .slice jva N.length jvc) ?_ ?_
      · by_cases h3 : j = 3
        · have hj2 := hj2' h3
          subst h3
          repeat' (first
  | (refine wpX_stmtL rfl ?_; intro K hK; simp -implicitDefEqProofs (disch := first | omega | (simp only [qd] <;> omega)) only [xq, ↓xp, qc, Nat.reduceAdd, List.range, List.range.loop, fine, Nat.reduceEqDiff, ↓reduceIte, yielded, reduceCtorEq, Nat.reduceLT, Nat.reduceMul, Nat.reduceSub, one, Nat.reduceLeDiff, runX_cons, y3_52, aq, ↓ap, qe0, qe1, qe2, *, -hK]; try (refine hK _ _ ?_; clear hK K))
  | (refine wpX_lastL rfl ?_; intro K hK; simp -implicitDefEqProofs (disch := first | omega | (simp only [qd] <;> omega)) only [xq, ↓xp, qc, Nat.reduceAdd, List.range, List.range.loop, fine, Nat.reduceEqDiff, ↓reduceIte, yielded, reduceCtorEq, Nat.reduceLT, Nat.reduceMul, Nat.reduceSub, one, Nat.reduceLeDiff, runX_cons, y3_52, aq, ↓ap, qe0, qe1, qe2, *, -hK]; try (refine hK _ _ ?_; clear hK K; (try simp only [nq, ↓reduceIte, Nat.reduceEqDiff])))
  | (refine wpX_skip ?_; (try simp only [nq, ↓reduceIte, Nat.reduceEqDiff]))
  | (refine wpX_label ?_; (try simp only [nq, ↓reduceIte, Nat.reduceEqDiff]))
  | (refine wpX_exit ?_; (try simp only [nq, ↓reduceIte, Nat.reduceEqDiff]))
  | (refine wpX_goto ?_; (try simp only [nq, ↓reduceIte, Nat.reduceEqDiff]))
  | (refine wpX_condK (by simp only [act_eval, upd_get, Nat.reduceEqDiff, Nat.reduceLT, ↓reduceIte, *]; rfl) ?_ ?_ <;> (intro hc; first | (exfalso; simp -implicitDefEqProofs (disch := omega) only [*, bq, reduceCtorEq] at hc; done) | (simp only [dq, qe3, qe4, qe5, qe6] at hc) | skip))
  | (refine wpX_scope0 ?_)
  | (refine wpX_block ?_)
  | (refine wpX_seq ?_))
          all_goals exact ⟨_, rfl, by trivial, e3, e5, e7, rfl⟩
        · clear hj2'
          repeat' (first
  | (refine wpX_stmtL rfl ?_; intro K hK; simp -implicitDefEqProofs (disch := first | omega | (simp only [qd] <;> omega)) only [xq, ↓xp, qc, Nat.reduceAdd, List.range, List.range.loop, fine, Nat.reduceEqDiff, ↓reduceIte, yielded, reduceCtorEq, Nat.reduceLT, Nat.reduceMul, Nat.reduceSub, one, Nat.reduceLeDiff, runX_cons, y3_52, aq, ↓ap, qe0, qe1, qe2, *, -hK]; try (refine hK _ _ ?_; clear hK K))
  | (refine wpX_lastL rfl ?_; intro K hK; simp -implicitDefEqProofs (disch := first | omega | (simp only [qd] <;> omega)) only [xq, ↓xp, qc, Nat.reduceAdd, List.range, List.range.loop, fine, Nat.reduceEqDiff, ↓reduceIte, yielded, reduceCtorEq, Nat.reduceLT, Nat.reduceMul, Nat.reduceSub, one, Nat.reduceLeDiff, runX_cons, y3_52, aq, ↓ap, qe0, qe1, qe2, *, -hK]; try (refine hK _ _ ?_; clear hK K; (try simp only [nq, ↓reduceIte, Nat.reduceEqDiff])))
  | (refine wpX_skip ?_; (try simp only [nq, ↓reduceIte, Nat.reduceEqDiff]))
  | (refine wpX_label ?_; (try simp only [nq, ↓reduceIte, Nat.reduceEqDiff]))
  | (refine wpX_exit ?_; (try simp only [nq, ↓reduceIte, Nat.reduceEqDiff]))
  | (refine wpX_goto ?_; (try simp only [nq, ↓reduceIte, Nat.reduceEqDiff]))
  | (refine wpX_condK (by simp only [act_eval, upd_get, Nat.reduceEqDiff, Nat.reduceLT, ↓reduceIte, *]; rfl) ?_ ?_ <;> (intro hc; first | (exfalso; simp -implicitDefEqProofs (disch := omega) only [*, bq, reduceCtorEq] at hc; done) | (simp only [dq, qe3, qe4, qe5, qe6] at hc) | skip))
  | (refine wpX_scope0 ?_)
  | (refine wpX_block ?_)
  | (refine wpX_seq ?_))
          all_goals exact ⟨_, rfl, by trivial, e3, e5, e7, rfl⟩
      · clear e3 e5 e7 hj2'
        rintro a' H' ⟨e, rfl, hH, e3, e5, e7, e8⟩
        rw [hH]; clear hH H'
        by_cases hN4 : N.length ≤ 4
        · repeat' (first
  | (refine wpX_stmtL rfl ?_; intro K hK; simp -implicitDefEqProofs (disch := first | omega | (simp only [qd] <;> omega)) only [xq, ↓xp, qc, Nat.reduceAdd, List.range, List.range.loop, fine, Nat.reduceEqDiff, ↓reduceIte, yielded, reduceCtorEq, Nat.reduceLT, Nat.reduceMul, Nat.reduceSub, one, Nat.reduceLeDiff, runX_cons, y3_52, aq, ↓ap, qe0, qe1, qe2, *, -hK]; try (refine hK _ _ ?_; clear hK K))
  | (refine wpX_lastL rfl ?_; intro K hK; simp -implicitDefEqProofs (disch := first | omega | (simp only [qd] <;> omega)) only [xq, ↓xp, qc, Nat.reduceAdd, List.range, List.range.loop, fine, Nat.reduceEqDiff, ↓reduceIte, yielded, reduceCtorEq, Nat.reduceLT, Nat.reduceMul, Nat.reduceSub, one, Nat.reduceLeDiff, runX_cons, y3_52, aq, ↓ap, qe0, qe1, qe2, *, -hK]; try (refine hK _ _ ?_; clear hK K; (try simp only [nq, ↓reduceIte, Nat.reduceEqDiff])))
  | (refine wpX_skip ?_; (try simp only [nq, ↓reduceIte, Nat.reduceEqDiff]))
  | (refine wpX_label ?_; (try simp only [nq, ↓reduceIte, Nat.reduceEqDiff]))
  | (refine wpX_exit ?_; (try simp only [nq, ↓reduceIte, Nat.reduceEqDiff]))
  | (refine wpX_goto ?_; (try simp only [nq, ↓reduceIte, Nat.reduceEqDiff]))
  | (refine wpX_condK (by simp only [act_eval, upd_get, Nat.reduceEqDiff, Nat.reduceLT, ↓reduceIte, *]; rfl) ?_ ?_ <;> (intro hc; first | (exfalso; simp -implicitDefEqProofs (disch := omega) only [*, bq, reduceCtorEq] at hc; done) | (simp only [dq, qe3, qe4, qe5, qe6] at hc) | skip))
  | (refine wpX_scope0 ?_)
  | (refine wpX_block ?_)
  | (refine wpX_seq ?_))
          (intro xb hxb; generalize hG : Hp.set _ xb _ = H8; have lH8 := le_of_set hG hxb; have vxb := at_of_set hG; clear hG)
          have vhb8 := lH8 _ _ vhb7
          have nhx : hb ≠ xb := ne_new vhb7 hxb
          have hd8 := hd7.le lH8
          clear hd7 vhb7 lH8 hxb hjv
          (try simp -implicitDefEqProofs (disch := first | omega | (simp only [qd] <;> omega)) only [xq, ↓xp, qc, Nat.reduceAdd, List.range, List.range.loop, fine, Nat.reduceEqDiff, ↓reduceIte, yielded, reduceCtorEq, Nat.reduceLT, Nat.reduceMul, Nat.reduceSub, one, Nat.reduceLeDiff, runX_cons, y3_52, aq, ↓ap, qe0, qe1, qe2, *, -hK]); try (refine hK _ _ ?_; clear hK K; (try simp only [nq, ↓reduceIte, Nat.reduceEqDiff])); repeat' (first
  | (refine wpX_stmtL rfl ?_; intro K hK; simp -implicitDefEqProofs (disch := first | omega | (simp only [qd] <;> omega)) only [xq, ↓xp, qc, Nat.reduceAdd, List.range, List.range.loop, fine, Nat.reduceEqDiff, ↓reduceIte, yielded, reduceCtorEq, Nat.reduceLT, Nat.reduceMul, Nat.reduceSub, one, Nat.reduceLeDiff, runX_cons, y3_52, aq, ↓ap, qe0, qe1, qe2, *, -hK]; try (refine hK _ _ ?_; clear hK K))
  | (refine wpX_lastL rfl ?_; intro K hK; simp -implicitDefEqProofs (disch := first | omega | (simp only [qd] <;> omega)) only [xq, ↓xp, qc, Nat.reduceAdd, List.range, List.range.loop, fine, Nat.reduceEqDiff, ↓reduceIte, yielded, reduceCtorEq, Nat.reduceLT, Nat.reduceMul, Nat.reduceSub, one, Nat.reduceLeDiff, runX_cons, y3_52, aq, ↓ap, qe0, qe1, qe2, *, -hK]; try (refine hK _ _ ?_; clear hK K; (try simp only [nq, ↓reduceIte, Nat.reduceEqDiff])))
  | (refine wpX_skip ?_; (try simp only [nq, ↓reduceIte, Nat.reduceEqDiff]))
  | (refine wpX_label ?_; (try simp only [nq, ↓reduceIte, Nat.reduceEqDiff]))
  | (refine wpX_exit ?_; (try simp only [nq, ↓reduceIte, Nat.reduceEqDiff]))
  | (refine wpX_goto ?_; (try simp only [nq, ↓reduceIte, Nat.reduceEqDiff]))
  | (refine wpX_condK (by simp only [act_eval, upd_get, Nat.reduceEqDiff, Nat.reduceLT, ↓reduceIte, *]; rfl) ?_ ?_ <;> (intro hc; first | (exfalso; simp -implicitDefEqProofs (disch := omega) only [*, bq, reduceCtorEq] at hc; done) | (simp only [dq, qe3, qe4, qe5, qe6] at hc) | skip))
  | (refine wpX_scope0 ?_)
  | (refine wpX_block ?_)
  | (refine wpX_seq ?_))
          refine wpX_dlast (fun HX => HX hb = some (true, .cells #[.int .i64 places, .int .i64 pieces, .slice sta stn stc, .slice cva cvn cvc, .slice tva tvn tvc, .int .i64 j, .slice xva xvn xvc, .int .i64 notice, .int .i64 load, .int .i64 barrows, .int .i64 lo, .int .i64 hi] 29 (0, 0)) ∧ True) 9 [(true, 0), (true, 1), (true, 2), (true, 3), (true, 4), (true, 5), (true, 6), (false, 7), (true, 8), (false, 9)] (by kernel_rfl) (by kernel_rfl) (by simp) (by kernel_rfl) ?_; intro K hK
          (iterate 7 (apply plan_takeS rfl rfl rfl (by exact ⟨vhb8, trivial⟩); (focus (intro HX hHX; have hX1 := hHX.1; have hX2 := hHX.2; clear hHX; simp -implicitDefEqProofs (disch := first | omega | (simp only [qd] <;> omega)) only [xq, ↓xp, qc, Nat.reduceAdd, List.range, List.range.loop, fine, Nat.reduceEqDiff, ↓reduceIte, yielded, reduceCtorEq, Nat.reduceLT, Nat.reduceMul, Nat.reduceSub, one, Nat.reduceLeDiff, runX_cons, y3_52, aq, ↓ap, qe0, qe1, qe2, *, -hK, YN_value] <;> (first | exact rfl | exact ⟨rfl, rfl⟩ | exact ⟨rfl, trivial⟩))); simp -implicitDefEqProofs (disch := first | omega | (simp only [qd] <;> omega)) only [act_put, act_put_none]))
          refine planX_act ?_
          simp -implicitDefEqProofs (disch := first | omega | (simp only [qd] <;> omega)) only [xq, ↓xp, qc, Nat.reduceAdd, List.range, List.range.loop, fine, Nat.reduceEqDiff, ↓reduceIte, yielded, reduceCtorEq, Nat.reduceLT, Nat.reduceMul, Nat.reduceSub, one, Nat.reduceLeDiff, runX_cons, y3_52, aq, ↓ap, qe0, qe1, qe2, *, -hK]
          generalize hG : Hp.set H8 xb _ = H9
          have vhb9 := other_of_set hG vhb8 nhx
          have vxb9 := at_of_set hG
          have hd9 := hG ▸ hd8.put vxb
          clear hG vxb hd8 vhb8
          refine ⟨.inr trivial, ?_⟩
          (apply plan_takeB rfl rfl rfl ‹_›; (focus (intro HX hHX; simp -implicitDefEqProofs (disch := first | omega | (simp only [qd] <;> omega)) only [xq, ↓xp, qc, Nat.reduceAdd, List.range, List.range.loop, fine, Nat.reduceEqDiff, ↓reduceIte, yielded, reduceCtorEq, Nat.reduceLT, Nat.reduceMul, Nat.reduceSub, one, Nat.reduceLeDiff, runX_cons, y3_52, aq, ↓ap, qe0, qe1, qe2, *, -hK, YN_value] <;> (first | exact rfl | exact ⟨rfl, rfl⟩ | exact ⟨rfl, trivial⟩))); simp -implicitDefEqProofs (disch := first | omega | (simp only [qd] <;> omega)) only [act_put, act_put_none])
          refine planX_act ?_
          simp -implicitDefEqProofs (disch := first | omega | (simp only [qd] <;> omega)) only [xq, ↓xp, qc, Nat.reduceAdd, List.range, List.range.loop, fine, Nat.reduceEqDiff, ↓reduceIte, yielded, reduceCtorEq, Nat.reduceLT, Nat.reduceMul, Nat.reduceSub, one, Nat.reduceLeDiff, runX_cons, y3_52, aq, ↓ap, qe0, qe1, qe2, *, -hK]
          refine ⟨by simp, plan_nil (hK _ _ ?_)⟩
          clear hK K
          (try simp only [nq, ↓reduceIte, Nat.reduceEqDiff])
          generalize hG : Hp.set H9 xb _ = H10
          have vhb10 := other_of_set hG vhb9 nhx
          have vxb10 := at_of_set hG
          have hd10 := hG ▸ hd9.put vxb9
          clear hG vxb9 hd9 vhb9
          have hnn : (if notice < hi then hi else notice) ≤ 30 ∧ hi ≤ (if notice < hi then hi else notice) := by split <;> omega
          have hdx : HaulIn H10 (HN.mk places pieces j (if notice < hi then hi else notice) load 4 lo hi start xss ts xs) ⟨.slice sta stn stc, .slice cva cvn cvc, .slice tva tvn tvc, .slice xva xvn xvc⟩ :=
            { hd10 with n0 := by simp only []; omega, n30 := hnn.1, b1 := by simp, b4 := by simp }
          have hcnt := bcount_spec main H10 _ _ hdx hi (by omega) t20 (by rw [hxj]; exact hN4) (fun i hi' => by
            rw [hxj] at hi'
            have := hj3 i hi'
            have := hdx.xlen
            simp only [] at this ⊢
            omega) (by
            rw [hxj]
            exact alone_fine _ N hi hdx.ok.2.2 rfl hnn.1 (by omega) hnn.2 hN4)
          simp only [HN.agg] at hcnt
          repeat' (first
  | (refine wpX_stmtL rfl ?_; intro K hK; simp -implicitDefEqProofs (disch := first | omega | (simp only [qd] <;> omega)) only [xq, ↓xp, qc, Nat.reduceAdd, List.range, List.range.loop, fine, Nat.reduceEqDiff, ↓reduceIte, yielded, reduceCtorEq, Nat.reduceLT, Nat.reduceMul, Nat.reduceSub, one, Nat.reduceLeDiff, runX_cons, y3_52, aq, ↓ap, qe0, qe1, qe2, *, -hK]; try (refine hK _ _ ?_; clear hK K))
  | (refine wpX_lastL rfl ?_; intro K hK; simp -implicitDefEqProofs (disch := first | omega | (simp only [qd] <;> omega)) only [xq, ↓xp, qc, Nat.reduceAdd, List.range, List.range.loop, fine, Nat.reduceEqDiff, ↓reduceIte, yielded, reduceCtorEq, Nat.reduceLT, Nat.reduceMul, Nat.reduceSub, one, Nat.reduceLeDiff, runX_cons, y3_52, aq, ↓ap, qe0, qe1, qe2, *, -hK]; try (refine hK _ _ ?_; clear hK K; (try simp only [nq, ↓reduceIte, Nat.reduceEqDiff])))
  | (refine wpX_skip ?_; (try simp only [nq, ↓reduceIte, Nat.reduceEqDiff]))
  | (refine wpX_label ?_; (try simp only [nq, ↓reduceIte, Nat.reduceEqDiff]))
  | (refine wpX_exit ?_; (try simp only [nq, ↓reduceIte, Nat.reduceEqDiff]))
  | (refine wpX_goto ?_; (try simp only [nq, ↓reduceIte, Nat.reduceEqDiff]))
  | (refine wpX_condK (by simp only [act_eval, upd_get, Nat.reduceEqDiff, Nat.reduceLT, ↓reduceIte, *]; rfl) ?_ ?_ <;> (intro hc; first | (exfalso; simp -implicitDefEqProofs (disch := omega) only [*, bq, reduceCtorEq] at hc; done) | (simp only [dq, qe3, qe4, qe5, qe6] at hc) | skip)))
          refine hcnt.runs.mono ?_
          rintro _ H11 ⟨z, rfl, l11, hz⟩
          have vhb11 := l11 _ _ vhb10
          have hd11 := hd10.le l11
          clear hcnt hdx vhb10 vxb10 hd10 l11 hnn nhx
          (try simp -implicitDefEqProofs (disch := first | omega | (simp only [qd] <;> omega)) only [xq, ↓xp, qc, Nat.reduceAdd, List.range, List.range.loop, fine, Nat.reduceEqDiff, ↓reduceIte, yielded, reduceCtorEq, Nat.reduceLT, Nat.reduceMul, Nat.reduceSub, one, Nat.reduceLeDiff, runX_cons, y3_52, aq, ↓ap, qe0, qe1, qe2, *, -hK]); try (refine hK _ _ ?_; clear hK K; (try simp only [nq, ↓reduceIte, Nat.reduceEqDiff])); repeat' (first
  | (refine wpX_stmtL rfl ?_; intro K hK; simp -implicitDefEqProofs (disch := first | omega | (simp only [qd] <;> omega)) only [xq, ↓xp, qc, Nat.reduceAdd, List.range, List.range.loop, fine, Nat.reduceEqDiff, ↓reduceIte, yielded, reduceCtorEq, Nat.reduceLT, Nat.reduceMul, Nat.reduceSub, one, Nat.reduceLeDiff, runX_cons, y3_52, aq, ↓ap, qe0, qe1, qe2, *, -hK]; try (refine hK _ _ ?_; clear hK K))
  | (refine wpX_lastL rfl ?_; intro K hK; simp -implicitDefEqProofs (disch := first | omega | (simp only [qd] <;> omega)) only [xq, ↓xp, qc, Nat.reduceAdd, List.range, List.range.loop, fine, Nat.reduceEqDiff, ↓reduceIte, yielded, reduceCtorEq, Nat.reduceLT, Nat.reduceMul, Nat.reduceSub, one, Nat.reduceLeDiff, runX_cons, y3_52, aq, ↓ap, qe0, qe1, qe2, *, -hK]; try (refine hK _ _ ?_; clear hK K; (try simp only [nq, ↓reduceIte, Nat.reduceEqDiff])))
  | (refine wpX_skip ?_; (try simp only [nq, ↓reduceIte, Nat.reduceEqDiff]))
  | (refine wpX_label ?_; (try simp only [nq, ↓reduceIte, Nat.reduceEqDiff]))
  | (refine wpX_exit ?_; (try simp only [nq, ↓reduceIte, Nat.reduceEqDiff]))
  | (refine wpX_goto ?_; (try simp only [nq, ↓reduceIte, Nat.reduceEqDiff]))
  | (refine wpX_condK (by simp only [act_eval, upd_get, Nat.reduceEqDiff, Nat.reduceLT, ↓reduceIte, *]; rfl) ?_ ?_ <;> (intro hc; first | (exfalso; simp -implicitDefEqProofs (disch := omega) only [*, bq, reduceCtorEq] at hc; done) | (simp only [dq, qe3, qe4, qe5, qe6] at hc) | skip))
  | (refine wpX_scope0 ?_)
  | (refine wpX_block ?_)
  | (refine wpX_seq ?_))
          refine ⟨_, ?_, _, j + 1, j, rfl, by omega, rfl, e3, e5, rfl, vhb11, ?_⟩
          · omega
          · exact { hd11 with r0 := by simp, r3 := by simp }
        · repeat' (first
  | (refine wpX_stmtL rfl ?_; intro K hK; simp -implicitDefEqProofs (disch := first | omega | (simp only [qd] <;> omega)) only [xq, ↓xp, qc, Nat.reduceAdd, List.range, List.range.loop, fine, Nat.reduceEqDiff, ↓reduceIte, yielded, reduceCtorEq, Nat.reduceLT, Nat.reduceMul, Nat.reduceSub, one, Nat.reduceLeDiff, runX_cons, y3_52, aq, ↓ap, qe0, qe1, qe2, *, -hK]; try (refine hK _ _ ?_; clear hK K))
  | (refine wpX_lastL rfl ?_; intro K hK; simp -implicitDefEqProofs (disch := first | omega | (simp only [qd] <;> omega)) only [xq, ↓xp, qc, Nat.reduceAdd, List.range, List.range.loop, fine, Nat.reduceEqDiff, ↓reduceIte, yielded, reduceCtorEq, Nat.reduceLT, Nat.reduceMul, Nat.reduceSub, one, Nat.reduceLeDiff, runX_cons, y3_52, aq, ↓ap, qe0, qe1, qe2, *, -hK]; try (refine hK _ _ ?_; clear hK K; (try simp only [nq, ↓reduceIte, Nat.reduceEqDiff])))
  | (refine wpX_skip ?_; (try simp only [nq, ↓reduceIte, Nat.reduceEqDiff]))
  | (refine wpX_label ?_; (try simp only [nq, ↓reduceIte, Nat.reduceEqDiff]))
  | (refine wpX_exit ?_; (try simp only [nq, ↓reduceIte, Nat.reduceEqDiff]))
  | (refine wpX_goto ?_; (try simp only [nq, ↓reduceIte, Nat.reduceEqDiff]))
  | (refine wpX_condK (by simp only [act_eval, upd_get, Nat.reduceEqDiff, Nat.reduceLT, ↓reduceIte, *]; rfl) ?_ ?_ <;> (intro hc; first | (exfalso; simp -implicitDefEqProofs (disch := omega) only [*, bq, reduceCtorEq] at hc; done) | (simp only [dq, qe3, qe4, qe5, qe6] at hc) | skip))
  | (refine wpX_scope0 ?_)
  | (refine wpX_block ?_)
  | (refine wpX_seq ?_))
          refine ⟨_, ?_, _, j + 1, j, rfl, by omega, rfl, e3, e5, rfl, vhb7, ?_⟩
          · omega
          · exact { hd7 with r0 := by simp, r3 := by simp }
    · repeat' (first
  | (refine wpX_stmtL rfl ?_; intro K hK; simp -implicitDefEqProofs (disch := first | omega | (simp only [qd] <;> omega)) only [xq, ↓xp, qc, Nat.reduceAdd, List.range, List.range.loop, fine, Nat.reduceEqDiff, ↓reduceIte, yielded, reduceCtorEq, Nat.reduceLT, Nat.reduceMul, Nat.reduceSub, one, Nat.reduceLeDiff, runX_cons, y3_52, aq, ↓ap, qe0, qe1, qe2, *, -hK]; try (refine hK _ _ ?_; clear hK K))
  | (refine wpX_lastL rfl ?_; intro K hK; simp -implicitDefEqProofs (disch := first | omega | (simp only [qd] <;> omega)) only [xq, ↓xp, qc, Nat.reduceAdd, List.range, List.range.loop, fine, Nat.reduceEqDiff, ↓reduceIte, yielded, reduceCtorEq, Nat.reduceLT, Nat.reduceMul, Nat.reduceSub, one, Nat.reduceLeDiff, runX_cons, y3_52, aq, ↓ap, qe0, qe1, qe2, *, -hK]; try (refine hK _ _ ?_; clear hK K; (try simp only [nq, ↓reduceIte, Nat.reduceEqDiff])))
  | (refine wpX_skip ?_; (try simp only [nq, ↓reduceIte, Nat.reduceEqDiff]))
  | (refine wpX_label ?_; (try simp only [nq, ↓reduceIte, Nat.reduceEqDiff]))
  | (refine wpX_exit ?_; (try simp only [nq, ↓reduceIte, Nat.reduceEqDiff]))
  | (refine wpX_goto ?_; (try simp only [nq, ↓reduceIte, Nat.reduceEqDiff]))
  | (refine wpX_condK (by simp only [act_eval, upd_get, Nat.reduceEqDiff, Nat.reduceLT, ↓reduceIte, *]; rfl) ?_ ?_ <;> (intro hc; first | (exfalso; simp -implicitDefEqProofs (disch := omega) only [*, bq, reduceCtorEq] at hc; done) | (simp only [dq, qe3, qe4, qe5, qe6] at hc) | skip))
  | (refine wpX_scope0 ?_)
  | (refine wpX_block ?_)
  | (refine wpX_seq ?_))
      refine (awake_spec main H5).runs.mono ?_
      rintro _ H6 ⟨rfl, _⟩
      (try simp -implicitDefEqProofs (disch := first | omega | (simp only [qd] <;> omega)) only [xq, ↓xp, qc, Nat.reduceAdd, List.range, List.range.loop, fine, Nat.reduceEqDiff, ↓reduceIte, yielded, reduceCtorEq, Nat.reduceLT, Nat.reduceMul, Nat.reduceSub, one, Nat.reduceLeDiff, runX_cons, y3_52, aq, ↓ap, qe0, qe1, qe2, *, -hK]); try (refine hK _ _ ?_; clear hK K; (try simp only [nq, ↓reduceIte, Nat.reduceEqDiff])); repeat' (first
  | (refine wpX_stmtL rfl ?_; intro K hK; simp -implicitDefEqProofs (disch := first | omega | (simp only [qd] <;> omega)) only [xq, ↓xp, qc, Nat.reduceAdd, List.range, List.range.loop, fine, Nat.reduceEqDiff, ↓reduceIte, yielded, reduceCtorEq, Nat.reduceLT, Nat.reduceMul, Nat.reduceSub, one, Nat.reduceLeDiff, runX_cons, y3_52, aq, ↓ap, qe0, qe1, qe2, *, -hK]; try (refine hK _ _ ?_; clear hK K))
  | (refine wpX_lastL rfl ?_; intro K hK; simp -implicitDefEqProofs (disch := first | omega | (simp only [qd] <;> omega)) only [xq, ↓xp, qc, Nat.reduceAdd, List.range, List.range.loop, fine, Nat.reduceEqDiff, ↓reduceIte, yielded, reduceCtorEq, Nat.reduceLT, Nat.reduceMul, Nat.reduceSub, one, Nat.reduceLeDiff, runX_cons, y3_52, aq, ↓ap, qe0, qe1, qe2, *, -hK]; try (refine hK _ _ ?_; clear hK K; (try simp only [nq, ↓reduceIte, Nat.reduceEqDiff])))
  | (refine wpX_skip ?_; (try simp only [nq, ↓reduceIte, Nat.reduceEqDiff]))
  | (refine wpX_label ?_; (try simp only [nq, ↓reduceIte, Nat.reduceEqDiff]))
  | (refine wpX_exit ?_; (try simp only [nq, ↓reduceIte, Nat.reduceEqDiff]))
  | (refine wpX_goto ?_; (try simp only [nq, ↓reduceIte, Nat.reduceEqDiff]))
  | (refine wpX_condK (by simp only [act_eval, upd_get, Nat.reduceEqDiff, Nat.reduceLT, ↓reduceIte, *]; rfl) ?_ ?_ <;> (intro hc; first | (exfalso; simp -implicitDefEqProofs (disch := omega) only [*, bq, reduceCtorEq] at hc; done) | (simp only [dq, qe3, qe4, qe5, qe6] at hc) | skip))
  | (refine wpX_scope0 ?_)
  | (refine wpX_block ?_)
  | (refine wpX_seq ?_))
      (refine wpX_ret ?_; (try simp only [nq, ↓reduceIte, Nat.reduceEqDiff]); rw [bodyX_ret, results_one Tryd.results3 (by decide)]; simp only [upd_get, Nat.reduceEqDiff, ↓reduceIte])
end Go.Proofs.YtiempdpjcddgfaaDoor
end
section
/- From one goroutine's own steps over what it knows to a run of the machine with that goroutine alone. -/
namespace Go.X
open Go Go.RowKit
open Go.Conc (G base)

/-- The machine with this goroutine alone. -/
def one1 (g : Goroutine) (w : World) : Machine := { world := w, gs := #[g], rest := { timers := #[], alone := none, slice := none } }

theorem move_one1 {P : Program} {g : Goroutine} {w : World} (hg : g.status = .running) : move P (one1 g w) = .goroutine (one1 g w) 0 := by
  simp [move, ask, askOn, one1, runnable_eq, due, ahead, Goroutine.canRun, hg, List.range_succ, choose, pure, Sem.run, Question.forced]

theorem step_one1 {P : Program} {g g' : Goroutine} {w w' : World} {es : Array Event} (hg : g.status = .running) (h : stepG P true g w = .go g' w' es) : step P (one1 g w) = .next (one1 g' w') := by
  rw [step, stepT, move_one1 hg]
  simp [runT, one1, Array.swapAt!, h]

/-- SOUND for a goroutine alone. -/
theorem WPG.steps {P : Program} {Stop : Goroutine → Hp → Prop} {g : Goroutine} {H : Hp} (h : WPG P true Stop g H) : ∀ w, Sat H w → ∃ g' w' es H₁ H₀, Steps P (one1 g w) (one1 g' w') ∧ Moves H w es H₁ w' ∧ H₀.le H₁ ∧ Stop g' H₀ := by
  induction h with
  | stop h hl => exact fun w hw => ⟨_, w, #[], _, _, Steps.refl _ _, Moves.refl hw, hl, h⟩
  | step T hs h _ ih =>
    intro w hw
    obtain ⟨g', w', es, H', h1, h2, h3⟩ := h w hw
    obtain ⟨g'', w'', es', H₁, H₀, h4, h5, h6, h7⟩ := ih g' H' h3 w' h2.sat
    exact ⟨g'', w'', es ++ es', H₁, H₀, .head (step_one1 hs h1) h4, h2.trans h5, h6, h7⟩

/-- A contract gives the kit's contract. -/
theorem FnX.calls {P : Program} {f : FuncId} {fn : Func} {args : Array Value} {H : Hp} {R : Ending → Hp → Prop} (h : FnX P true f args H R) (hf : P.funcs[f]? = some fn) (hr : ∀ tmps w v w', (results fn tmps).run P w = .ok v w' → w' = w) {w : World} (hw : Sat H w) :
    Calls P f args w fun e w' => ∃ es H₁ H₀, Moves H w es H₁ w' ∧ R e H₀ := by
  intro cs
  obtain ⟨g', w', es, H₁, H₀, h1, h2, h3, fr, rfl, h4, h5⟩ := WPG.steps (h cs (fun g H' => ∃ fr, g = G fr cs ∧ fr.fn = f ∧ Leaving P fr H' R) fun fr H' hfn hl => .stop ⟨fr, rfl, hfn, hl⟩ (Hp.le_refl _)) w hw
  rcases h5 with ⟨hm, hd, hk, fn', hf', hres⟩ | ⟨ch, hm, hd, hk, hf', hres⟩
  · obtain rfl : fn' = fn := Option.some.inj (hf'.symm.trans (by rw [h4]; exact hf))
    obtain ⟨es', w'', H'', hm', r, hrun, hd'⟩ := wpS_sound _ w' (h2.sat.mono h3) hres
    rcases hd' with ⟨v, rfl, hR⟩ | ⟨v, _, hR⟩
    · have hrun' : (results fn' fr.tmps).run P w' = .ok v w'' := by
        have := hrun #[]
        have h9 := congrArg Prod.fst this
        simpa using h9
      have := hr _ _ _ _ hrun'
      subst this
      exact ⟨.returned v, w'', fr, ⟨es, H₁, H'', h2, hR⟩, h1, h4, hm, hd, hk, fn', hf', hrun'⟩
    · exact hR.elim
  · exact ⟨.panicked ch, w', fr, ⟨es, H₁, H₀, h2, hres⟩, h1, h4, hm, hd, hf'⟩

/-- All of memory is known, and nobody's. -/
def allShared (w : World) : Hp := fun b => (w.heap[b]?).map fun o => (false, o)
theorem allShared_sat (w : World) : Sat (allShared w) w := fun b p o h => by
  simp only [allShared, Option.map_eq_some_iff, Prod.mk.injEq] at h
  obtain ⟨o', h1, _, rfl⟩ := h
  exact h1
theorem Moves.below {w w' : World} {es : Array Event} {H₁ : Hp} (h : Moves (allShared w) w es H₁ w') : Below w.heap.size w w' :=
  ⟨h.os, h.tape, h.output, h.size, fun b hb => h.frame b hb fun o ho => by
    simp only [allShared, Option.map_eq_some_iff, Prod.mk.injEq] at ho
    obtain ⟨_, _, h2, _⟩ := ho
    cases h2⟩
theorem Below.kept {w w' : World} (h : Below w.heap.size w w') (may : MemPlace → Prop) : w.keptBut w' may := by
  have := World.keptBut_refl w may
  refine ⟨h.os, h.output, fun i hi => ?_⟩
  rw [h.block i hi]
  exact this.2.2 i hi
end Go.X
end
section
/- TopCarried: for every list of numbers the law returns true and leaves what it was given as it was; the library's variable errors.errorType is taken to hold what the program's text lays in it. -/
set_option linter.unusedSimpArgs false
set_option linter.unusedVariables false
namespace Go.Proofs.YtiempdpjcddgfaaDoor
open Go Go.X Go.ChangeShapes Go.WideShapes Go.RowKit

theorem ownK : ownKnob Tryd.prog.godebug = none := by kernel_rfl
theorem laidOutK : laidOutB Tryd.prog = true := by kernel_rfl
theorem cellsK : Tryd.prog.cellsOf 3 = 1 := by kernel_rfl

/-- A world that meets the condition. -/
noncomputable def laidWorld (os : Os) : World :=
  let w0 := World.holding Tryd.prog os ⟨#[], #[], []⟩
  { w0 with heap := w0.heap.modify 0 fun
      | .cells _ t frozen => .cells #[.iface 141 (.agg #[.pointer (some ⟨1, 85, none⟩)])] t frozen
      | o => o }
theorem laidWorld_met (os : Os) (args : Array Value) : laidMetH Tryd.prog [("errors.errorType", Rows.laid_errors_errorType)] ((laidWorld os).forCall (fun _ _ => 0) ⟨#[], args, []⟩).memory :=
  laidMetH_of_parts (laidMet_nil _ _) (by kernel_rfl)

theorem results_tmp {fn : Func} {t : Tmp} (h : fn.results = #[.tmp t]) (P : Program) (tmps : Array Value) (w : World) (v : Value) (w' : World) (hr : (results fn tmps).run P w = .ok v w') : w' = w := by
  simp [results, h] at hr
  exact hr.2.symm

set_option maxRecDepth 100000 in
theorem law_lifted (os : Os) (started : os.Started) (H : Type) (enc : TypeId × Value → H) :
    ReturnsInHanded {} Tryd.checked os 3 .any (fun w args => (Rows.topCarriedSpec.pre enc Tryd.prog Tryd.f3 [] false w args ∧ laidMetH Tryd.prog [("errors.errorType", Rows.laid_errors_errorType)] w) ∧ sizedMet enc Tryd.prog Tryd.f3 (OpenSpec.ofChange Rows.topCarriedSpec) false w args)
      (Rows.topCarriedSpec.post enc Tryd.prog Tryd.f3 false true false false) := by
  refine returnsInHanded_of_change_and (C := Tryd.checked) (X := fun w _ => laidMetH Tryd.prog [("errors.errorType", Rows.laid_errors_errorType)] w) (fun _ _ _ hh h => h.of_heap hh) ownK started (by kernel_rfl) Tryd.func3
    (ChangeSpec.witness_at (enc := enc) (C := Tryd.checked) (os := os) (X := fun w _ => laidMetH Tryd.prog [("errors.errorType", Rows.laid_errors_errorType)] w) false (laidWorld os) #[.slice none 0 0] 8 rfl (by kernel_rfl) (by kernel_rfl) (by kernel_rfl) (by kernel_rfl) (by kernel_rfl) (laidWorld_met os _)) ?_
  intro W base args ds gs before hval0 hW _ _ hL _
  have hval : ∀ (j : Nat) t v, Tryd.f3.params[j]? = some t → args[j]? = some v → Value.okWide Tryd.prog W .any base t v := hval0
  have hW' := hW
  obtain ⟨p, q, hA0, hV0, rfl, hfz, hnd⟩ := hW
  have hA : DataW.TrodAll enc Tryd.prog W 0 (fun _ => true) true Tryd.f3.params.toList args.toList ds p := hA0
  have hV : DataW.TrodVars enc Tryd.prog W (fun _ => true) [] gs q := hV0
  rw [Tryd.params3] at hA hval
  obtain ⟨v0, d0, rfl, rfl, h0⟩ := trodAll_one hA
  obtain ⟨a0, len, cap, rfl⟩ := okWide_slice Tryd.underlying22 (hval 0 22 v0 rfl rfl)
  have h0k := h0
  obtain ⟨fuel, hf⟩ := h0
  obtain ⟨rfl, rfl⟩ : gs = [] ∧ q = [] := by
    cases gs with
    | nil => exact ⟨rfl, hV⟩
    | cons g r => exact absurd hV (by intro h; cases h)
  have e1 : Rows.topCarriedSpec.fn H ([d0] ++ []) = { results := [.lit (.bool true)], args := [d0] } := by simp [Rows.topCarriedSpec]
  have hcells : ∀ i : Nat, i < len → ∃ sb so c e fr x, a0 = some ⟨sb, so, none⟩ ∧ allShared W sb = some (false, .cells c e fr) ∧ c[so + i]? = some (.int .i64 x) := by
    rcases open_ints Tryd.underlying22 Tryd.underlying3 cellsK hf with ⟨hcs, _⟩ | ⟨a, len', cap', zs, hcs, _, hl, hm, hz, hx, hcell, hwz⟩
    · simp [Value.cells] at hcs
      intro i hi
      omega
    · simp [Value.cells] at hcs
      obtain ⟨rfl, rfl, rfl⟩ := hcs
      intro i hi
      simp only [if_true] at hz
      have hc := hcell i (by omega)
      obtain ⟨b, off, spot⟩ := a
      have hspot : spot = none := by simpa [Addr.add] using World.cell?_spot (hcell 0 (by omega))
      subst hspot
      rw [add_plain] at hc
      unfold World.cell? at hc
      split at hc
      · rename_i c e fr hb
        exact ⟨b, off, c, e, fr, _, rfl, by simp [allShared, hb], by simpa using hc⟩
      · cases hc
  have hlt : ∀ x ∈ p, x.block < W.heap.size := fun x hx => by simpa using hW'.lt x (by simpa using hx)
  refine ((top_spec true (allShared W) a0 len cap hcells).calls Tryd.func3 (results_tmp Tryd.results3 _) (allShared_sat W)).mono fun e W' ⟨es, H₁, H₀, hm, he⟩ => ?_
  subst he
  have hb := hm.below
  refine ⟨_, rfl, _, _, _, [], p, [], hW', ?_, ?_, ?_, Go.X.Below.kept hb _, fun h => by cases h⟩
  · rw [e1]; exact trodAll_mk1 (shut_bool Tryd.underlying4 true)
  · rw [e1]
    have t := trodAll_mk1 (Below.trod laidOutK (by kernel_rfl) (of_decide_eq_true (by kernel_rfl)) h0k hb hlt)
    exact t
  · rw [e1]; rfl

set_option maxRecDepth 100000 in
theorem topCarried_said : Rows.TopCarriedSaid :=
  OpenClaim.holds_of_wide 3 Tryd.f3 rfl rfl rfl rfl rfl rfl rfl ⟨rfl, rfl, rfl, rfl, rfl⟩ rfl rfl rfl rfl rfl (by kernel_rfl) Tryd.func3 (by kernel_rfl)
    (of_decide_eq_true (by kernel_rfl)) (by unfold Func.isWrapper; rw [if_neg (of_decide_eq_false (by kernel_rfl))]; exact ⟨rfl, rfl⟩)
    (fun os started H enc _ => law_lifted os started H enc)
end Go.Proofs.YtiempdpjcddgfaaDoor
end
