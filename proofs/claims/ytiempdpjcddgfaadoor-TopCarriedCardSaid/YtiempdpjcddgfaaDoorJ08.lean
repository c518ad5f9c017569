/- Texts Open Drive Ride Structs Drv. -/
import Derived.Test.YtiempdpjcddgfaaDoorJ07
section
/- Hauls are opened. -/
set_option linter.unusedSimpArgs false
set_option maxRecDepth 100000
set_option maxHeartbeats 1000000
set_option linter.unusedVariables false
namespace Go.Proofs.YtiempdpjcddgfaaDoor
open Go Go.X
set_option linter.defProp false
def y7_38 := And.intro (fun H => loadAt_aggE (H := H) Tryd.underlying29 rfl Tryd.sizeOf29) (And.intro @callF19 (And.intro (fun H => fieldAt_eq (H := H) Tryd.underlying68 (i := 1) rfl (off := 12) rfl Tryd.sizeOf22) (fun H => loadAt_one (H := H) Tryd.underlying22 rfl)))
def y19_38 := And.intro (fun H => loadAt_aggE (H := H) Tryd.underlying29 rfl Tryd.sizeOf29) (And.intro @callF39 @callF40)
def y20_38 := And.intro (fun H => loadAt_aggE (H := H) Tryd.underlying29 rfl Tryd.sizeOf29) (And.intro @callF19 @callF41)

theorem bopen_spec (main : Bool) (H : Hp) (n : HN) (v : HV) (hd : HaulIn H n v) :
    FnX Tryd.prog main 19 #[n.agg v] H fun e H' => ∃ hb jv, e = .returned (.tuple #[.pointer (some ⟨hb, 0, none⟩), .int .i64 0]) ∧ H.le H' ∧ H' hb = some (true, n.obj v jv) ∧ SlI H' jv n.jobs := by
  simp only [HN.agg]
  refine FnX_start Tryd.func19 rfl Tryd.ntmps19 (by simp) ?_
  have hc := fun H' h' => bcheck_spec main H' n v h'
  have hn := fun H' h' => newHaul_spec main H' n v h'
  simp only [HN.agg] at hc hn
  repeat' (first
  | (refine wpX_stmtL rfl ?_; intro K hK; simp -implicitDefEqProofs (disch := first | omega | (simp only [qd] <;> omega)) only [xq, ↓xp, qc, Nat.reduceAdd, List.range, List.range.loop, fine, Nat.reduceEqDiff, ↓reduceIte, yielded, reduceCtorEq, Nat.reduceLT, Nat.reduceMul, Nat.reduceSub, one, Nat.reduceLeDiff, runX_cons, y19_38, aq, ↓ap, qe0, qe1, qe2, *, -hK]; try (refine hK _ _ ?_; clear hK K))
  | (refine wpX_lastL rfl ?_; intro K hK; simp -implicitDefEqProofs (disch := first | omega | (simp only [qd] <;> omega)) only [xq, ↓xp, qc, Nat.reduceAdd, List.range, List.range.loop, fine, Nat.reduceEqDiff, ↓reduceIte, yielded, reduceCtorEq, Nat.reduceLT, Nat.reduceMul, Nat.reduceSub, one, Nat.reduceLeDiff, runX_cons, y19_38, aq, ↓ap, qe0, qe1, qe2, *, -hK]; try (refine hK _ _ ?_; clear hK K; (try simp only [nq, ↓reduceIte, Nat.reduceEqDiff])))
  | (refine wpX_skip ?_; (try simp only [nq, ↓reduceIte, Nat.reduceEqDiff]))
  | (refine wpX_label ?_; (try simp only [nq, ↓reduceIte, Nat.reduceEqDiff]))
  | (refine wpX_exit ?_; (try simp only [nq, ↓reduceIte, Nat.reduceEqDiff]))
  | (refine wpX_goto ?_; (try simp only [nq, ↓reduceIte, Nat.reduceEqDiff]))
  | (refine wpX_condK (by simp only [act_eval, upd_get, Nat.reduceEqDiff, Nat.reduceLT, ↓reduceIte, *]; rfl) ?_ ?_ <;> (intro hc; first | (exfalso; simp -implicitDefEqProofs (disch := omega) only [*, bq, reduceCtorEq] at hc; done) | (simp only [dq, qe3, qe4, qe5, qe6] at hc) | skip))
  | (refine wpX_scope0 ?_)
  | (refine wpX_block ?_)
  | (refine wpX_seq ?_))
  (intro ab hab; generalize hG : Hp.set _ ab _ = H1; have lH1 := le_of_set hG hab; have vab := at_of_set hG; clear hG)
  have hd1 := hd.le lH1
  (try simp -implicitDefEqProofs (disch := first | omega | (simp only [qd] <;> omega)) only [xq, ↓xp, qc, Nat.reduceAdd, List.range, List.range.loop, fine, Nat.reduceEqDiff, ↓reduceIte, yielded, reduceCtorEq, Nat.reduceLT, Nat.reduceMul, Nat.reduceSub, one, Nat.reduceLeDiff, runX_cons, y19_38, aq, ↓ap, qe0, qe1, qe2, *, -hK]); try (refine hK _ _ ?_; clear hK K; (try simp only [nq, ↓reduceIte, Nat.reduceEqDiff])); repeat' (first
  | (refine wpX_stmtL rfl ?_; intro K hK; simp -implicitDefEqProofs (disch := first | omega | (simp only [qd] <;> omega)) only [xq, ↓xp, qc, Nat.reduceAdd, List.range, List.range.loop, fine, Nat.reduceEqDiff, ↓reduceIte, yielded, reduceCtorEq, Nat.reduceLT, Nat.reduceMul, Nat.reduceSub, one, Nat.reduceLeDiff, runX_cons, y19_38, aq, ↓ap, qe0, qe1, qe2, *, -hK]; try (refine hK _ _ ?_; clear hK K))
  | (refine wpX_lastL rfl ?_; intro K hK; simp -implicitDefEqProofs (disch := first | omega | (simp only [qd] <;> omega)) only [xq, ↓xp, qc, Nat.reduceAdd, List.range, List.range.loop, fine, Nat.reduceEqDiff, ↓reduceIte, yielded, reduceCtorEq, Nat.reduceLT, Nat.reduceMul, Nat.reduceSub, one, Nat.reduceLeDiff, runX_cons, y19_38, aq, ↓ap, qe0, qe1, qe2, *, -hK]; try (refine hK _ _ ?_; clear hK K; (try simp only [nq, ↓reduceIte, Nat.reduceEqDiff])))
  | (refine wpX_skip ?_; (try simp only [nq, ↓reduceIte, Nat.reduceEqDiff]))
  | (refine wpX_label ?_; (try simp only [nq, ↓reduceIte, Nat.reduceEqDiff]))
  | (refine wpX_exit ?_; (try simp only [nq, ↓reduceIte, Nat.reduceEqDiff]))
  | (refine wpX_goto ?_; (try simp only [nq, ↓reduceIte, Nat.reduceEqDiff]))
  | (refine wpX_condK (by simp only [act_eval, upd_get, Nat.reduceEqDiff, Nat.reduceLT, ↓reduceIte, *]; rfl) ?_ ?_ <;> (intro hc; first | (exfalso; simp -implicitDefEqProofs (disch := omega) only [*, bq, reduceCtorEq] at hc; done) | (simp only [dq, qe3, qe4, qe5, qe6] at hc) | skip))
  | (refine wpX_scope0 ?_)
  | (refine wpX_block ?_)
  | (refine wpX_seq ?_))
  refine (hc H1 hd1).runs.mono ?_
  rintro _ H2 ⟨rfl, lH2⟩
  have hd2 := hd1.le lH2
  have vab2 := lH2 _ _ vab
  (try simp -implicitDefEqProofs (disch := first | omega | (simp only [qd] <;> omega)) only [xq, ↓xp, qc, Nat.reduceAdd, List.range, List.range.loop, fine, Nat.reduceEqDiff, ↓reduceIte, yielded, reduceCtorEq, Nat.reduceLT, Nat.reduceMul, Nat.reduceSub, one, Nat.reduceLeDiff, runX_cons, y19_38, aq, ↓ap, qe0, qe1, qe2, *, -hK]); try (refine hK _ _ ?_; clear hK K; (try simp only [nq, ↓reduceIte, Nat.reduceEqDiff])); repeat' (first
  | (refine wpX_stmtL rfl ?_; intro K hK; simp -implicitDefEqProofs (disch := first | omega | (simp only [qd] <;> omega)) only [xq, ↓xp, qc, Nat.reduceAdd, List.range, List.range.loop, fine, Nat.reduceEqDiff, ↓reduceIte, yielded, reduceCtorEq, Nat.reduceLT, Nat.reduceMul, Nat.reduceSub, one, Nat.reduceLeDiff, runX_cons, y19_38, aq, ↓ap, qe0, qe1, qe2, *, -hK]; try (refine hK _ _ ?_; clear hK K))
  | (refine wpX_lastL rfl ?_; intro K hK; simp -implicitDefEqProofs (disch := first | omega | (simp only [qd] <;> omega)) only [xq, ↓xp, qc, Nat.reduceAdd, List.range, List.range.loop, fine, Nat.reduceEqDiff, ↓reduceIte, yielded, reduceCtorEq, Nat.reduceLT, Nat.reduceMul, Nat.reduceSub, one, Nat.reduceLeDiff, runX_cons, y19_38, aq, ↓ap, qe0, qe1, qe2, *, -hK]; try (refine hK _ _ ?_; clear hK K; (try simp only [nq, ↓reduceIte, Nat.reduceEqDiff])))
  | (refine wpX_skip ?_; (try simp only [nq, ↓reduceIte, Nat.reduceEqDiff]))
  | (refine wpX_label ?_; (try simp only [nq, ↓reduceIte, Nat.reduceEqDiff]))
  | (refine wpX_exit ?_; (try simp only [nq, ↓reduceIte, Nat.reduceEqDiff]))
  | (refine wpX_goto ?_; (try simp only [nq, ↓reduceIte, Nat.reduceEqDiff]))
  | (refine wpX_condK (by simp only [act_eval, upd_get, Nat.reduceEqDiff, Nat.reduceLT, ↓reduceIte, *]; rfl) ?_ ?_ <;> (intro hc; first | (exfalso; simp -implicitDefEqProofs (disch := omega) only [*, bq, reduceCtorEq] at hc; done) | (simp only [dq, qe3, qe4, qe5, qe6] at hc) | skip))
  | (refine wpX_scope0 ?_)
  | (refine wpX_block ?_)
  | (refine wpX_seq ?_))
  refine (hn H2 hd2).runs.mono ?_
  rintro _ H3 ⟨hb, jv, rfl, lH3, vhb, hj⟩
  (try simp -implicitDefEqProofs (disch := first | omega | (simp only [qd] <;> omega)) only [xq, ↓xp, qc, Nat.reduceAdd, List.range, List.range.loop, fine, Nat.reduceEqDiff, ↓reduceIte, yielded, reduceCtorEq, Nat.reduceLT, Nat.reduceMul, Nat.reduceSub, one, Nat.reduceLeDiff, runX_cons, y19_38, aq, ↓ap, qe0, qe1, qe2, *, -hK]); try (refine hK _ _ ?_; clear hK K; (try simp only [nq, ↓reduceIte, Nat.reduceEqDiff])); repeat' (first
  | (refine wpX_stmtL rfl ?_; intro K hK; simp -implicitDefEqProofs (disch := first | omega | (simp only [qd] <;> omega)) only [xq, ↓xp, qc, Nat.reduceAdd, List.range, List.range.loop, fine, Nat.reduceEqDiff, ↓reduceIte, yielded, reduceCtorEq, Nat.reduceLT, Nat.reduceMul, Nat.reduceSub, one, Nat.reduceLeDiff, runX_cons, y19_38, aq, ↓ap, qe0, qe1, qe2, *, -hK]; try (refine hK _ _ ?_; clear hK K))
  | (refine wpX_lastL rfl ?_; intro K hK; simp -implicitDefEqProofs (disch := first | omega | (simp only [qd] <;> omega)) only [xq, ↓xp, qc, Nat.reduceAdd, List.range, List.range.loop, fine, Nat.reduceEqDiff, ↓reduceIte, yielded, reduceCtorEq, Nat.reduceLT, Nat.reduceMul, Nat.reduceSub, one, Nat.reduceLeDiff, runX_cons, y19_38, aq, ↓ap, qe0, qe1, qe2, *, -hK]; try (refine hK _ _ ?_; clear hK K; (try simp only [nq, ↓reduceIte, Nat.reduceEqDiff])))
  | (refine wpX_skip ?_; (try simp only [nq, ↓reduceIte, Nat.reduceEqDiff]))
  | (refine wpX_label ?_; (try simp only [nq, ↓reduceIte, Nat.reduceEqDiff]))
  | (refine wpX_exit ?_; (try simp only [nq, ↓reduceIte, Nat.reduceEqDiff]))
  | (refine wpX_goto ?_; (try simp only [nq, ↓reduceIte, Nat.reduceEqDiff]))
  | (refine wpX_condK (by simp only [act_eval, upd_get, Nat.reduceEqDiff, Nat.reduceLT, ↓reduceIte, *]; rfl) ?_ ?_ <;> (intro hc; first | (exfalso; simp -implicitDefEqProofs (disch := omega) only [*, bq, reduceCtorEq] at hc; done) | (simp only [dq, qe3, qe4, qe5, qe6] at hc) | skip))
  | (refine wpX_scope0 ?_)
  | (refine wpX_block ?_)
  | (refine wpX_seq ?_))
  (refine wpX_ret ?_; (try simp only [nq, ↓reduceIte, Nat.reduceEqDiff]); rw [bodyX_ret, results_two Tryd.results19 (by decide) (by decide)]; simp only [upd_get, Nat.reduceEqDiff, ↓reduceIte])
  exact ⟨hb, jv, rfl, Hp.le_trans lH1 (Hp.le_trans lH2 lH3), vhb, hj⟩

theorem jobs_spec (main : Bool) (H : Hp) (n : HN) (v : HV) (hd : HaulIn H n v) :
    FnX Tryd.prog main 7 #[n.agg v] H fun e H' => ∃ jv, e = .returned (.tuple #[jv, .int .i64 0]) ∧ H.le H' ∧ SlI H' jv n.jobs := by
  simp only [HN.agg]
  refine FnX_start Tryd.func7 rfl Tryd.ntmps7 (by simp) ?_
  have hc := fun H' h' => bopen_spec main H' n v h'
  simp only [HN.agg] at hc
  repeat' (first
  | (refine wpX_stmtL rfl ?_; intro K hK; simp -implicitDefEqProofs (disch := first | omega | (simp only [qd] <;> omega)) only [xq, ↓xp, qc, Nat.reduceAdd, List.range, List.range.loop, fine, Nat.reduceEqDiff, ↓reduceIte, yielded, reduceCtorEq, Nat.reduceLT, Nat.reduceMul, Nat.reduceSub, one, Nat.reduceLeDiff, runX_cons, y7_38, aq, ↓ap, qe0, qe1, qe2, *, -hK]; try (refine hK _ _ ?_; clear hK K))
  | (refine wpX_lastL rfl ?_; intro K hK; simp -implicitDefEqProofs (disch := first | omega | (simp only [qd] <;> omega)) only [xq, ↓xp, qc, Nat.reduceAdd, List.range, List.range.loop, fine, Nat.reduceEqDiff, ↓reduceIte, yielded, reduceCtorEq, Nat.reduceLT, Nat.reduceMul, Nat.reduceSub, one, Nat.reduceLeDiff, runX_cons, y7_38, aq, ↓ap, qe0, qe1, qe2, *, -hK]; try (refine hK _ _ ?_; clear hK K; (try simp only [nq, ↓reduceIte, Nat.reduceEqDiff])))
  | (refine wpX_skip ?_; (try simp only [nq, ↓reduceIte, Nat.reduceEqDiff]))
  | (refine wpX_label ?_; (try simp only [nq, ↓reduceIte, Nat.reduceEqDiff]))
  | (refine wpX_exit ?_; (try simp only [nq, ↓reduceIte, Nat.reduceEqDiff]))
  | (refine wpX_goto ?_; (try simp only [nq, ↓reduceIte, Nat.reduceEqDiff]))
  | (refine wpX_condK (by simp only [act_eval, upd_get, Nat.reduceEqDiff, Nat.reduceLT, ↓reduceIte, *]; rfl) ?_ ?_ <;> (intro hc; first | (exfalso; simp -implicitDefEqProofs (disch := omega) only [*, bq, reduceCtorEq] at hc; done) | (simp only [dq, qe3, qe4, qe5, qe6] at hc) | skip))
  | (refine wpX_scope0 ?_)
  | (refine wpX_block ?_)
  | (refine wpX_seq ?_))
  (intro ab hab; generalize hG : Hp.set _ ab _ = H1; have lH1 := le_of_set hG hab; have vab := at_of_set hG; clear hG)
  have hd1 := hd.le lH1
  (try simp -implicitDefEqProofs (disch := first | omega | (simp only [qd] <;> omega)) only [xq, ↓xp, qc, Nat.reduceAdd, List.range, List.range.loop, fine, Nat.reduceEqDiff, ↓reduceIte, yielded, reduceCtorEq, Nat.reduceLT, Nat.reduceMul, Nat.reduceSub, one, Nat.reduceLeDiff, runX_cons, y7_38, aq, ↓ap, qe0, qe1, qe2, *, -hK]); try (refine hK _ _ ?_; clear hK K; (try simp only [nq, ↓reduceIte, Nat.reduceEqDiff])); repeat' (first
  | (refine wpX_stmtL rfl ?_; intro K hK; simp -implicitDefEqProofs (disch := first | omega | (simp only [qd] <;> omega)) only [xq, ↓xp, qc, Nat.reduceAdd, List.range, List.range.loop, fine, Nat.reduceEqDiff, ↓reduceIte, yielded, reduceCtorEq, Nat.reduceLT, Nat.reduceMul, Nat.reduceSub, one, Nat.reduceLeDiff, runX_cons, y7_38, aq, ↓ap, qe0, qe1, qe2, *, -hK]; try (refine hK _ _ ?_; clear hK K))
  | (refine wpX_lastL rfl ?_; intro K hK; simp -implicitDefEqProofs (disch := first | omega | (simp only [qd] <;> omega)) only [xq, ↓xp, qc, Nat.reduceAdd, List.range, List.range.loop, fine, Nat.reduceEqDiff, ↓reduceIte, yielded, reduceCtorEq, Nat.reduceLT, Nat.reduceMul, Nat.reduceSub, one, Nat.reduceLeDiff, runX_cons, y7_38, aq, ↓ap, qe0, qe1, qe2, *, -hK]; try (refine hK _ _ ?_; clear hK K; (try simp only [nq, ↓reduceIte, Nat.reduceEqDiff])))
  | (refine wpX_skip ?_; (try simp only [nq, ↓reduceIte, Nat.reduceEqDiff]))
  | (refine wpX_label ?_; (try simp only [nq, ↓reduceIte, Nat.reduceEqDiff]))
  | (refine wpX_exit ?_; (try simp only [nq, ↓reduceIte, Nat.reduceEqDiff]))
  | (refine wpX_goto ?_; (try simp only [nq, ↓reduceIte, Nat.reduceEqDiff]))
  | (refine wpX_condK (by simp only [act_eval, upd_get, Nat.reduceEqDiff, Nat.reduceLT, ↓reduceIte, *]; rfl) ?_ ?_ <;> (intro hc; first | (exfalso; simp -implicitDefEqProofs (disch := omega) only [*, bq, reduceCtorEq] at hc; done) | (simp only [dq, qe3, qe4, qe5, qe6] at hc) | skip))
  | (refine wpX_scope0 ?_)
  | (refine wpX_block ?_)
  | (refine wpX_seq ?_))
  refine (hc H1 hd1).runs.mono ?_
  rintro _ H2 ⟨hb, jv, rfl, lH2, vhb, hj⟩
  simp only [HN.obj] at vhb
  (try simp -implicitDefEqProofs (disch := first | omega | (simp only [qd] <;> omega)) only [xq, ↓xp, qc, Nat.reduceAdd, List.range, List.range.loop, fine, Nat.reduceEqDiff, ↓reduceIte, yielded, reduceCtorEq, Nat.reduceLT, Nat.reduceMul, Nat.reduceSub, one, Nat.reduceLeDiff, runX_cons, y7_38, aq, ↓ap, qe0, qe1, qe2, *, -hK]); try (refine hK _ _ ?_; clear hK K; (try simp only [nq, ↓reduceIte, Nat.reduceEqDiff])); repeat' (first
  | (refine wpX_stmtL rfl ?_; intro K hK; simp -implicitDefEqProofs (disch := first | omega | (simp only [qd] <;> omega)) only [xq, ↓xp, qc, Nat.reduceAdd, List.range, List.range.loop, fine, Nat.reduceEqDiff, ↓reduceIte, yielded, reduceCtorEq, Nat.reduceLT, Nat.reduceMul, Nat.reduceSub, one, Nat.reduceLeDiff, runX_cons, y7_38, aq, ↓ap, qe0, qe1, qe2, *, -hK]; try (refine hK _ _ ?_; clear hK K))
  | (refine wpX_lastL rfl ?_; intro K hK; simp -implicitDefEqProofs (disch := first | omega | (simp only [qd] <;> omega)) only [xq, ↓xp, qc, Nat.reduceAdd, List.range, List.range.loop, fine, Nat.reduceEqDiff, ↓reduceIte, yielded, reduceCtorEq, Nat.reduceLT, Nat.reduceMul, Nat.reduceSub, one, Nat.reduceLeDiff, runX_cons, y7_38, aq, ↓ap, qe0, qe1, qe2, *, -hK]; try (refine hK _ _ ?_; clear hK K; (try simp only [nq, ↓reduceIte, Nat.reduceEqDiff])))
  | (refine wpX_skip ?_; (try simp only [nq, ↓reduceIte, Nat.reduceEqDiff]))
  | (refine wpX_label ?_; (try simp only [nq, ↓reduceIte, Nat.reduceEqDiff]))
  | (refine wpX_exit ?_; (try simp only [nq, ↓reduceIte, Nat.reduceEqDiff]))
  | (refine wpX_goto ?_; (try simp only [nq, ↓reduceIte, Nat.reduceEqDiff]))
  | (refine wpX_condK (by simp only [act_eval, upd_get, Nat.reduceEqDiff, Nat.reduceLT, ↓reduceIte, *]; rfl) ?_ ?_ <;> (intro hc; first | (exfalso; simp -implicitDefEqProofs (disch := omega) only [*, bq, reduceCtorEq] at hc; done) | (simp only [dq, qe3, qe4, qe5, qe6] at hc) | skip))
  | (refine wpX_scope0 ?_)
  | (refine wpX_block ?_)
  | (refine wpX_seq ?_))
  (refine wpX_ret ?_; (try simp only [nq, ↓reduceIte, Nat.reduceEqDiff]); rw [bodyX_ret, results_two Tryd.results7 (by decide) (by decide)]; simp only [upd_get, Nat.reduceEqDiff, ↓reduceIte])
  exact ⟨jv, rfl, Hp.le_trans lH1 lH2, hj⟩

theorem driving_spec (main : Bool) (H : Hp) (n : HN) (v : HV) (hd : HaulIn H n v) (mi : Int) (h1 : 1 ≤ mi) (h20 : mi ≤ 20) :
    FnX Tryd.prog main 20 #[n.agg v, .int .i64 mi] H fun e H' => ∃ hb jv, e = .returned (.tuple #[.pointer (some ⟨hb, 0, none⟩), .int .i64 0]) ∧ H.le H' ∧ H' hb = some (true, n.obj v jv) ∧ SlI H' jv n.jobs := by
  simp only [HN.agg]
  refine FnX_start Tryd.func20 rfl Tryd.ntmps20 (by simp) ?_
  have hc := fun H' h' => bopen_spec main H' n v h'
  simp only [HN.agg] at hc
  repeat' (first
  | (refine wpX_stmtL rfl ?_; intro K hK; simp -implicitDefEqProofs (disch := first | omega | (simp only [qd] <;> omega)) only [xq, ↓xp, qc, Nat.reduceAdd, List.range, List.range.loop, fine, Nat.reduceEqDiff, ↓reduceIte, yielded, reduceCtorEq, Nat.reduceLT, Nat.reduceMul, Nat.reduceSub, one, Nat.reduceLeDiff, runX_cons, y20_38, aq, ↓ap, qe0, qe1, qe2, *, -hK]; try (refine hK _ _ ?_; clear hK K))
  | (refine wpX_lastL rfl ?_; intro K hK; simp -implicitDefEqProofs (disch := first | omega | (simp only [qd] <;> omega)) only [xq, ↓xp, qc, Nat.reduceAdd, List.range, List.range.loop, fine, Nat.reduceEqDiff, ↓reduceIte, yielded, reduceCtorEq, Nat.reduceLT, Nat.reduceMul, Nat.reduceSub, one, Nat.reduceLeDiff, runX_cons, y20_38, aq, ↓ap, qe0, qe1, qe2, *, -hK]; try (refine hK _ _ ?_; clear hK K; (try simp only [nq, ↓reduceIte, Nat.reduceEqDiff])))
  | (refine wpX_skip ?_; (try simp only [nq, ↓reduceIte, Nat.reduceEqDiff]))
  | (refine wpX_label ?_; (try simp only [nq, ↓reduceIte, Nat.reduceEqDiff]))
  | (refine wpX_exit ?_; (try simp only [nq, ↓reduceIte, Nat.reduceEqDiff]))
  | (refine wpX_goto ?_; (try simp only [nq, ↓reduceIte, Nat.reduceEqDiff]))
  | (refine wpX_condK (by simp only [act_eval, upd_get, Nat.reduceEqDiff, Nat.reduceLT, ↓reduceIte, *]; rfl) ?_ ?_ <;> (intro hc; first | (exfalso; simp -implicitDefEqProofs (disch := omega) only [*, bq, reduceCtorEq] at hc; done) | (simp only [dq, qe3, qe4, qe5, qe6] at hc) | skip))
  | (refine wpX_scope0 ?_)
  | (refine wpX_block ?_)
  | (refine wpX_seq ?_))
  (intro ab hab; generalize hG : Hp.set _ ab _ = H1; have lH1 := le_of_set hG hab; have vab := at_of_set hG; clear hG)
  have hd1 := hd.le lH1
  (try simp -implicitDefEqProofs (disch := first | omega | (simp only [qd] <;> omega)) only [xq, ↓xp, qc, Nat.reduceAdd, List.range, List.range.loop, fine, Nat.reduceEqDiff, ↓reduceIte, yielded, reduceCtorEq, Nat.reduceLT, Nat.reduceMul, Nat.reduceSub, one, Nat.reduceLeDiff, runX_cons, y20_38, aq, ↓ap, qe0, qe1, qe2, *, -hK]); try (refine hK _ _ ?_; clear hK K; (try simp only [nq, ↓reduceIte, Nat.reduceEqDiff])); repeat' (first
  | (refine wpX_stmtL rfl ?_; intro K hK; simp -implicitDefEqProofs (disch := first | omega | (simp only [qd] <;> omega)) only [xq, ↓xp, qc, Nat.reduceAdd, List.range, List.range.loop, fine, Nat.reduceEqDiff, ↓reduceIte, yielded, reduceCtorEq, Nat.reduceLT, Nat.reduceMul, Nat.reduceSub, one, Nat.reduceLeDiff, runX_cons, y20_38, aq, ↓ap, qe0, qe1, qe2, *, -hK]; try (refine hK _ _ ?_; clear hK K))
  | (refine wpX_lastL rfl ?_; intro K hK; simp -implicitDefEqProofs (disch := first | omega | (simp only [qd] <;> omega)) only [xq, ↓xp, qc, Nat.reduceAdd, List.range, List.range.loop, fine, Nat.reduceEqDiff, ↓reduceIte, yielded, reduceCtorEq, Nat.reduceLT, Nat.reduceMul, Nat.reduceSub, one, Nat.reduceLeDiff, runX_cons, y20_38, aq, ↓ap, qe0, qe1, qe2, *, -hK]; try (refine hK _ _ ?_; clear hK K; (try simp only [nq, ↓reduceIte, Nat.reduceEqDiff])))
  | (refine wpX_skip ?_; (try simp only [nq, ↓reduceIte, Nat.reduceEqDiff]))
  | (refine wpX_label ?_; (try simp only [nq, ↓reduceIte, Nat.reduceEqDiff]))
  | (refine wpX_exit ?_; (try simp only [nq, ↓reduceIte, Nat.reduceEqDiff]))
  | (refine wpX_goto ?_; (try simp only [nq, ↓reduceIte, Nat.reduceEqDiff]))
  | (refine wpX_condK (by simp only [act_eval, upd_get, Nat.reduceEqDiff, Nat.reduceLT, ↓reduceIte, *]; rfl) ?_ ?_ <;> (intro hc; first | (exfalso; simp -implicitDefEqProofs (disch := omega) only [*, bq, reduceCtorEq] at hc; done) | (simp only [dq, qe3, qe4, qe5, qe6] at hc) | skip))
  | (refine wpX_scope0 ?_)
  | (refine wpX_block ?_)
  | (refine wpX_seq ?_))
  refine (hc H1 hd1).runs.mono ?_
  rintro _ H2 ⟨hb, jv, rfl, lH2, vhb, hj⟩
  (try simp -implicitDefEqProofs (disch := first | omega | (simp only [qd] <;> omega)) only [xq, ↓xp, qc, Nat.reduceAdd, List.range, List.range.loop, fine, Nat.reduceEqDiff, ↓reduceIte, yielded, reduceCtorEq, Nat.reduceLT, Nat.reduceMul, Nat.reduceSub, one, Nat.reduceLeDiff, runX_cons, y20_38, aq, ↓ap, qe0, qe1, qe2, *, -hK]); try (refine hK _ _ ?_; clear hK K; (try simp only [nq, ↓reduceIte, Nat.reduceEqDiff])); repeat' (first
  | (refine wpX_stmtL rfl ?_; intro K hK; simp -implicitDefEqProofs (disch := first | omega | (simp only [qd] <;> omega)) only [xq, ↓xp, qc, Nat.reduceAdd, List.range, List.range.loop, fine, Nat.reduceEqDiff, ↓reduceIte, yielded, reduceCtorEq, Nat.reduceLT, Nat.reduceMul, Nat.reduceSub, one, Nat.reduceLeDiff, runX_cons, y20_38, aq, ↓ap, qe0, qe1, qe2, *, -hK]; try (refine hK _ _ ?_; clear hK K))
  | (refine wpX_lastL rfl ?_; intro K hK; simp -implicitDefEqProofs (disch := first | omega | (simp only [qd] <;> omega)) only [xq, ↓xp, qc, Nat.reduceAdd, List.range, List.range.loop, fine, Nat.reduceEqDiff, ↓reduceIte, yielded, reduceCtorEq, Nat.reduceLT, Nat.reduceMul, Nat.reduceSub, one, Nat.reduceLeDiff, runX_cons, y20_38, aq, ↓ap, qe0, qe1, qe2, *, -hK]; try (refine hK _ _ ?_; clear hK K; (try simp only [nq, ↓reduceIte, Nat.reduceEqDiff])))
  | (refine wpX_skip ?_; (try simp only [nq, ↓reduceIte, Nat.reduceEqDiff]))
  | (refine wpX_label ?_; (try simp only [nq, ↓reduceIte, Nat.reduceEqDiff]))
  | (refine wpX_exit ?_; (try simp only [nq, ↓reduceIte, Nat.reduceEqDiff]))
  | (refine wpX_goto ?_; (try simp only [nq, ↓reduceIte, Nat.reduceEqDiff]))
  | (refine wpX_condK (by simp only [act_eval, upd_get, Nat.reduceEqDiff, Nat.reduceLT, ↓reduceIte, *]; rfl) ?_ ?_ <;> (intro hc; first | (exfalso; simp -implicitDefEqProofs (disch := omega) only [*, bq, reduceCtorEq] at hc; done) | (simp only [dq, qe3, qe4, qe5, qe6] at hc) | skip))
  | (refine wpX_scope0 ?_)
  | (refine wpX_block ?_)
  | (refine wpX_seq ?_))
  refine (binside_spec main H2 mi 1 20 h1 h20).runs.mono ?_; rintro _ HQ ⟨rfl, hHQ⟩; rw [hHQ]; clear hHQ HQ; (try simp -implicitDefEqProofs (disch := first | omega | (simp only [qd] <;> omega)) only [xq, ↓xp, qc, Nat.reduceAdd, List.range, List.range.loop, fine, Nat.reduceEqDiff, ↓reduceIte, yielded, reduceCtorEq, Nat.reduceLT, Nat.reduceMul, Nat.reduceSub, one, Nat.reduceLeDiff, runX_cons, y20_38, aq, ↓ap, qe0, qe1, qe2, *, -hK]); try (refine hK _ _ ?_; clear hK K; (try simp only [nq, ↓reduceIte, Nat.reduceEqDiff])); repeat' (first
  | (refine wpX_stmtL rfl ?_; intro K hK; simp -implicitDefEqProofs (disch := first | omega | (simp only [qd] <;> omega)) only [xq, ↓xp, qc, Nat.reduceAdd, List.range, List.range.loop, fine, Nat.reduceEqDiff, ↓reduceIte, yielded, reduceCtorEq, Nat.reduceLT, Nat.reduceMul, Nat.reduceSub, one, Nat.reduceLeDiff, runX_cons, y20_38, aq, ↓ap, qe0, qe1, qe2, *, -hK]; try (refine hK _ _ ?_; clear hK K))
  | (refine wpX_lastL rfl ?_; intro K hK; simp -implicitDefEqProofs (disch := first | omega | (simp only [qd] <;> omega)) only [xq, ↓xp, qc, Nat.reduceAdd, List.range, List.range.loop, fine, Nat.reduceEqDiff, ↓reduceIte, yielded, reduceCtorEq, Nat.reduceLT, Nat.reduceMul, Nat.reduceSub, one, Nat.reduceLeDiff, runX_cons, y20_38, aq, ↓ap, qe0, qe1, qe2, *, -hK]; try (refine hK _ _ ?_; clear hK K; (try simp only [nq, ↓reduceIte, Nat.reduceEqDiff])))
  | (refine wpX_skip ?_; (try simp only [nq, ↓reduceIte, Nat.reduceEqDiff]))
  | (refine wpX_label ?_; (try simp only [nq, ↓reduceIte, Nat.reduceEqDiff]))
  | (refine wpX_exit ?_; (try simp only [nq, ↓reduceIte, Nat.reduceEqDiff]))
  | (refine wpX_goto ?_; (try simp only [nq, ↓reduceIte, Nat.reduceEqDiff]))
  | (refine wpX_condK (by simp only [act_eval, upd_get, Nat.reduceEqDiff, Nat.reduceLT, ↓reduceIte, *]; rfl) ?_ ?_ <;> (intro hc; first | (exfalso; simp -implicitDefEqProofs (disch := omega) only [*, bq, reduceCtorEq] at hc; done) | (simp only [dq, qe3, qe4, qe5, qe6] at hc) | skip))
  | (refine wpX_scope0 ?_)
  | (refine wpX_block ?_)
  | (refine wpX_seq ?_))
  (refine wpX_ret ?_; (try simp only [nq, ↓reduceIte, Nat.reduceEqDiff]); rw [bodyX_ret, results_two Tryd.results20 (by decide) (by decide)]; simp only [upd_get, Nat.reduceEqDiff, ↓reduceIte])
  exact ⟨hb, jv, rfl, Hp.le_trans lH1 lH2, vhb, hj⟩
end Go.Proofs.YtiempdpjcddgfaaDoor
end
section
/- Barrows drive. -/
set_option linter.unusedSimpArgs false
set_option maxRecDepth 100000
set_option maxHeartbeats 1000000
set_option linter.unusedVariables false
namespace Go.Proofs.YtiempdpjcddgfaaDoor
open Go Go.X
set_option linter.defProp false
def y65_39 := And.intro (fun H => ex_alloc (H := H) (P := Tryd.prog) (h := Tryd.zeroValue136)) (And.intro (fun H => indexAt_array (H := H) Tryd.underlying136 Tryd.sizeOf3) (And.intro (fun H => storeAt_int (H := H) Tryd.sizeOf3) (And.intro (fun H => loadAt_aggE (H := H) Tryd.underlying136 rfl Tryd.sizeOf136) (fun H => storeAt_agg (H := H) Tryd.sizeOf136))))
def y74_39 := And.intro (fun H => fieldAt_eq (H := H) Tryd.underlying68 (i := 0) rfl (off := 0) rfl Tryd.sizeOf29) (And.intro (fun H => fieldAt_eq (H := H) Tryd.underlying29 (i := 6) rfl (off := 9) rfl Tryd.sizeOf3) (And.intro (fun H => loadAt_one (H := H) Tryd.underlying3 rfl) (fun H => indexAt_array (H := H) Tryd.underlying136 Tryd.sizeOf3)))

theorem resting_spec (main : Bool) (H : Hp) :
    FnX Tryd.prog main 65 #[] H fun e H' => e = .returned (.agg (ints (List.replicate 4 (-1048576))).toArray) ∧ H.le H' := by
  refine FnX_start (args := []) Tryd.func65 rfl Tryd.ntmps65 (by simp) ?_
  repeat' (first
  | (refine wpX_stmtL rfl ?_; intro K hK; simp -implicitDefEqProofs (disch := first | omega | (simp only [qd] <;> omega)) only [xq, ↓xp, qc, Nat.reduceAdd, List.range, List.range.loop, fine, Nat.reduceEqDiff, ↓reduceIte, yielded, reduceCtorEq, Nat.reduceLT, Nat.reduceMul, Nat.reduceSub, one, Nat.reduceLeDiff, runX_cons, y65_39, aq, ↓ap, qe0, qe1, qe2, *, -hK]; try (refine hK _ _ ?_; clear hK K))
  | (refine wpX_lastL rfl ?_; intro K hK; simp -implicitDefEqProofs (disch := first | omega | (simp only [qd] <;> omega)) only [xq, ↓xp, qc, Nat.reduceAdd, List.range, List.range.loop, fine, Nat.reduceEqDiff, ↓reduceIte, yielded, reduceCtorEq, Nat.reduceLT, Nat.reduceMul, Nat.reduceSub, one, Nat.reduceLeDiff, runX_cons, y65_39, aq, ↓ap, qe0, qe1, qe2, *, -hK]; try (refine hK _ _ ?_; clear hK K; (try simp only [nq, ↓reduceIte, Nat.reduceEqDiff])))
  | (refine wpX_skip ?_; (try simp only [nq, ↓reduceIte, Nat.reduceEqDiff]))
  | (refine wpX_label ?_; (try simp only [nq, ↓reduceIte, Nat.reduceEqDiff]))
  | (refine wpX_exit ?_; (try simp only [nq, ↓reduceIte, Nat.reduceEqDiff]))
  | (refine wpX_goto ?_; (try simp only [nq, ↓reduceIte, Nat.reduceEqDiff]))
  | (refine wpX_condK (by simp only [act_eval, upd_get, Nat.reduceEqDiff, Nat.reduceLT, ↓reduceIte, *]; rfl) ?_ ?_ <;> (intro hc; first | (exfalso; simp -implicitDefEqProofs (disch := omega) only [*, bq, reduceCtorEq] at hc; done) | (simp only [dq, qe3, qe4, qe5, qe6] at hc) | skip))
  | (refine wpX_scope0 ?_)
  | (refine wpX_block ?_)
  | (refine wpX_seq ?_))
  (intro rb hrb; generalize hG : Hp.set _ rb _ = H1; have lH1 := le_of_set hG hrb; have vrb := at_of_set hG; clear hG)
  (try simp -implicitDefEqProofs (disch := first | omega | (simp only [qd] <;> omega)) only [xq, ↓xp, qc, Nat.reduceAdd, List.range, List.range.loop, fine, Nat.reduceEqDiff, ↓reduceIte, yielded, reduceCtorEq, Nat.reduceLT, Nat.reduceMul, Nat.reduceSub, one, Nat.reduceLeDiff, runX_cons, y65_39, aq, ↓ap, qe0, qe1, qe2, *, -hK]); try (refine hK _ _ ?_; clear hK K; (try simp only [nq, ↓reduceIte, Nat.reduceEqDiff])); repeat' (first
  | (refine wpX_stmtL rfl ?_; intro K hK; simp -implicitDefEqProofs (disch := first | omega | (simp only [qd] <;> omega)) only [xq, ↓xp, qc, Nat.reduceAdd, List.range, List.range.loop, fine, Nat.reduceEqDiff, ↓reduceIte, yielded, reduceCtorEq, Nat.reduceLT, Nat.reduceMul, Nat.reduceSub, one, Nat.reduceLeDiff, runX_cons, y65_39, aq, ↓ap, qe0, qe1, qe2, *, -hK]; try (refine hK _ _ ?_; clear hK K))
  | (refine wpX_lastL rfl ?_; intro K hK; simp -implicitDefEqProofs (disch := first | omega | (simp only [qd] <;> omega)) only [xq, ↓xp, qc, Nat.reduceAdd, List.range, List.range.loop, fine, Nat.reduceEqDiff, ↓reduceIte, yielded, reduceCtorEq, Nat.reduceLT, Nat.reduceMul, Nat.reduceSub, one, Nat.reduceLeDiff, runX_cons, y65_39, aq, ↓ap, qe0, qe1, qe2, *, -hK]; try (refine hK _ _ ?_; clear hK K; (try simp only [nq, ↓reduceIte, Nat.reduceEqDiff])))
  | (refine wpX_skip ?_; (try simp only [nq, ↓reduceIte, Nat.reduceEqDiff]))
  | (refine wpX_label ?_; (try simp only [nq, ↓reduceIte, Nat.reduceEqDiff]))
  | (refine wpX_exit ?_; (try simp only [nq, ↓reduceIte, Nat.reduceEqDiff]))
  | (refine wpX_goto ?_; (try simp only [nq, ↓reduceIte, Nat.reduceEqDiff]))
  | (refine wpX_condK (by simp only [act_eval, upd_get, Nat.reduceEqDiff, Nat.reduceLT, ↓reduceIte, *]; rfl) ?_ ?_ <;> (intro hc; first | (exfalso; simp -implicitDefEqProofs (disch := omega) only [*, bq, reduceCtorEq] at hc; done) | (simp only [dq, qe3, qe4, qe5, qe6] at hc) | skip))
  | (refine wpX_scope0 ?_)
  | (refine wpX_block ?_)
  | (refine wpX_seq ?_))
  (intro bb hbb; generalize hG : Hp.set _ bb _ = H2; have lH2 := le_of_set hG hbb; have vbb := at_of_set hG; clear hG)
  have vrb2 := lH2 _ _ vrb
  have hbb0 : H bb = none := Hp.le_none lH1 hbb
  have nbr : bb ≠ rb := (ne_new vrb hbb).symm
  have nbr' := nbr.symm
  (try simp -implicitDefEqProofs (disch := first | omega | (simp only [qd] <;> omega)) only [xq, ↓xp, qc, Nat.reduceAdd, List.range, List.range.loop, fine, Nat.reduceEqDiff, ↓reduceIte, yielded, reduceCtorEq, Nat.reduceLT, Nat.reduceMul, Nat.reduceSub, one, Nat.reduceLeDiff, runX_cons, y65_39, aq, ↓ap, qe0, qe1, qe2, *, -hK]); try (refine hK _ _ ?_; clear hK K; (try simp only [nq, ↓reduceIte, Nat.reduceEqDiff])); repeat' (first
  | (refine wpX_stmtL rfl ?_; intro K hK; simp -implicitDefEqProofs (disch := first | omega | (simp only [qd] <;> omega)) only [xq, ↓xp, qc, Nat.reduceAdd, List.range, List.range.loop, fine, Nat.reduceEqDiff, ↓reduceIte, yielded, reduceCtorEq, Nat.reduceLT, Nat.reduceMul, Nat.reduceSub, one, Nat.reduceLeDiff, runX_cons, y65_39, aq, ↓ap, qe0, qe1, qe2, *, -hK]; try (refine hK _ _ ?_; clear hK K))
  | (refine wpX_lastL rfl ?_; intro K hK; simp -implicitDefEqProofs (disch := first | omega | (simp only [qd] <;> omega)) only [xq, ↓xp, qc, Nat.reduceAdd, List.range, List.range.loop, fine, Nat.reduceEqDiff, ↓reduceIte, yielded, reduceCtorEq, Nat.reduceLT, Nat.reduceMul, Nat.reduceSub, one, Nat.reduceLeDiff, runX_cons, y65_39, aq, ↓ap, qe0, qe1, qe2, *, -hK]; try (refine hK _ _ ?_; clear hK K; (try simp only [nq, ↓reduceIte, Nat.reduceEqDiff])))
  | (refine wpX_skip ?_; (try simp only [nq, ↓reduceIte, Nat.reduceEqDiff]))
  | (refine wpX_label ?_; (try simp only [nq, ↓reduceIte, Nat.reduceEqDiff]))
  | (refine wpX_exit ?_; (try simp only [nq, ↓reduceIte, Nat.reduceEqDiff]))
  | (refine wpX_goto ?_; (try simp only [nq, ↓reduceIte, Nat.reduceEqDiff]))
  | (refine wpX_condK (by simp only [act_eval, upd_get, Nat.reduceEqDiff, Nat.reduceLT, ↓reduceIte, *]; rfl) ?_ ?_ <;> (intro hc; first | (exfalso; simp -implicitDefEqProofs (disch := omega) only [*, bq, reduceCtorEq] at hc; done) | (simp only [dq, qe3, qe4, qe5, qe6] at hc) | skip))
  | (refine wpX_scope0 ?_)
  | (refine wpX_block ?_)
  | (refine wpX_seq ?_))
  refine wpX_loop (fun w a' H' => ∃ e j L, w = 4 - j ∧ j ≤ 4 ∧ L.length = 4 ∧ (∀ k : Nat, k < j → L[k]? = some (-1048576 : Int)) ∧ a' = act 10 e [] ∧ e 0 = .pointer (some ⟨rb, 0, none⟩) ∧ e 1 = .pointer (some ⟨bb, 0, none⟩) ∧ e 3 = .int .i64 (j : Nat) ∧ H' = H2.set bb (.cells (ints L).toArray 136 (0, 0))) (n := 4) ?_ ?_
  · exact ⟨_, 0, List.replicate 4 0, rfl, by omega, by simp, fun k hk => by omega, rfl, rfl, rfl, rfl, (set_self vbb).symm⟩
  · rintro w a' H' ⟨e, j, L, rfl, hj, hL, hLj, rfl, e0, e1, e3, hH⟩
    have hli : (ints L).length = 4 := by rw [ints_len]; exact hL
    have v1 : (H2.set bb (.cells (ints L).toArray 136 (0, 0))) bb = _ := set_at
    have v2 : (H2.set bb (.cells (ints L).toArray 136 (0, 0))) rb = _ := (set_ne nbr').trans vrb2
    have lx : Lex none H (H2.set bb (.cells (ints L).toArray 136 (0, 0))) := (Lex.of (Hp.le_trans lH1 lH2)).own hbb0
    generalize hG : H2.set bb (.cells (ints L).toArray 136 (0, 0)) = H3 at *
    rw [hH]; clear hH H'
    by_cases hlt : j < 4
    · repeat' (first
  | (refine wpX_stmtL rfl ?_; intro K hK; simp -implicitDefEqProofs (disch := first | omega | (simp only [qd] <;> omega)) only [xq, ↓xp, qc, Nat.reduceAdd, List.range, List.range.loop, fine, Nat.reduceEqDiff, ↓reduceIte, yielded, reduceCtorEq, Nat.reduceLT, Nat.reduceMul, Nat.reduceSub, one, Nat.reduceLeDiff, runX_cons, y65_39, aq, ↓ap, qe0, qe1, qe2, *, -hK]; try (refine hK _ _ ?_; clear hK K))
  | (refine wpX_lastL rfl ?_; intro K hK; simp -implicitDefEqProofs (disch := first | omega | (simp only [qd] <;> omega)) only [xq, ↓xp, qc, Nat.reduceAdd, List.range, List.range.loop, fine, Nat.reduceEqDiff, ↓reduceIte, yielded, reduceCtorEq, Nat.reduceLT, Nat.reduceMul, Nat.reduceSub, one, Nat.reduceLeDiff, runX_cons, y65_39, aq, ↓ap, qe0, qe1, qe2, *, -hK]; try (refine hK _ _ ?_; clear hK K; (try simp only [nq, ↓reduceIte, Nat.reduceEqDiff])))
  | (refine wpX_skip ?_; (try simp only [nq, ↓reduceIte, Nat.reduceEqDiff]))
  | (refine wpX_label ?_; (try simp only [nq, ↓reduceIte, Nat.reduceEqDiff]))
  | (refine wpX_exit ?_; (try simp only [nq, ↓reduceIte, Nat.reduceEqDiff]))
  | (refine wpX_goto ?_; (try simp only [nq, ↓reduceIte, Nat.reduceEqDiff]))
  | (refine wpX_condK (by simp only [act_eval, upd_get, Nat.reduceEqDiff, Nat.reduceLT, ↓reduceIte, *]; rfl) ?_ ?_ <;> (intro hc; first | (exfalso; simp -implicitDefEqProofs (disch := omega) only [*, bq, reduceCtorEq] at hc; done) | (simp only [dq, qe3, qe4, qe5, qe6] at hc) | skip))
  | (refine wpX_scope0 ?_)
  | (refine wpX_block ?_)
  | (refine wpX_seq ?_))
      refine ⟨_, by omega, _, j + 1, L.set j (-1048576), rfl, hlt, by simp [hL], ?_, rfl, e0, e1, rfl, ?_⟩
      · intro k hk
        rw [List.getElem?_set]
        split
        · rename_i hjk; subst hjk; rw [if_pos (by omega)]
        · exact hLj k (by omega)
      · rw [← hG, set_set, ints_setL]
    · obtain rfl : j = 4 := by omega
      have hLr : L = List.replicate 4 (-1048576) := by
        apply List.ext_getElem?
        intro k
        by_cases hk : k < 4
        · rw [hLj k hk, List.getElem?_replicate, if_pos hk]
        · rw [List.getElem?_eq_none (by omega), List.getElem?_eq_none (by simp; omega)]
      subst hLr
      simp only [List.replicate, ints, List.map_cons, List.map_nil] at v1 ⊢
      repeat' (first
  | (refine wpX_stmtL rfl ?_; intro K hK; simp -implicitDefEqProofs (disch := first | omega | (simp only [qd] <;> omega)) only [xq, ↓xp, qc, Nat.reduceAdd, List.range, List.range.loop, fine, Nat.reduceEqDiff, ↓reduceIte, yielded, reduceCtorEq, Nat.reduceLT, Nat.reduceMul, Nat.reduceSub, one, Nat.reduceLeDiff, runX_cons, y65_39, aq, ↓ap, qe0, qe1, qe2, *, -hK]; try (refine hK _ _ ?_; clear hK K))
  | (refine wpX_lastL rfl ?_; intro K hK; simp -implicitDefEqProofs (disch := first | omega | (simp only [qd] <;> omega)) only [xq, ↓xp, qc, Nat.reduceAdd, List.range, List.range.loop, fine, Nat.reduceEqDiff, ↓reduceIte, yielded, reduceCtorEq, Nat.reduceLT, Nat.reduceMul, Nat.reduceSub, one, Nat.reduceLeDiff, runX_cons, y65_39, aq, ↓ap, qe0, qe1, qe2, *, -hK]; try (refine hK _ _ ?_; clear hK K; (try simp only [nq, ↓reduceIte, Nat.reduceEqDiff])))
  | (refine wpX_skip ?_; (try simp only [nq, ↓reduceIte, Nat.reduceEqDiff]))
  | (refine wpX_label ?_; (try simp only [nq, ↓reduceIte, Nat.reduceEqDiff]))
  | (refine wpX_exit ?_; (try simp only [nq, ↓reduceIte, Nat.reduceEqDiff]))
  | (refine wpX_goto ?_; (try simp only [nq, ↓reduceIte, Nat.reduceEqDiff]))
  | (refine wpX_condK (by simp only [act_eval, upd_get, Nat.reduceEqDiff, Nat.reduceLT, ↓reduceIte, *]; rfl) ?_ ?_ <;> (intro hc; first | (exfalso; simp -implicitDefEqProofs (disch := omega) only [*, bq, reduceCtorEq] at hc; done) | (simp only [dq, qe3, qe4, qe5, qe6] at hc) | skip))
  | (refine wpX_scope0 ?_)
  | (refine wpX_block ?_)
  | (refine wpX_seq ?_))
      (refine wpX_ret ?_; (try simp only [nq, ↓reduceIte, Nat.reduceEqDiff]); rw [bodyX_ret, results_cell Tryd.results65 (by decide) (b := rb) (o := 0) ?hcell Tryd.underlying136 rfl Tryd.sizeOf136]; (case hcell => exact e0); simp -implicitDefEqProofs (disch := first | omega | (simp only [qd] <;> omega)) only [xq, ↓xp, qc, Nat.reduceAdd, List.range, List.range.loop, fine, Nat.reduceEqDiff, ↓reduceIte, yielded, reduceCtorEq, Nat.reduceLT, Nat.reduceMul, Nat.reduceSub, one, Nat.reduceLeDiff, runX_cons, y65_39, loadA_set, List.extract_toArray])
      exact (lx.own hrb).toLe

/-- The barrow that is back first among the first k. -/
def pickB (bs : List Int) : Nat → Nat
  | 0 => 0
  | i + 1 => if i = 0 then 0 else if bs.getD i 0 < bs.getD (pickB bs i) 0 then i else pickB bs i
theorem pickB_lt (bs : List Int) : ∀ k, 0 < k → pickB bs k < k
  | 0, h => by omega
  | i + 1, _ => by
    unfold pickB
    split
    · omega
    · have := pickB_lt bs i (by omega)
      split <;> omega
theorem scp_g {c : Code} {I : Nat → Act → Hp → Prop} {Q : Exit → Act → Hp → Prop} {l : Nat} {a : Act} {H : Hp} (h : (findLabel c l).isSome = true) : scp c I Q (.goto l) a H = I l a H := by
  simp [scp, h]

theorem pick_spec (main : Bool) (H : Hp) (hb : Nat) (n : HN) (v : HV) (jv : Value) (hhb : H hb = some (true, n.obj v jv)) (b1 : 1 ≤ n.barrows) (b4 : n.barrows ≤ 4) (bs : List Int) (hbs : bs.length = 4) :
    FnX Tryd.prog main 74 #[.pointer (some ⟨hb, 0, none⟩), .agg (ints bs).toArray] H fun e H' => e = .returned (.int .i64 (pickB bs n.barrows.toNat)) ∧ H.le H' := by
  simp only [HN.obj] at hhb
  have hli : (ints bs).length = 4 := by rw [ints_len]; exact hbs
  have hint : ∀ k, k < 4 → (ints bs)[k]? = some (.int .i64 (bs.getD k 0)) := fun k hk => by
    rw [ints_get (List.getElem?_eq_getElem (show k < bs.length by omega))]
    simp [List.getD, List.getElem?_eq_getElem (show k < bs.length by omega)]
  refine FnX_start Tryd.func74 rfl Tryd.ntmps74 (by simp) ?_
  repeat' (first
  | (refine wpX_stmtL rfl ?_; intro K hK; simp -implicitDefEqProofs (disch := first | omega | (simp only [qd] <;> omega)) only [xq, ↓xp, qc, Nat.reduceAdd, List.range, List.range.loop, fine, Nat.reduceEqDiff, ↓reduceIte, yielded, reduceCtorEq, Nat.reduceLT, Nat.reduceMul, Nat.reduceSub, one, Nat.reduceLeDiff, runX_cons, y74_39, aq, ↓ap, qe0, qe1, qe2, *, -hK]; try (refine hK _ _ ?_; clear hK K))
  | (refine wpX_lastL rfl ?_; intro K hK; simp -implicitDefEqProofs (disch := first | omega | (simp only [qd] <;> omega)) only [xq, ↓xp, qc, Nat.reduceAdd, List.range, List.range.loop, fine, Nat.reduceEqDiff, ↓reduceIte, yielded, reduceCtorEq, Nat.reduceLT, Nat.reduceMul, Nat.reduceSub, one, Nat.reduceLeDiff, runX_cons, y74_39, aq, ↓ap, qe0, qe1, qe2, *, -hK]; try (refine hK _ _ ?_; clear hK K; (try simp only [nq, ↓reduceIte, Nat.reduceEqDiff])))
  | (refine wpX_skip ?_; (try simp only [nq, ↓reduceIte, Nat.reduceEqDiff]))
  | (refine wpX_label ?_; (try simp only [nq, ↓reduceIte, Nat.reduceEqDiff]))
  | (refine wpX_exit ?_; (try simp only [nq, ↓reduceIte, Nat.reduceEqDiff]))
  | (refine wpX_goto ?_; (try simp only [nq, ↓reduceIte, Nat.reduceEqDiff]))
  | (refine wpX_condK (by simp only [act_eval, upd_get, Nat.reduceEqDiff, Nat.reduceLT, ↓reduceIte, *]; rfl) ?_ ?_ <;> (intro hc; first | (exfalso; simp -implicitDefEqProofs (disch := omega) only [*, bq, reduceCtorEq] at hc; done) | (simp only [dq, qe3, qe4, qe5, qe6] at hc) | skip)))
  (intro cb hcb; generalize hG : Hp.set _ cb _ = H1; have lH1 := le_of_set hG hcb; have vcb := at_of_set hG; clear hG)
  have vhb1 := lH1 _ _ hhb
  (try simp -implicitDefEqProofs (disch := first | omega | (simp only [qd] <;> omega)) only [xq, ↓xp, qc, Nat.reduceAdd, List.range, List.range.loop, fine, Nat.reduceEqDiff, ↓reduceIte, yielded, reduceCtorEq, Nat.reduceLT, Nat.reduceMul, Nat.reduceSub, one, Nat.reduceLeDiff, runX_cons, y74_39, aq, ↓ap, qe0, qe1, qe2, *, -hK]); try (refine hK _ _ ?_; clear hK K; (try simp only [nq, ↓reduceIte, Nat.reduceEqDiff])); repeat' (first
  | (refine wpX_stmtL rfl ?_; intro K hK; simp -implicitDefEqProofs (disch := first | omega | (simp only [qd] <;> omega)) only [xq, ↓xp, qc, Nat.reduceAdd, List.range, List.range.loop, fine, Nat.reduceEqDiff, ↓reduceIte, yielded, reduceCtorEq, Nat.reduceLT, Nat.reduceMul, Nat.reduceSub, one, Nat.reduceLeDiff, runX_cons, y74_39, aq, ↓ap, qe0, qe1, qe2, *, -hK]; try (refine hK _ _ ?_; clear hK K))
  | (refine wpX_lastL rfl ?_; intro K hK; simp -implicitDefEqProofs (disch := first | omega | (simp only [qd] <;> omega)) only [xq, ↓xp, qc, Nat.reduceAdd, List.range, List.range.loop, fine, Nat.reduceEqDiff, ↓reduceIte, yielded, reduceCtorEq, Nat.reduceLT, Nat.reduceMul, Nat.reduceSub, one, Nat.reduceLeDiff, runX_cons, y74_39, aq, ↓ap, qe0, qe1, qe2, *, -hK]; try (refine hK _ _ ?_; clear hK K; (try simp only [nq, ↓reduceIte, Nat.reduceEqDiff])))
  | (refine wpX_skip ?_; (try simp only [nq, ↓reduceIte, Nat.reduceEqDiff]))
  | (refine wpX_label ?_; (try simp only [nq, ↓reduceIte, Nat.reduceEqDiff]))
  | (refine wpX_exit ?_; (try simp only [nq, ↓reduceIte, Nat.reduceEqDiff]))
  | (refine wpX_goto ?_; (try simp only [nq, ↓reduceIte, Nat.reduceEqDiff]))
  | (refine wpX_condK (by simp only [act_eval, upd_get, Nat.reduceEqDiff, Nat.reduceLT, ↓reduceIte, *]; rfl) ?_ ?_ <;> (intro hc; first | (exfalso; simp -implicitDefEqProofs (disch := omega) only [*, bq, reduceCtorEq] at hc; done) | (simp only [dq, qe3, qe4, qe5, qe6] at hc) | skip)))
  refine wpX_scope (fun l w a' H' => ∃ e i, w = 5 - i ∧ 1 ≤ i ∧ (i : Int) ≤ n.barrows ∧ a' = act 25 e [] ∧ e 0 = .pointer (some ⟨hb, 0, none⟩) ∧ e 3 = .pointer (some ⟨cb, 0, none⟩) ∧ e 5 = .int .i64 (pickB bs i : Nat) ∧ e 6 = .int .i64 (i : Nat) ∧ H' = H1) ?_ ?_
  · refine wpX_cut (fun a' H' => ∃ e, a' = act 25 e [] ∧ e 0 = .pointer (some ⟨hb, 0, none⟩) ∧ e 3 = .pointer (some ⟨cb, 0, none⟩) ∧ e 5 = .int .i64 (0 : Nat) ∧ e 6 = .int .i64 (1 : Nat) ∧ H' = H1) ?_ ?_
    · repeat' (first
  | (refine wpX_stmtL rfl ?_; intro K hK; simp -implicitDefEqProofs (disch := first | omega | (simp only [qd] <;> omega)) only [xq, ↓xp, qc, Nat.reduceAdd, List.range, List.range.loop, fine, Nat.reduceEqDiff, ↓reduceIte, yielded, reduceCtorEq, Nat.reduceLT, Nat.reduceMul, Nat.reduceSub, one, Nat.reduceLeDiff, runX_cons, y74_39, aq, ↓ap, qe0, qe1, qe2, *, -hK]; try (refine hK _ _ ?_; clear hK K))
  | (refine wpX_lastL rfl ?_; intro K hK; simp -implicitDefEqProofs (disch := first | omega | (simp only [qd] <;> omega)) only [xq, ↓xp, qc, Nat.reduceAdd, List.range, List.range.loop, fine, Nat.reduceEqDiff, ↓reduceIte, yielded, reduceCtorEq, Nat.reduceLT, Nat.reduceMul, Nat.reduceSub, one, Nat.reduceLeDiff, runX_cons, y74_39, aq, ↓ap, qe0, qe1, qe2, *, -hK]; try (refine hK _ _ ?_; clear hK K; (try simp only [nq, ↓reduceIte, Nat.reduceEqDiff])))
  | (refine wpX_skip ?_; (try simp only [nq, ↓reduceIte, Nat.reduceEqDiff]))
  | (refine wpX_label ?_; (try simp only [nq, ↓reduceIte, Nat.reduceEqDiff]))
  | (refine wpX_exit ?_; (try simp only [nq, ↓reduceIte, Nat.reduceEqDiff]))
  | (refine wpX_goto ?_; (try simp only [nq, ↓reduceIte, Nat.reduceEqDiff]))
  | (refine wpX_condK (by simp only [act_eval, upd_get, Nat.reduceEqDiff, Nat.reduceLT, ↓reduceIte, *]; rfl) ?_ ?_ <;> (intro hc; first | (exfalso; simp -implicitDefEqProofs (disch := omega) only [*, bq, reduceCtorEq] at hc; done) | (simp only [dq, qe3, qe4, qe5, qe6] at hc) | skip)))
      exact ⟨_, rfl, rfl, rfl, rfl, rfl, by trivial⟩
    · rintro a' H' ⟨e, rfl, e0, e3, e5, e6, hH⟩
      rw [hH]; clear hH H'
      have hP0 : (0 : Nat) = pickB bs 1 := by simp [pickB]
      rw [hP0] at e5
      clear hP0
      have hex : ∃ i : Nat, 1 ≤ i ∧ (i : Int) ≤ n.barrows ∧ e 5 = .int .i64 (pickB bs i : Nat) ∧ e 6 = .int .i64 (i : Nat) := ⟨1, by omega, by omega, e5, e6⟩
      clear e5 e6
      obtain ⟨i, hi1, hib, e5, e6⟩ := hex
      by_cases hlt : (i : Int) < n.barrows
      · have hbi := hint i (by omega)
        have hpl := pickB_lt bs i (by omega)
        have hbb := hint (pickB bs i) (by omega)
        have hsucc : pickB bs (i + 1) = if bs.getD i 0 < bs.getD (pickB bs i) 0 then i else pickB bs i := by
          simp only [pickB]
          rw [if_neg (by omega)]
        generalize hP1 : pickB bs (i + 1) = P1 at hsucc
        generalize pickB bs i = P0 at hsucc e5 hpl hbb
        repeat' (first
  | (refine wpX_stmtL rfl ?_; intro K hK; simp -implicitDefEqProofs (disch := first | omega | (simp only [qd] <;> omega)) only [xq, ↓xp, qc, Nat.reduceAdd, List.range, List.range.loop, fine, Nat.reduceEqDiff, ↓reduceIte, yielded, reduceCtorEq, Nat.reduceLT, Nat.reduceMul, Nat.reduceSub, one, Nat.reduceLeDiff, runX_cons, y74_39, aq, ↓ap, qe0, qe1, qe2, *, -hK]; try (refine hK _ _ ?_; clear hK K))
  | (refine wpX_lastL rfl ?_; intro K hK; simp -implicitDefEqProofs (disch := first | omega | (simp only [qd] <;> omega)) only [xq, ↓xp, qc, Nat.reduceAdd, List.range, List.range.loop, fine, Nat.reduceEqDiff, ↓reduceIte, yielded, reduceCtorEq, Nat.reduceLT, Nat.reduceMul, Nat.reduceSub, one, Nat.reduceLeDiff, runX_cons, y74_39, aq, ↓ap, qe0, qe1, qe2, *, -hK]; try (refine hK _ _ ?_; clear hK K; (try simp only [nq, ↓reduceIte, Nat.reduceEqDiff])))
  | (refine wpX_skip ?_; (try simp only [nq, ↓reduceIte, Nat.reduceEqDiff]))
  | (refine wpX_label ?_; (try simp only [nq, ↓reduceIte, Nat.reduceEqDiff]))
  | (refine wpX_exit ?_; (try simp only [nq, ↓reduceIte, Nat.reduceEqDiff]))
  | (refine wpX_goto ?_; (try simp only [nq, ↓reduceIte, Nat.reduceEqDiff]))
  | (refine wpX_condK (by simp only [act_eval, upd_get, Nat.reduceEqDiff, Nat.reduceLT, ↓reduceIte, *]; rfl) ?_ ?_ <;> (intro hc; first | (exfalso; simp -implicitDefEqProofs (disch := omega) only [*, bq, reduceCtorEq] at hc; done) | (simp only [dq, qe3, qe4, qe5, qe6] at hc) | skip))
  | (refine wpX_scope0 ?_)
  | (refine wpX_block ?_)
  | (refine wpX_seq ?_))
        (refine wpX_dst1 7 [(true, 0), (true, 1), (true, 2), (true, 3), (true, 4), (true, 5), (true, 6)] (by kernel_rfl) (by kernel_rfl) (by simp) (by kernel_rfl) ?_; intro K hK; (iterate 7 (apply plan_take rfl rfl rfl; (focus (simp -implicitDefEqProofs (disch := first | omega | (simp only [qd] <;> omega)) only [xq, ↓xp, qc, Nat.reduceAdd, List.range, List.range.loop, fine, Nat.reduceEqDiff, ↓reduceIte, yielded, reduceCtorEq, Nat.reduceLT, Nat.reduceMul, Nat.reduceSub, one, Nat.reduceLeDiff, runX_cons, y74_39, aq, ↓ap, qe0, qe1, qe2, *, -hK, YN_value] <;> (first | exact rfl | exact ⟨rfl, rfl⟩ | exact ⟨rfl, trivial⟩))); simp -implicitDefEqProofs (disch := first | omega | (simp only [qd] <;> omega)) only [act_put, act_put_none])); refine plan_nil (hK _ _ ?_); clear hK K; (try simp only [nq, ↓reduceIte, Nat.reduceEqDiff]))
        repeat' (first
  | (refine wpX_stmtL rfl ?_; intro K hK; simp -implicitDefEqProofs (disch := first | omega | (simp only [qd] <;> omega)) only [xq, ↓xp, qc, Nat.reduceAdd, List.range, List.range.loop, fine, Nat.reduceEqDiff, ↓reduceIte, yielded, reduceCtorEq, Nat.reduceLT, Nat.reduceMul, Nat.reduceSub, one, Nat.reduceLeDiff, runX_cons, y74_39, aq, ↓ap, qe0, qe1, qe2, *, -hK]; try (refine hK _ _ ?_; clear hK K))
  | (refine wpX_lastL rfl ?_; intro K hK; simp -implicitDefEqProofs (disch := first | omega | (simp only [qd] <;> omega)) only [xq, ↓xp, qc, Nat.reduceAdd, List.range, List.range.loop, fine, Nat.reduceEqDiff, ↓reduceIte, yielded, reduceCtorEq, Nat.reduceLT, Nat.reduceMul, Nat.reduceSub, one, Nat.reduceLeDiff, runX_cons, y74_39, aq, ↓ap, qe0, qe1, qe2, *, -hK]; try (refine hK _ _ ?_; clear hK K; (try simp only [nq, ↓reduceIte, Nat.reduceEqDiff])))
  | (refine wpX_skip ?_; (try simp only [nq, ↓reduceIte, Nat.reduceEqDiff]))
  | (refine wpX_label ?_; (try simp only [nq, ↓reduceIte, Nat.reduceEqDiff]))
  | (refine wpX_exit ?_; (try simp only [nq, ↓reduceIte, Nat.reduceEqDiff]))
  | (refine wpX_goto ?_; (try simp only [nq, ↓reduceIte, Nat.reduceEqDiff]))
  | (refine wpX_condK (by simp only [act_eval, upd_get, Nat.reduceEqDiff, Nat.reduceLT, ↓reduceIte, *]; rfl) ?_ ?_ <;> (intro hc; first | (exfalso; simp -implicitDefEqProofs (disch := omega) only [*, bq, reduceCtorEq] at hc; done) | (simp only [dq, qe3, qe4, qe5, qe6] at hc) | skip))
  | (refine wpX_scope0 ?_)
  | (refine wpX_block ?_)
  | (refine wpX_seq ?_))
        · rw [if_pos hc] at hsucc
          rw [scp_g (by rfl)]
          exact ⟨_, _, i + 1, rfl, by omega, by omega, rfl, e0, e3, by rw [hP1, hsucc]; rfl, rfl, by trivial⟩
        · rw [if_neg (by omega)] at hsucc
          rw [scp_g (by rfl)]
          exact ⟨_, _, i + 1, rfl, by omega, by omega, rfl, e0, e3, by rw [hP1, hsucc]; exact e5, rfl, by trivial⟩
      · have hie : n.barrows.toNat = i := by omega
        repeat' (first
  | (refine wpX_stmtL rfl ?_; intro K hK; simp -implicitDefEqProofs (disch := first | omega | (simp only [qd] <;> omega)) only [xq, ↓xp, qc, Nat.reduceAdd, List.range, List.range.loop, fine, Nat.reduceEqDiff, ↓reduceIte, yielded, reduceCtorEq, Nat.reduceLT, Nat.reduceMul, Nat.reduceSub, one, Nat.reduceLeDiff, runX_cons, y74_39, aq, ↓ap, qe0, qe1, qe2, *, -hK]; try (refine hK _ _ ?_; clear hK K))
  | (refine wpX_lastL rfl ?_; intro K hK; simp -implicitDefEqProofs (disch := first | omega | (simp only [qd] <;> omega)) only [xq, ↓xp, qc, Nat.reduceAdd, List.range, List.range.loop, fine, Nat.reduceEqDiff, ↓reduceIte, yielded, reduceCtorEq, Nat.reduceLT, Nat.reduceMul, Nat.reduceSub, one, Nat.reduceLeDiff, runX_cons, y74_39, aq, ↓ap, qe0, qe1, qe2, *, -hK]; try (refine hK _ _ ?_; clear hK K; (try simp only [nq, ↓reduceIte, Nat.reduceEqDiff])))
  | (refine wpX_skip ?_; (try simp only [nq, ↓reduceIte, Nat.reduceEqDiff]))
  | (refine wpX_label ?_; (try simp only [nq, ↓reduceIte, Nat.reduceEqDiff]))
  | (refine wpX_exit ?_; (try simp only [nq, ↓reduceIte, Nat.reduceEqDiff]))
  | (refine wpX_goto ?_; (try simp only [nq, ↓reduceIte, Nat.reduceEqDiff]))
  | (refine wpX_condK (by simp only [act_eval, upd_get, Nat.reduceEqDiff, Nat.reduceLT, ↓reduceIte, *]; rfl) ?_ ?_ <;> (intro hc; first | (exfalso; simp -implicitDefEqProofs (disch := omega) only [*, bq, reduceCtorEq] at hc; done) | (simp only [dq, qe3, qe4, qe5, qe6] at hc) | skip))
  | (refine wpX_scope0 ?_)
  | (refine wpX_block ?_)
  | (refine wpX_seq ?_))
        (refine wpX_ret ?_; (try simp only [nq, ↓reduceIte, Nat.reduceEqDiff]); rw [bodyX_ret, results_one Tryd.results74 (by decide)]; simp only [upd_get, Nat.reduceEqDiff, ↓reduceIte])
        exact ⟨by rw [hie], lH1⟩
  · rintro l rest w a' H' hf ⟨e, i, rfl, hi1, hib, rfl, e0, e3, e5, e6, hH⟩
    rw [hH]; clear hH H'
    have hl : l = 0 := by
      apply Decidable.byContradiction
      intro hl
      have h9 : (0 == l) = false := by simp; omega
      simp only [findLabel, h9, Bool.false_eq_true, if_false] at hf
      cases hf
    subst hl
    simp only [findLabel, beq_self_eq_true, if_true, Option.some.injEq] at hf
    subst hf
    refine wpX_seq (wpX_skip ?_)
    (try simp only [nq, ↓reduceIte, Nat.reduceEqDiff])
    by_cases hlt : (i : Int) < n.barrows
    · have hbi := hint i (by omega)
      have hpl := pickB_lt bs i (by omega)
      have hbb := hint (pickB bs i) (by omega)
      have hsucc : pickB bs (i + 1) = if bs.getD i 0 < bs.getD (pickB bs i) 0 then i else pickB bs i := by
        simp only [pickB]
        rw [if_neg (by omega)]
      generalize hP1 : pickB bs (i + 1) = P1 at hsucc
      generalize pickB bs i = P0 at hsucc e5 hpl hbb
      repeat' (first
  | (refine wpX_stmtL rfl ?_; intro K hK; simp -implicitDefEqProofs (disch := first | omega | (simp only [qd] <;> omega)) only [xq, ↓xp, qc, Nat.reduceAdd, List.range, List.range.loop, fine, Nat.reduceEqDiff, ↓reduceIte, yielded, reduceCtorEq, Nat.reduceLT, Nat.reduceMul, Nat.reduceSub, one, Nat.reduceLeDiff, runX_cons, y74_39, aq, ↓ap, qe0, qe1, qe2, *, -hK]; try (refine hK _ _ ?_; clear hK K))
  | (refine wpX_lastL rfl ?_; intro K hK; simp -implicitDefEqProofs (disch := first | omega | (simp only [qd] <;> omega)) only [xq, ↓xp, qc, Nat.reduceAdd, List.range, List.range.loop, fine, Nat.reduceEqDiff, ↓reduceIte, yielded, reduceCtorEq, Nat.reduceLT, Nat.reduceMul, Nat.reduceSub, one, Nat.reduceLeDiff, runX_cons, y74_39, aq, ↓ap, qe0, qe1, qe2, *, -hK]; try (refine hK _ _ ?_; clear hK K; (try simp only [nq, ↓reduceIte, Nat.reduceEqDiff])))
  | (refine wpX_skip ?_; (try simp only [nq, ↓reduceIte, Nat.reduceEqDiff]))
  | (refine wpX_label ?_; (try simp only [nq, ↓reduceIte, Nat.reduceEqDiff]))
  | (refine wpX_exit ?_; (try simp only [nq, ↓reduceIte, Nat.reduceEqDiff]))
  | (refine wpX_goto ?_; (try simp only [nq, ↓reduceIte, Nat.reduceEqDiff]))
  | (refine wpX_condK (by simp only [act_eval, upd_get, Nat.reduceEqDiff, Nat.reduceLT, ↓reduceIte, *]; rfl) ?_ ?_ <;> (intro hc; first | (exfalso; simp -implicitDefEqProofs (disch := omega) only [*, bq, reduceCtorEq] at hc; done) | (simp only [dq, qe3, qe4, qe5, qe6] at hc) | skip))
  | (refine wpX_scope0 ?_)
  | (refine wpX_block ?_)
  | (refine wpX_seq ?_))
      (refine wpX_dst1 7 [(true, 0), (true, 1), (true, 2), (true, 3), (true, 4), (true, 5), (true, 6)] (by kernel_rfl) (by kernel_rfl) (by simp) (by kernel_rfl) ?_; intro K hK; (iterate 7 (apply plan_take rfl rfl rfl; (focus (simp -implicitDefEqProofs (disch := first | omega | (simp only [qd] <;> omega)) only [xq, ↓xp, qc, Nat.reduceAdd, List.range, List.range.loop, fine, Nat.reduceEqDiff, ↓reduceIte, yielded, reduceCtorEq, Nat.reduceLT, Nat.reduceMul, Nat.reduceSub, one, Nat.reduceLeDiff, runX_cons, y74_39, aq, ↓ap, qe0, qe1, qe2, *, -hK, YN_value] <;> (first | exact rfl | exact ⟨rfl, rfl⟩ | exact ⟨rfl, trivial⟩))); simp -implicitDefEqProofs (disch := first | omega | (simp only [qd] <;> omega)) only [act_put, act_put_none])); refine plan_nil (hK _ _ ?_); clear hK K; (try simp only [nq, ↓reduceIte, Nat.reduceEqDiff]))
      repeat' (first
  | (refine wpX_stmtL rfl ?_; intro K hK; simp -implicitDefEqProofs (disch := first | omega | (simp only [qd] <;> omega)) only [xq, ↓xp, qc, Nat.reduceAdd, List.range, List.range.loop, fine, Nat.reduceEqDiff, ↓reduceIte, yielded, reduceCtorEq, Nat.reduceLT, Nat.reduceMul, Nat.reduceSub, one, Nat.reduceLeDiff, runX_cons, y74_39, aq, ↓ap, qe0, qe1, qe2, *, -hK]; try (refine hK _ _ ?_; clear hK K))
  | (refine wpX_lastL rfl ?_; intro K hK; simp -implicitDefEqProofs (disch := first | omega | (simp only [qd] <;> omega)) only [xq, ↓xp, qc, Nat.reduceAdd, List.range, List.range.loop, fine, Nat.reduceEqDiff, ↓reduceIte, yielded, reduceCtorEq, Nat.reduceLT, Nat.reduceMul, Nat.reduceSub, one, Nat.reduceLeDiff, runX_cons, y74_39, aq, ↓ap, qe0, qe1, qe2, *, -hK]; try (refine hK _ _ ?_; clear hK K; (try simp only [nq, ↓reduceIte, Nat.reduceEqDiff])))
  | (refine wpX_skip ?_; (try simp only [nq, ↓reduceIte, Nat.reduceEqDiff]))
  | (refine wpX_label ?_; (try simp only [nq, ↓reduceIte, Nat.reduceEqDiff]))
  | (refine wpX_exit ?_; (try simp only [nq, ↓reduceIte, Nat.reduceEqDiff]))
  | (refine wpX_goto ?_; (try simp only [nq, ↓reduceIte, Nat.reduceEqDiff]))
  | (refine wpX_condK (by simp only [act_eval, upd_get, Nat.reduceEqDiff, Nat.reduceLT, ↓reduceIte, *]; rfl) ?_ ?_ <;> (intro hc; first | (exfalso; simp -implicitDefEqProofs (disch := omega) only [*, bq, reduceCtorEq] at hc; done) | (simp only [dq, qe3, qe4, qe5, qe6] at hc) | skip))
  | (refine wpX_scope0 ?_)
  | (refine wpX_block ?_)
  | (refine wpX_seq ?_))
      · rw [if_pos hc] at hsucc
        rw [scp_g (by rfl)]
        exact ⟨_, by omega, _, i + 1, rfl, by omega, by omega, rfl, e0, e3, by rw [hP1, hsucc]; rfl, rfl, by trivial⟩
      · rw [if_neg (by omega)] at hsucc
        rw [scp_g (by rfl)]
        exact ⟨_, by omega, _, i + 1, rfl, by omega, by omega, rfl, e0, e3, by rw [hP1, hsucc]; exact e5, rfl, by trivial⟩
    · have hie : n.barrows.toNat = i := by omega
      repeat' (first
  | (refine wpX_stmtL rfl ?_; intro K hK; simp -implicitDefEqProofs (disch := first | omega | (simp only [qd] <;> omega)) only [xq, ↓xp, qc, Nat.reduceAdd, List.range, List.range.loop, fine, Nat.reduceEqDiff, ↓reduceIte, yielded, reduceCtorEq, Nat.reduceLT, Nat.reduceMul, Nat.reduceSub, one, Nat.reduceLeDiff, runX_cons, y74_39, aq, ↓ap, qe0, qe1, qe2, *, -hK]; try (refine hK _ _ ?_; clear hK K))
  | (refine wpX_lastL rfl ?_; intro K hK; simp -implicitDefEqProofs (disch := first | omega | (simp only [qd] <;> omega)) only [xq, ↓xp, qc, Nat.reduceAdd, List.range, List.range.loop, fine, Nat.reduceEqDiff, ↓reduceIte, yielded, reduceCtorEq, Nat.reduceLT, Nat.reduceMul, Nat.reduceSub, one, Nat.reduceLeDiff, runX_cons, y74_39, aq, ↓ap, qe0, qe1, qe2, *, -hK]; try (refine hK _ _ ?_; clear hK K; (try simp only [nq, ↓reduceIte, Nat.reduceEqDiff])))
  | (refine wpX_skip ?_; (try simp only [nq, ↓reduceIte, Nat.reduceEqDiff]))
  | (refine wpX_label ?_; (try simp only [nq, ↓reduceIte, Nat.reduceEqDiff]))
  | (refine wpX_exit ?_; (try simp only [nq, ↓reduceIte, Nat.reduceEqDiff]))
  | (refine wpX_goto ?_; (try simp only [nq, ↓reduceIte, Nat.reduceEqDiff]))
  | (refine wpX_condK (by simp only [act_eval, upd_get, Nat.reduceEqDiff, Nat.reduceLT, ↓reduceIte, *]; rfl) ?_ ?_ <;> (intro hc; first | (exfalso; simp -implicitDefEqProofs (disch := omega) only [*, bq, reduceCtorEq] at hc; done) | (simp only [dq, qe3, qe4, qe5, qe6] at hc) | skip))
  | (refine wpX_scope0 ?_)
  | (refine wpX_block ?_)
  | (refine wpX_seq ?_))
      (refine wpX_ret ?_; (try simp only [nq, ↓reduceIte, Nat.reduceEqDiff]); rw [bodyX_ret, results_one Tryd.results74 (by decide)]; simp only [upd_get, Nat.reduceEqDiff, ↓reduceIte])
      exact ⟨by rw [hie], lH1⟩
end Go.Proofs.YtiempdpjcddgfaaDoor
end
section
/- A trip. -/
set_option linter.unusedSimpArgs false
set_option maxRecDepth 100000
set_option maxHeartbeats 1000000
set_option linter.unusedVariables false
namespace Go.X
open Go
theorem results_cell_cell {P : Program} {H : Hp} {fn : Func} {t u : Tmp} {ty ty2 : TypeId} (h : fn.results = #[.cell t ty, .cell u ty2]) {n : Nat} {e : Nat → Value} {ds : List Deferred} (ht : t < n) (hu' : u < n) {b o b2 o2 : Nat} (hb : e t = .pointer (some ⟨b, o, none⟩)) (hb2 : e u = .pointer (some ⟨b2, o2, none⟩))
    {d : TypeDesc} (hu : P.underlying ty = some d) (hd : aggB d = true) {k : Nat} (hs : ∀ w, (sizeOf ty).run P w = .ok (k + 1) w) {d2 : TypeDesc} (hu2 : P.underlying ty2 = some d2) (hd2 : aggB d2 = true) {k2 : Nat} (hs2 : ∀ w, (sizeOf ty2).run P w = .ok (k2 + 1) w) (K : Value → Hp → Prop) (E : Value → Hp → Prop) :
    wpS P (results fn (act n e ds).tmps) H K E = loadA H b o (k + 1) (fun v => loadA H b2 o2 (k2 + 1) fun w => K (.tuple #[v, w]) H) := by
  simp [-bind_pure_comp, results, h, act_get? ht, act_get? hu', hb, hb2, asAddr, wpS_bind', wpS_pure, loadVar_agg hu hd hs, loadVar_agg hu2 hd2 hs2]
end Go.X
namespace Go.Proofs.YtiempdpjcddgfaaDoor
open Go Go.X
set_option linter.defProp false
def y66_40 := And.intro (fun H => ex_alloc (H := H) (P := Tryd.prog) (h := Tryd.zeroValue108)) (And.intro (fun H => ex_alloc (H := H) (P := Tryd.prog) (h := Tryd.zeroValue136)) (And.intro (fun H => loadAt_aggE (H := H) Tryd.underlying136 rfl Tryd.sizeOf136) (And.intro @callF74 (And.intro (fun H => fieldAt_eq (H := H) Tryd.underlying68 (i := 0) rfl (off := 0) rfl Tryd.sizeOf29) (And.intro (fun H => fieldAt_eq (H := H) Tryd.underlying29 (i := 3) rfl (off := 6) rfl Tryd.sizeOf22) (And.intro (fun H => loadAt_one (H := H) Tryd.underlying22 rfl) (And.intro (fun H => fieldAt_eq (H := H) Tryd.underlying68 (i := 1) rfl (off := 12) rfl Tryd.sizeOf22) (And.intro (fun H => indexAt_slice (H := H) Tryd.underlying22 Tryd.sizeOf3) (And.intro (fun H => loadAt_one (H := H) Tryd.underlying3 rfl) (And.intro (fun H => fieldAt_eq (H := H) Tryd.underlying29 (i := 4) rfl (off := 7) rfl Tryd.sizeOf3) (And.intro (fun H => indexAt_array (H := H) Tryd.underlying136 Tryd.sizeOf3) (And.intro @max_int (And.intro @bld_108_0_1_0 (And.intro (fun H => storeAt_agg (H := H) Tryd.sizeOf108) (And.intro (fun H => fieldAt_eq (H := H) Tryd.underlying108 (i := 1) rfl (off := 1) rfl Tryd.sizeOf3) (And.intro (fun H => fieldAt_eq (H := H) Tryd.underlying108 (i := 2) rfl (off := 2) rfl Tryd.sizeOf3) (And.intro (fun H => storeAt_int (H := H) Tryd.sizeOf3) (And.intro (fun H => loadAt_aggE (H := H) Tryd.underlying108 rfl Tryd.sizeOf108) (fun H => storeAt_agg (H := H) Tryd.sizeOf136)))))))))))))))))))

/-- What a haul at work knows. -/
structure HaulAt (H : Hp) (hb : Nat) (n : HN) (v : HV) (jv : Value) (js : List Int) : Prop where
  o : H hb = some (true, n.obj v jv)
  x : SlI H v.xv n.xs
  j : SlI H jv js
  b1 : 1 ≤ n.barrows
  b4 : n.barrows ≤ 4
  n0 : 0 ≤ n.notice
  n30 : n.notice ≤ 30
  xb : ∀ x ∈ n.xs, 0 ≤ x ∧ x ≤ 99
  jb : ∀ i ∈ js, 0 ≤ i ∧ i < n.xs.length
  jl : js.length ≤ 1000
theorem HaulAt.le {H H' : Hp} {hb : Nat} {n : HN} {v : HV} {jv : Value} {js : List Int} (h : HaulAt H hb n v jv js) (hl : H.le H') : HaulAt H' hb n v jv js := { h with o := hl _ _ h.o, x := h.x.le hl, j := h.j.le hl }

/-- When a job's piece is asked for. -/
def HN.due (n : HN) (js : List Int) (k : Nat) : Int := n.xs.getD (js.getD k 0).toNat 0
/-- The next trip. -/
structure RideV where
  barrow : Int
  out : Int
  back : Int
def rideF (n : HN) (js bs : List Int) (from_ many : Nat) (mi : Int) : RideV :=
  let p := pickB bs n.barrows.toNat
  let o := max (bs.getD p 0) (n.due js (from_ + many - 1) - n.notice)
  ⟨p, o, o + mi⟩
def RideV.agg (r : RideV) : Value := .agg #[.int .i64 r.barrow, .int .i64 r.out, .int .i64 r.back]

theorem ride_spec (main : Bool) (H : Hp) (hb : Nat) (n : HN) (v : HV) (jv : Value) (js : List Int) (hh : HaulAt H hb n v jv js) (bs : List Int) (hbs : bs.length = 4) (hbb : ∀ x ∈ bs, -1048576 ≤ x ∧ x ≤ 1000000) (f m : Nat) (hm : 1 ≤ m) (hf : f + m ≤ js.length) (mi : Int) (hm1 : 1 ≤ mi) (hm2 : mi ≤ 20) :
    FnX Tryd.prog main 66 #[.pointer (some ⟨hb, 0, none⟩), .agg (ints bs).toArray, .int .i64 f, .int .i64 m, .int .i64 mi] H fun e H' =>
      e = .returned (.tuple #[(rideF n js bs f m mi).agg, .agg (ints (bs.set (pickB bs n.barrows.toNat) (rideF n js bs f m mi).back)).toArray]) ∧ H.le H' := by
  have hpl := pickB_lt bs n.barrows.toNat (by have := hh.b1; omega)
  have hb4 := hh.b4
  have hb1 := hh.b1
  have hn0 := hh.n0
  have hn30 := hh.n30
  have hjl := hh.jl
  have hli : (ints bs).length = 4 := by rw [ints_len]; exact hbs
  have hpb : (ints bs)[pickB bs n.barrows.toNat]? = some (.int .i64 (bs.getD (pickB bs n.barrows.toNat) 0)) := by
    rw [ints_get (List.getElem?_eq_getElem (show pickB bs n.barrows.toNat < bs.length by omega))]
    simp [List.getD, List.getElem?_eq_getElem (show pickB bs n.barrows.toNat < bs.length by omega)]
  have hpr : -1048576 ≤ bs.getD (pickB bs n.barrows.toNat) 0 ∧ bs.getD (pickB bs n.barrows.toNat) 0 ≤ 1000000 := by
    simp [List.getD, List.getElem?_eq_getElem (show pickB bs n.barrows.toNat < bs.length by omega)]
    exact hbb _ (List.getElem_mem _)
  have hjk : js.getD (f + m - 1) 0 = js[f + m - 1]'(by omega) := by simp [List.getD, List.getElem?_eq_getElem (show f + m - 1 < js.length by omega)]
  have hjr := hh.jb _ (List.getElem_mem (show f + m - 1 < js.length by omega))
  rw [← hjk] at hjr
  have hdue : n.due js (f + m - 1) = n.xs[(js.getD (f + m - 1) 0).toNat]'(by omega) := by simp [HN.due, List.getD, List.getElem?_eq_getElem (show (js[f + m - 1]?.getD 0).toNat < n.xs.length by simpa [List.getD] using (by omega : (js.getD (f + m - 1) 0).toNat < n.xs.length))]
  have hxr := hh.xb _ (List.getElem_mem (show (js.getD (f + m - 1) 0).toNat < n.xs.length by omega))
  rw [← hdue] at hxr
  obtain ⟨jb, jo, jc, jp, jcs, jfr, rfl, _, vjb, hjx⟩ := hh.j.cons (fun h => absurd (congrArg List.length h) (by simp only [List.length_nil]; omega))
  obtain ⟨sv, cv, tv, xv⟩ := v
  have hhx := hh.x
  simp only [] at hhx
  obtain ⟨xb, xo, xc, xpp, xcs, xfr, rfl, _, vxb, hxx⟩ := hhx.cons (fun h => absurd (congrArg List.length h) (by simp only [List.length_nil]; omega))
  have hj1 : jcs[jo + (f + m - 1)]? = some (.int .i64 (js.getD (f + m - 1) 0)) := by rw [hjk]; exact hjx _ _ (List.getElem?_eq_getElem _)
  have hx1 : xcs[xo + (js.getD (f + m - 1) 0).toNat]? = some (.int .i64 (n.due js (f + m - 1))) := by rw [hdue]; exact hxx _ _ (List.getElem?_eq_getElem _)
  have hfm : ((f : Int) + (m : Int) - 1).toNat = f + m - 1 := by omega
  have hho := hh.o
  simp only [HN.obj] at hho
  refine FnX_start Tryd.func66 rfl Tryd.ntmps66 (by simp) ?_
  clear hjx hxx hdue hjk
  simp only [rideF]
  generalize n.due js (f + m - 1) = due at *
  generalize js.getD (f + m - 1) 0 = jk at *
  generalize hPP : pickB bs n.barrows.toNat = P at *
  generalize hB0 : bs.getD P 0 = B0 at *
  have htk4 : (ints bs).take 4 = ints bs := List.take_of_length_le (by omega)
  repeat' (first
  | (refine wpX_stmtL rfl ?_; intro K hK; simp -implicitDefEqProofs (disch := first | omega | (simp only [qd] <;> omega)) only [xq, ↓xp, qc, Nat.reduceAdd, List.range, List.range.loop, fine, Nat.reduceEqDiff, ↓reduceIte, yielded, reduceCtorEq, Nat.reduceLT, Nat.reduceMul, Nat.reduceSub, one, Nat.reduceLeDiff, runX_cons, y66_40, aq, ↓ap, qe0, qe1, qe2, *, -hK]; try (refine hK _ _ ?_; clear hK K))
  | (refine wpX_lastL rfl ?_; intro K hK; simp -implicitDefEqProofs (disch := first | omega | (simp only [qd] <;> omega)) only [xq, ↓xp, qc, Nat.reduceAdd, List.range, List.range.loop, fine, Nat.reduceEqDiff, ↓reduceIte, yielded, reduceCtorEq, Nat.reduceLT, Nat.reduceMul, Nat.reduceSub, one, Nat.reduceLeDiff, runX_cons, y66_40, aq, ↓ap, qe0, qe1, qe2, *, -hK]; try (refine hK _ _ ?_; clear hK K; (try simp only [nq, ↓reduceIte, Nat.reduceEqDiff])))
  | (refine wpX_skip ?_; (try simp only [nq, ↓reduceIte, Nat.reduceEqDiff]))
  | (refine wpX_label ?_; (try simp only [nq, ↓reduceIte, Nat.reduceEqDiff]))
  | (refine wpX_exit ?_; (try simp only [nq, ↓reduceIte, Nat.reduceEqDiff]))
  | (refine wpX_goto ?_; (try simp only [nq, ↓reduceIte, Nat.reduceEqDiff]))
  | (refine wpX_condK (by simp only [act_eval, upd_get, Nat.reduceEqDiff, Nat.reduceLT, ↓reduceIte, *]; rfl) ?_ ?_ <;> (intro hc; first | (exfalso; simp -implicitDefEqProofs (disch := omega) only [*, bq, reduceCtorEq] at hc; done) | (simp only [dq, qe3, qe4, qe5, qe6] at hc) | skip))
  | (refine wpX_scope0 ?_)
  | (refine wpX_block ?_)
  | (refine wpX_seq ?_))
  intro b1 hb1 b2 hb2 b3 hb3
  replace hb2 : (H.set b1 (.cells (ints bs).toArray 136 (0, 0))) b2 = none := hb2
  replace hb3 : ((H.set b1 (.cells (ints bs).toArray 136 (0, 0))).set b2 (.cells #[.int .i64 0, .int .i64 0, .int .i64 0] 108 (0, 0))) b3 = none := hb3
  generalize hG1 : H.set b1 (.cells (ints bs).toArray 136 (0, 0)) = H1 at *
  generalize hG2 : H1.set b2 (.cells #[.int .i64 0, .int .i64 0, .int .i64 0] 108 (0, 0)) = H2 at *
  generalize hG3 : Hp.set H2 b3 _ = H3
  have lH1 := le_of_set hG1 hb1
  have lH2 := le_of_set hG2 hb2
  have lH3 := le_of_set hG3 hb3
  have vb1 := at_of_set hG1
  have vb2 := at_of_set hG2
  have vb3 := at_of_set hG3
  have h0b1 := hb1
  have h0b2 : H b2 = none := Hp.le_none lH1 hb2
  have h0b3 : H b3 = none := Hp.le_none (Hp.le_trans lH1 lH2) hb3
  clear hG1 hG2 hG3
  have vb12 := lH2 _ _ vb1
  have vb13 := lH3 _ _ vb12
  have vb23 := lH3 _ _ vb2
  have lH13 := Hp.le_trans lH1 (Hp.le_trans lH2 lH3)
  have vhb3 := lH13 _ _ hho
  have vjb3 := lH13 _ _ vjb
  have vxb3 := lH13 _ _ vxb
  have hh3 := hh.le lH13
  have n12 : b2 ≠ b1 := (ne_new vb1 hb2).symm
  have n13 : b3 ≠ b1 := (ne_new vb12 hb3).symm
  have n23 : b3 ≠ b2 := (ne_new vb2 hb3).symm
  have n12' := n12.symm
  have n13' := n13.symm
  have n23' := n23.symm
  clear vb1 vb2 vb12 hho vjb vxb hb2 hb3 lH1 lH2 lH3
  (try simp -implicitDefEqProofs (disch := first | omega | (simp only [qd] <;> omega)) only [xq, ↓xp, qc, Nat.reduceAdd, List.range, List.range.loop, fine, Nat.reduceEqDiff, ↓reduceIte, yielded, reduceCtorEq, Nat.reduceLT, Nat.reduceMul, Nat.reduceSub, one, Nat.reduceLeDiff, runX_cons, y66_40, aq, ↓ap, qe0, qe1, qe2, *, -hK]); try (refine hK _ _ ?_; clear hK K; (try simp only [nq, ↓reduceIte, Nat.reduceEqDiff])); repeat' (first
  | (refine wpX_stmtL rfl ?_; intro K hK; simp -implicitDefEqProofs (disch := first | omega | (simp only [qd] <;> omega)) only [xq, ↓xp, qc, Nat.reduceAdd, List.range, List.range.loop, fine, Nat.reduceEqDiff, ↓reduceIte, yielded, reduceCtorEq, Nat.reduceLT, Nat.reduceMul, Nat.reduceSub, one, Nat.reduceLeDiff, runX_cons, y66_40, aq, ↓ap, qe0, qe1, qe2, *, -hK]; try (refine hK _ _ ?_; clear hK K))
  | (refine wpX_lastL rfl ?_; intro K hK; simp -implicitDefEqProofs (disch := first | omega | (simp only [qd] <;> omega)) only [xq, ↓xp, qc, Nat.reduceAdd, List.range, List.range.loop, fine, Nat.reduceEqDiff, ↓reduceIte, yielded, reduceCtorEq, Nat.reduceLT, Nat.reduceMul, Nat.reduceSub, one, Nat.reduceLeDiff, runX_cons, y66_40, aq, ↓ap, qe0, qe1, qe2, *, -hK]; try (refine hK _ _ ?_; clear hK K; (try simp only [nq, ↓reduceIte, Nat.reduceEqDiff])))
  | (refine wpX_skip ?_; (try simp only [nq, ↓reduceIte, Nat.reduceEqDiff]))
  | (refine wpX_label ?_; (try simp only [nq, ↓reduceIte, Nat.reduceEqDiff]))
  | (refine wpX_exit ?_; (try simp only [nq, ↓reduceIte, Nat.reduceEqDiff]))
  | (refine wpX_goto ?_; (try simp only [nq, ↓reduceIte, Nat.reduceEqDiff]))
  | (refine wpX_condK (by simp only [act_eval, upd_get, Nat.reduceEqDiff, Nat.reduceLT, ↓reduceIte, *]; rfl) ?_ ?_ <;> (intro hc; first | (exfalso; simp -implicitDefEqProofs (disch := omega) only [*, bq, reduceCtorEq] at hc; done) | (simp only [dq, qe3, qe4, qe5, qe6] at hc) | skip))
  | (refine wpX_scope0 ?_)
  | (refine wpX_block ?_)
  | (refine wpX_seq ?_))
  refine (pick_spec main H3 hb n _ _ hh3.o hh.b1 hb4 bs hbs).runs.mono ?_
  rintro _ H4 ⟨rfl, lH4⟩
  rw [hPP]
  have vb14 := lH4 _ _ vb13
  have vb24 := lH4 _ _ vb23
  have vb34 := lH4 _ _ vb3
  have vhb4 := lH4 _ _ vhb3
  have vjb4 := lH4 _ _ vjb3
  have vxb4 := lH4 _ _ vxb3
  clear vb13 vb23 vb3 vhb3 vjb3 vxb3 hh3
  (try simp -implicitDefEqProofs (disch := first | omega | (simp only [qd] <;> omega)) only [xq, ↓xp, qc, Nat.reduceAdd, List.range, List.range.loop, fine, Nat.reduceEqDiff, ↓reduceIte, yielded, reduceCtorEq, Nat.reduceLT, Nat.reduceMul, Nat.reduceSub, one, Nat.reduceLeDiff, runX_cons, y66_40, aq, ↓ap, qe0, qe1, qe2, *, -hK]); try (refine hK _ _ ?_; clear hK K; (try simp only [nq, ↓reduceIte, Nat.reduceEqDiff])); repeat' (first
  | (refine wpX_stmtL rfl ?_; intro K hK; simp -implicitDefEqProofs (disch := first | omega | (simp only [qd] <;> omega)) only [xq, ↓xp, qc, Nat.reduceAdd, List.range, List.range.loop, fine, Nat.reduceEqDiff, ↓reduceIte, yielded, reduceCtorEq, Nat.reduceLT, Nat.reduceMul, Nat.reduceSub, one, Nat.reduceLeDiff, runX_cons, y66_40, aq, ↓ap, qe0, qe1, qe2, *, -hK]; try (refine hK _ _ ?_; clear hK K))
  | (refine wpX_lastL rfl ?_; intro K hK; simp -implicitDefEqProofs (disch := first | omega | (simp only [qd] <;> omega)) only [xq, ↓xp, qc, Nat.reduceAdd, List.range, List.range.loop, fine, Nat.reduceEqDiff, ↓reduceIte, yielded, reduceCtorEq, Nat.reduceLT, Nat.reduceMul, Nat.reduceSub, one, Nat.reduceLeDiff, runX_cons, y66_40, aq, ↓ap, qe0, qe1, qe2, *, -hK]; try (refine hK _ _ ?_; clear hK K; (try simp only [nq, ↓reduceIte, Nat.reduceEqDiff])))
  | (refine wpX_skip ?_; (try simp only [nq, ↓reduceIte, Nat.reduceEqDiff]))
  | (refine wpX_label ?_; (try simp only [nq, ↓reduceIte, Nat.reduceEqDiff]))
  | (refine wpX_exit ?_; (try simp only [nq, ↓reduceIte, Nat.reduceEqDiff]))
  | (refine wpX_goto ?_; (try simp only [nq, ↓reduceIte, Nat.reduceEqDiff]))
  | (refine wpX_condK (by simp only [act_eval, upd_get, Nat.reduceEqDiff, Nat.reduceLT, ↓reduceIte, *]; rfl) ?_ ?_ <;> (intro hc; first | (exfalso; simp -implicitDefEqProofs (disch := omega) only [*, bq, reduceCtorEq] at hc; done) | (simp only [dq, qe3, qe4, qe5, qe6] at hc) | skip))
  | (refine wpX_scope0 ?_)
  | (refine wpX_block ?_)
  | (refine wpX_seq ?_))
  (refine wpX_dst1 24 [(true, 0), (true, 1), (true, 2), (true, 3), (true, 4), (true, 5), (true, 6), (true, 7), (true, 8), (true, 9), (true, 10), (true, 11), (true, 12), (true, 13), (true, 14), (true, 15), (true, 16), (true, 17), (true, 18), (true, 19), (true, 20), (true, 21), (true, 22), (true, 23)] (by kernel_rfl) (by kernel_rfl) (by simp) (by kernel_rfl) ?_; intro K hK; (iterate 24 (apply plan_take rfl rfl rfl; (focus (simp -implicitDefEqProofs (disch := first | omega | (simp only [qd] <;> omega)) only [xq, ↓xp, qc, Nat.reduceAdd, List.range, List.range.loop, fine, Nat.reduceEqDiff, ↓reduceIte, yielded, reduceCtorEq, Nat.reduceLT, Nat.reduceMul, Nat.reduceSub, one, Nat.reduceLeDiff, runX_cons, y66_40, aq, ↓ap, qe0, qe1, qe2, *, -hK, YN_value] <;> (first | exact rfl | exact ⟨rfl, rfl⟩ | exact ⟨rfl, trivial⟩))); simp -implicitDefEqProofs (disch := first | omega | (simp only [qd] <;> omega)) only [act_put, act_put_none])); refine plan_nil (hK _ _ ?_); clear hK K; (try simp only [nq, ↓reduceIte, Nat.reduceEqDiff]))
  repeat' (first
  | (refine wpX_stmtL rfl ?_; intro K hK; simp -implicitDefEqProofs (disch := first | omega | (simp only [qd] <;> omega)) only [xq, ↓xp, qc, Nat.reduceAdd, List.range, List.range.loop, fine, Nat.reduceEqDiff, ↓reduceIte, yielded, reduceCtorEq, Nat.reduceLT, Nat.reduceMul, Nat.reduceSub, one, Nat.reduceLeDiff, runX_cons, y66_40, aq, ↓ap, qe0, qe1, qe2, *, -hK]; try (refine hK _ _ ?_; clear hK K))
  | (refine wpX_lastL rfl ?_; intro K hK; simp -implicitDefEqProofs (disch := first | omega | (simp only [qd] <;> omega)) only [xq, ↓xp, qc, Nat.reduceAdd, List.range, List.range.loop, fine, Nat.reduceEqDiff, ↓reduceIte, yielded, reduceCtorEq, Nat.reduceLT, Nat.reduceMul, Nat.reduceSub, one, Nat.reduceLeDiff, runX_cons, y66_40, aq, ↓ap, qe0, qe1, qe2, *, -hK]; try (refine hK _ _ ?_; clear hK K; (try simp only [nq, ↓reduceIte, Nat.reduceEqDiff])))
  | (refine wpX_skip ?_; (try simp only [nq, ↓reduceIte, Nat.reduceEqDiff]))
  | (refine wpX_label ?_; (try simp only [nq, ↓reduceIte, Nat.reduceEqDiff]))
  | (refine wpX_exit ?_; (try simp only [nq, ↓reduceIte, Nat.reduceEqDiff]))
  | (refine wpX_goto ?_; (try simp only [nq, ↓reduceIte, Nat.reduceEqDiff]))
  | (refine wpX_condK (by simp only [act_eval, upd_get, Nat.reduceEqDiff, Nat.reduceLT, ↓reduceIte, *]; rfl) ?_ ?_ <;> (intro hc; first | (exfalso; simp -implicitDefEqProofs (disch := omega) only [*, bq, reduceCtorEq] at hc; done) | (simp only [dq, qe3, qe4, qe5, qe6] at hc) | skip))
  | (refine wpX_scope0 ?_)
  | (refine wpX_block ?_)
  | (refine wpX_seq ?_))
  (intro b5 hb5; generalize hG : Hp.set _ b5 _ = H5; have lH5 := le_of_set hG hb5; have vb5 := at_of_set hG; clear hG)
  have vb15 := lH5 _ _ vb14
  have vb25 := lH5 _ _ vb24
  have vb35 := lH5 _ _ vb34
  have n51 : b5 ≠ b1 := (ne_new vb14 hb5).symm
  have n52 : b5 ≠ b2 := (ne_new vb24 hb5).symm
  have n53 : b5 ≠ b3 := (ne_new vb34 hb5).symm
  have n51' := n51.symm
  have n52' := n52.symm
  have n53' := n53.symm
  have h0b5 : H b5 = none := Hp.le_none (Hp.le_trans lH13 lH4) hb5
  have lx5 : Lex none H H5 := Lex.of (Hp.le_trans lH13 (Hp.le_trans lH4 lH5))
  clear vb14 vb24 vb34 vhb4 vjb4 vxb4 hb5 lH13 lH4 lH5
  have hmax : (if B0 < due - n.notice then due - n.notice else B0) = max B0 (due - n.notice) := by
    rw [Int.max_def]; split <;> split <;> omega
  have hOb : -1048576 ≤ max B0 (due - n.notice) ∧ max B0 (due - n.notice) ≤ 1000000 := by rw [← hmax]; split <;> omega
  simp only [hmax] at vb5 ⊢
  generalize max B0 (due - n.notice) = O at *
  clear hmax
  (try simp -implicitDefEqProofs (disch := first | omega | (simp only [qd] <;> omega)) only [xq, ↓xp, qc, Nat.reduceAdd, List.range, List.range.loop, fine, Nat.reduceEqDiff, ↓reduceIte, yielded, reduceCtorEq, Nat.reduceLT, Nat.reduceMul, Nat.reduceSub, one, Nat.reduceLeDiff, runX_cons, y66_40, aq, ↓ap, qe0, qe1, qe2, *, -hK]); try (refine hK _ _ ?_; clear hK K; (try simp only [nq, ↓reduceIte, Nat.reduceEqDiff])); repeat' (first
  | (refine wpX_stmtL rfl ?_; intro K hK; simp -implicitDefEqProofs (disch := first | omega | (simp only [qd] <;> omega)) only [xq, ↓xp, qc, Nat.reduceAdd, List.range, List.range.loop, fine, Nat.reduceEqDiff, ↓reduceIte, yielded, reduceCtorEq, Nat.reduceLT, Nat.reduceMul, Nat.reduceSub, one, Nat.reduceLeDiff, runX_cons, y66_40, aq, ↓ap, qe0, qe1, qe2, *, -hK]; try (refine hK _ _ ?_; clear hK K))
  | (refine wpX_lastL rfl ?_; intro K hK; simp -implicitDefEqProofs (disch := first | omega | (simp only [qd] <;> omega)) only [xq, ↓xp, qc, Nat.reduceAdd, List.range, List.range.loop, fine, Nat.reduceEqDiff, ↓reduceIte, yielded, reduceCtorEq, Nat.reduceLT, Nat.reduceMul, Nat.reduceSub, one, Nat.reduceLeDiff, runX_cons, y66_40, aq, ↓ap, qe0, qe1, qe2, *, -hK]; try (refine hK _ _ ?_; clear hK K; (try simp only [nq, ↓reduceIte, Nat.reduceEqDiff])))
  | (refine wpX_skip ?_; (try simp only [nq, ↓reduceIte, Nat.reduceEqDiff]))
  | (refine wpX_label ?_; (try simp only [nq, ↓reduceIte, Nat.reduceEqDiff]))
  | (refine wpX_exit ?_; (try simp only [nq, ↓reduceIte, Nat.reduceEqDiff]))
  | (refine wpX_goto ?_; (try simp only [nq, ↓reduceIte, Nat.reduceEqDiff]))
  | (refine wpX_condK (by simp only [act_eval, upd_get, Nat.reduceEqDiff, Nat.reduceLT, ↓reduceIte, *]; rfl) ?_ ?_ <;> (intro hc; first | (exfalso; simp -implicitDefEqProofs (disch := omega) only [*, bq, reduceCtorEq] at hc; done) | (simp only [dq, qe3, qe4, qe5, qe6] at hc) | skip))
  | (refine wpX_scope0 ?_)
  | (refine wpX_block ?_)
  | (refine wpX_seq ?_))
  generalize hG6 : Hp.set (Hp.set H5 b5 _) b1 _ = H6
  have v1 := at_of_set hG6
  have v5 := other_of_set hG6 set_at n51
  have v2 := other_of_set hG6 ((set_ne n52').trans vb25) n12
  have v3 := other_of_set hG6 ((set_ne n53').trans vb35) n13
  have lx6 : Lex none H H6 := by rw [← hG6]; exact (lx5.own h0b5).own h0b1
  rw [ints_setL] at v1
  clear hG6 vb15 vb25 vb35 vb5 lx5
  have hli2 : (ints (bs.set P (O + mi))).length = 4 := by rw [ints_len, List.length_set]; exact hbs
  have htk42 : (ints (bs.set P (O + mi))).take 4 = ints (bs.set P (O + mi)) := List.take_of_length_le (by omega)
  have hne2 : ints (bs.set P (O + mi)) ≠ [] := fun h => by rw [h] at hli2; cases hli2
  have hone : (ints (bs.set P (O + mi))).all one = true := List.all_eq_true.2 (ints_one _)
  generalize bs.set P (O + mi) = bs2 at *
  refine wpX_dlast (fun HX => HX b5 = some (true, .cells #[.int .i64 P, .int .i64 O, .int .i64 (O + mi)] 108 (0, 0)) ∧ HX b1 = some (true, .cells (ints bs2).toArray 136 (0, 0))) 4 [(true, 0), (true, 1), (false, 2), (false, 3)] (by kernel_rfl) (by kernel_rfl) (by simp) (by kernel_rfl) ?_; intro K hK
  (iterate 2 (apply plan_takeS rfl rfl rfl (by exact ⟨v5, v1⟩); (focus (intro HX hHX; have hX1 := hHX.1; have hX2 := hHX.2; clear hHX; simp -implicitDefEqProofs (disch := first | omega | (simp only [qd] <;> omega)) only [xq, ↓xp, qc, Nat.reduceAdd, List.range, List.range.loop, fine, Nat.reduceEqDiff, ↓reduceIte, yielded, reduceCtorEq, Nat.reduceLT, Nat.reduceMul, Nat.reduceSub, one, Nat.reduceLeDiff, runX_cons, y66_40, aq, ↓ap, qe0, qe1, qe2, *, -hK, YN_value] <;> (first | exact rfl | exact ⟨rfl, rfl⟩ | exact ⟨rfl, trivial⟩))); simp -implicitDefEqProofs (disch := first | omega | (simp only [qd] <;> omega)) only [act_put, act_put_none]))
  refine planX_act ?_
  simp -implicitDefEqProofs (disch := first | omega | (simp only [qd] <;> omega)) only [xq, ↓xp, qc, Nat.reduceAdd, List.range, List.range.loop, fine, Nat.reduceEqDiff, ↓reduceIte, yielded, reduceCtorEq, Nat.reduceLT, Nat.reduceMul, Nat.reduceSub, one, Nat.reduceLeDiff, runX_cons, y66_40, aq, ↓ap, qe0, qe1, qe2, *, -hK]
  refine ⟨.inr trivial, ?_⟩
  generalize hG7 : Hp.set H6 b2 _ = H7
  have v17 := other_of_set hG7 v1 n12'
  have v57 := other_of_set hG7 v5 n52
  have v27 := at_of_set hG7
  have v37 := other_of_set hG7 v3 n23
  have lx7 : Lex none H H7 := by rw [← hG7]; exact lx6.own h0b2
  clear hG7 v1 v5 v2 v3 lx6
  refine planX_act ?_
  simp -implicitDefEqProofs (disch := first | omega | (simp only [qd] <;> omega)) only [xq, ↓xp, qc, Nat.reduceAdd, List.range, List.range.loop, fine, Nat.reduceEqDiff, ↓reduceIte, yielded, reduceCtorEq, Nat.reduceLT, Nat.reduceMul, Nat.reduceSub, one, Nat.reduceLeDiff, runX_cons, y66_40, aq, ↓ap, qe0, qe1, qe2, *, -hK, storL_at hne2 v37]
  refine ⟨.inr trivial, plan_nil (hK _ _ ?_)⟩
  clear hK K
  (try simp only [nq, ↓reduceIte, Nat.reduceEqDiff])
  generalize hG8 : Hp.set H7 b3 _ = H8
  have v28 := other_of_set hG8 v27 n23'
  have v38 := at_of_set hG8
  have lx8 : Lex none H H8 := by rw [← hG8]; exact lx7.own h0b3
  clear hG8
  refine wpX_ret ?_
  rw [bodyX_ret, results_cell_cell Tryd.results66 (by decide) (by decide) (b := b2) (o := 0) (b2 := b3) (o2 := 0) rfl rfl Tryd.underlying108 rfl Tryd.sizeOf108 Tryd.underlying136 rfl Tryd.sizeOf136]
  simp -implicitDefEqProofs (disch := first | omega | (simp only [qd] <;> omega)) only [xq, ↓xp, qc, Nat.reduceAdd, List.range, List.range.loop, fine, Nat.reduceEqDiff, ↓reduceIte, yielded, reduceCtorEq, Nat.reduceLT, Nat.reduceMul, Nat.reduceSub, one, Nat.reduceLeDiff, runX_cons, y66_40, aq, ↓ap, qe0, qe1, qe2, *, Nat.reduceLeDiff, Nat.le_refl]
  exact ⟨rfl, lx8.toLe⟩
end Go.Proofs.YtiempdpjcddgfaaDoor
end
section
/- Slices of structs: literals of one, rows that grow. -/
set_option linter.unusedSimpArgs false
set_option maxRecDepth 100000
set_option maxHeartbeats 1000000
set_option linter.unusedVariables false
namespace Go.X
open Go
section
variable {P : Program} {H : Hp}
theorem buildSlice_agg1 {t e : TypeId} {sz : Nat} {z : Value} (hu : P.underlying t = some (.slice e)) (hs : ∀ w, (sizeOf e).run P w = .ok sz w) (hz : ∀ w, (zeroValue e).run P w = .ok z w) (hzc : z.cells.size = sz) (h0 : 0 < sz) (h1 : sz ≤ 1000)
    (vs : List Value) (hvs : vs.length = sz) (K : Value → Hp → Prop) (E : Value → Hp → Prop) :
    wpS P (Instr.buildSlice t 1 #[(0, .agg vs.toArray)]) H K E = ∀ b, H b = none → K (.slice (some ⟨b, 0, none⟩) 1 1) (H.set b (.cells vs.toArray e (0, 0))) := by
  unfold Instr.buildSlice
  have hn1 : ¬ 1 * sz > 2 ^ 24 := by have : (2 : Nat) ^ 24 = 16777216 := by decide
                                     omega
  have hn2 : ¬ 1 * sz = 0 := by omega
  simp only [wpS_bind', wpS_underlying hu, wpS_sizeOf hs, hn1, hn2, if_false, wpS_zeroValue hz, wpS_pure]
  have hf : Instr.fill (fun i => some (i * sz, sz)) ((Array.range (1 * sz)).map (z.cells[· % z.cells.size]!)) [(0, .agg vs.toArray)] = some vs.toArray := by
    unfold Instr.fill
    simp only [Nat.zero_mul, cells_agg, List.size_toArray, hvs, Nat.zero_add, Array.size_map, Array.size_range, Nat.one_mul, ne_eq, not_true, gt_iff_lt, Nat.lt_irrefl, decide_false, Bool.or_self, Bool.false_eq_true, if_false]
    simp only [Instr.fill]
    congr 1
    rw [← Array.foldl_toList, Array.toList_zipIdx]
    have hfo := foldl_over 0 vs 0 ((Array.range sz).map (z.cells[· % z.cells.size]!)) (by simp [hvs])
    simp only [Nat.zero_add] at hfo
    rw [hfo]
    apply Array.ext_getElem?
    intro i
    by_cases hi : i < sz
    · rw [over_get i (by simpa using hi), if_pos ⟨by omega, by omega⟩]
      simp [List.getD, List.getElem?_eq_getElem (show i < vs.length by omega)]
    · rw [Array.getElem?_eq_none (by rw [over_size]; simp; omega), Array.getElem?_eq_none (by simp; omega)]
  have hl : (#[(0, Value.agg vs.toArray)] : Array (Nat × Value)).toList = [(0, .agg vs.toArray)] := rfl
  simp only [hl, hf, newRow, newObj, wpS_bind', wpS, wpS_pure]
end
/-- Since H₀ a slice v of one's own has been made; its n elements take sz cells each, cs are its cells. -/
def RowZ (Lx : Hp → Hp → Prop) (H₀ H : Hp) (v : Value) (e : TypeId) (sz n : Nat) (cs : List Value) : Prop :=
  Lx H₀ H ∧ ((v = .slice none 0 0 ∧ n = 0 ∧ cs = []) ∨
  ∃ (b : Nat) (c : Array Value) (cap : Nat), H₀ b = none ∧ H b = some (true, .cells c e (0, 0)) ∧ v = .slice (some ⟨b, 0, none⟩) n cap ∧ c.size = cap * sz ∧ n ≤ cap ∧ cs.length = n * sz ∧ ∀ (i : Nat) (u : Value), cs[i]? = some u → c[i]? = some u)
end Go.X
namespace Go.Proofs.YtiempdpjcddgfaaDoor
open Go Go.X

/-- One element more; all blocks but the row's stay. -/
theorem append_rowZ {P : Program} {tt e : TypeId} {sz : Nat} {z : Value} {inf : TypeInfo} (hu : P.underlying tt = some (.slice e)) (hs : ∀ w, (sizeOf e).run P w = .ok sz w) (hz : ∀ w, (zeroValue e).run P w = .ok z w) (hzc : z.cells.size = sz)
    (hi : ∀ w, (typeInfo e).run P w = .ok inf w) (hby : inf.bytes ≤ 1024) (hby0 : 0 < inf.bytes)
    {t : Option Nat} {H₀ H : Hp} {v : Value} {n : Nat} {cs : List Value} (h : RowZ (Lex t) H₀ H v e sz n cs) {g : Nat} {ws : List Value} (hws : ws.length = sz) (hg : H g = none) (hw : ∀ w ∈ ws, one w = true) (hn : n ≤ 1000000) (ty : TypeId) (cb : Array Bool) (K : Next → Hp → Prop) (E : Value → Hp → Prop)
    (h' : ∀ v' H', RowZ (Lex t) H₀ H' v' e sz (n + 1) (cs ++ ws) → (∀ x u, H x = some u → rowB v ≠ some x → H' x = some u) → (∀ x, rowB v' = some x → rowB v = some x ∨ H x = none) → K (.value v') H') :
    wpS P (builtin .append #[tt, tt] ty cb #[v, .slice (some ⟨g, 0, none⟩) 1 1]) (H.set g (.cells ws.toArray e (0, 0))) K E := by
  obtain ⟨hlex, hrow⟩ := h
  have hcell : ∀ (j : Nat) (u : Value), ws[j]? = some u → (H.set g (.cells ws.toArray e (0, 0))).cell ⟨g, 0 + j, none⟩ = some u := by
    intro j u hj
    rw [Nat.zero_add, cell_of (b := g) (p := true) (c := ws.toArray) (e := e) (f := (0, 0)) (by rw [get_set, if_pos rfl])]
    simpa using hj
  rcases hrow with ⟨rfl, rfl, rfl⟩ | ⟨b, c, cap, hb0, hb, rfl, hcs, hcap, hlen, hget⟩
  · refine append_law (P := P) hu hs hz hzc hi hby hby0 (NewRow.nil H e sz) (Hp.le_set hg) (m := 1) (by omega) id hcell hw (by omega) ty cb K E (fun v' H1 H2 hr hl => ?_)
    have hle : H.le H2 := fun x u hx => hl _ _ (hr.le _ _ hx)
    refine h' v' H2 ⟨hlex.le hle, ?_⟩ (fun x u hx _ => hle _ _ hx) ?_
    · rcases hr with ⟨_, hn0, _⟩ | ⟨b', c', cap', hb', rfl, rfl, hs', hl', hn', hg'⟩
      · simp at hn0
      · exact .inr ⟨b', c', cap', hlex.gone hb', hl _ _ (by rw [get_set, if_pos rfl]), rfl, hs', hn', hl', fun i u hi => hg' i u hi⟩
    · intro x hx
      rcases hr with ⟨_, hn0, _⟩ | ⟨b', c', cap', hb', rfl, rfl, hs', hl', hn', hg'⟩
      · simp at hn0
      · simp only [rowB, Option.some.injEq] at hx
        subst hx
        exact .inr hb'
  · have hgb : g ≠ b := fun e => by rw [e, hb] at hg; cases hg
    have hD : (fun x => if x = b then none else H x : Hp) b = none := by simp
    have hH : H = Hp.set (fun x => if x = b then none else H x) b (.cells c e (0, 0)) := by
      funext x
      unfold Hp.set
      by_cases e : x = b
      · subst e; simp [hb]
      · simp [e]
    refine append_law (P := P) hu hs hz hzc hi hby hby0 (H₀ := fun x => if x = b then none else H x) (H := H) (n := n) (cs := cs) (.inr ⟨b, c, cap, hD, hH, rfl, hcs, hlen, hcap, hget⟩) (Hp.le_set hg) (m := 1) (by omega) (fun _ => hg) hcell hw (by omega) ty cb K E (fun v' H1 H2 hr hl => ?_)
    have hkeep : ∀ x u, x ≠ b → H x = some u → H2 x = some u := fun x u hn hx => hl _ _ (hr.le _ _ (by simp only [hn, if_false]; exact hx))
    rcases hr with ⟨_, hn0, _⟩ | ⟨b', c', cap', hb', rfl, rfl, hs', hl', hn', hg'⟩
    · simp at hn0
    · have hb2 : H2 b' = some (true, .cells c' e (0, 0)) := hl _ _ (by rw [get_set, if_pos rfl])
      have hb'0 : H₀ b' = none := by
        by_cases e : b' = b
        · rw [e]; exact hb0
        · simp only [e, if_false] at hb'; exact hlex.gone hb'
      refine h' _ H2 ⟨fun x u hx => ?_, .inr ⟨b', c', cap', hb'0, hb2, rfl, hs', hn', hl', hg'⟩⟩ (fun x u hx ho => hkeep x _ (fun e => ho (by rw [e]; rfl)) hx) (fun x hx => ?_)
      · obtain ⟨u', hu', e'⟩ := hlex x u hx
        exact ⟨u', hkeep x u' (fun e => by rw [e, hb0] at hx; cases hx) hu', e'⟩
      · simp only [rowB, Option.some.injEq] at hx
        subst hx
        by_cases e : b' = b
        · exact .inl (by rw [e]; rfl)
        · simp only [e, if_false] at hb'; exact .inr hb'
end Go.Proofs.YtiempdpjcddgfaaDoor
end
section
/- All trips of a plan. -/
set_option linter.unusedSimpArgs false
set_option maxRecDepth 100000
set_option maxHeartbeats 1000000
set_option linter.unusedVariables false
namespace Go.Proofs.YtiempdpjcddgfaaDoor
open Go Go.X
set_option linter.defProp false
def y46_42 := And.intro @callF65 (And.intro (fun H => ex_alloc (H := H) (P := Tryd.prog) (h := Tryd.zeroValue136)) (And.intro (fun H => storeAt_agg (H := H) Tryd.sizeOf136) (And.intro (fun H => len_slice (H := H) Tryd.underlying22) (And.intro (fun H => indexAt_slice (H := H) Tryd.underlying22 Tryd.sizeOf3) (And.intro (fun H => loadAt_one (H := H) Tryd.underlying3 rfl) (And.intro (fun H => ex_alloc (H := H) (P := Tryd.prog) (h := Tryd.zeroValue108)) (And.intro (fun H => loadAt_aggE (H := H) Tryd.underlying136 rfl Tryd.sizeOf136) (And.intro @callF66 (And.intro (fun H => storeAt_agg (H := H) Tryd.sizeOf108) (And.intro (fun H => loadAt_aggE (H := H) Tryd.underlying108 rfl Tryd.sizeOf108) (fun H => buildSlice_agg1 (H := H) Tryd.underlying105 Tryd.sizeOf108 Tryd.zeroValue108 rfl (by decide) (by decide))))))))))))

/-- The barrows, the next job and the rides behind the first k trips. -/
def dS (n : HN) (js : List Int) (mi : Int) (pl : List Nat) : Nat → List Int × Nat × List RideV
  | 0 => (List.replicate 4 (-1048576), 0, [])
  | k + 1 =>
    let s := dS n js mi pl k
    let r := rideF n js s.1 s.2.1 (pl.getD k 0) mi
    (s.1.set (pickB s.1 n.barrows.toNat) r.back, s.2.1 + pl.getD k 0, s.2.2 ++ [r])
theorem dS_ok (n : HN) (js : List Int) (mi : Int) (pl : List Nat) (hx : ∀ x ∈ n.xs, 0 ≤ x ∧ x ≤ 99) (n0 : 0 ≤ n.notice) (b1 : 1 ≤ n.barrows) (b4 : n.barrows ≤ 4) (h1 : 1 ≤ mi) (h2 : mi ≤ 20) : ∀ k, k ≤ pl.length →
    (dS n js mi pl k).1.length = 4 ∧ (∀ x ∈ (dS n js mi pl k).1, -1048576 ≤ x ∧ x ≤ 100 + 20 * k) ∧ (dS n js mi pl k).2.1 = (pl.take k).sum ∧ (dS n js mi pl k).2.2.length = k
  | 0, _ => by simp [dS]
  | k + 1, hk => by
    obtain ⟨i1, i2, i3, i4⟩ := dS_ok n js mi pl hx n0 b1 b4 h1 h2 k (by omega)
    have hpl := pickB_lt (dS n js mi pl k).1 n.barrows.toNat (by omega)
    have hg : pl.getD k 0 = pl[k]'(by omega) := by simp [List.getD, List.getElem?_eq_getElem (show k < pl.length by omega)]
    have hB : -1048576 ≤ (dS n js mi pl k).1.getD (pickB (dS n js mi pl k).1 n.barrows.toNat) 0 ∧ (dS n js mi pl k).1.getD (pickB (dS n js mi pl k).1 n.barrows.toNat) 0 ≤ 100 + 20 * k := by
      simp [List.getD, List.getElem?_eq_getElem (show pickB (dS n js mi pl k).1 n.barrows.toNat < (dS n js mi pl k).1.length by omega)]
      exact i2 _ (List.getElem_mem _)
    have hdue : ∀ j, n.due js j ≤ 99 := fun j => by
      unfold HN.due
      by_cases hl : (js.getD j 0).toNat < n.xs.length
      · simp [List.getD, List.getElem?_eq_getElem (show (js[j]?.getD 0).toNat < n.xs.length by simpa [List.getD] using hl)]
        exact (hx _ (List.getElem_mem _)).2
      · simp [List.getD, List.getElem?_eq_none (show n.xs.length ≤ (js[j]?.getD 0).toNat by simpa [List.getD] using (by omega : n.xs.length ≤ (js.getD j 0).toNat))]
    refine ⟨by simp [dS, i1], fun x hx' => ?_, ?_, by simp [dS, i4]⟩
    · simp only [dS] at hx'
      rcases List.mem_or_eq_of_mem_set hx' with h | h
      · have := i2 x h; omega
      · subst h
        simp only [rideF]
        have := hdue ((dS n js mi pl k).2.1 + pl.getD k 0 - 1)
        rw [Int.max_def]
        split <;> omega
    · simp only [dS, i3, hg]
      rw [List.take_add_one, List.getElem?_eq_getElem (show k < pl.length by omega), List.sum_append]
      rfl

/-- Rides as cells. -/
def rcells (rs : List RideV) : List Value := rs.flatMap fun r => [.int .i64 r.barrow, .int .i64 r.out, .int .i64 r.back]
theorem rcells_app (rs : List RideV) (r : RideV) : rcells (rs ++ [r]) = rcells rs ++ [.int .i64 r.barrow, .int .i64 r.out, .int .i64 r.back] := by simp [rcells]

theorem over_all {l vs : List Value} (h : vs.length = l.length) : over l.toArray 0 vs = vs.toArray := by
  rw [over_list _ _ _ (by omega), List.take_zero, List.nil_append, List.drop_of_length_le (by omega), List.append_nil]
theorem rowZ_keep {t : Option Nat} {H₀ H H' : Hp} {v : Value} {e : TypeId} {sz n : Nat} {cs : List Value} (h : RowZ (Lex t) H₀ H v e sz n cs) (hk : ∀ x, rowB v = some x → ∀ u, H x = some u → H' x = some u) (hl : Lex t H₀ H') : RowZ (Lex t) H₀ H' v e sz n cs := by
  refine ⟨hl, h.2.imp id ?_⟩
  rintro ⟨b, c, cap, h0, hb, rfl, h3⟩
  exact ⟨b, c, cap, h0, hk b rfl _ hb, rfl, h3⟩
theorem rowZ_at {t : Option Nat} {H₀ H : Hp} {v : Value} {e : TypeId} {sz n : Nat} {cs : List Value} (h : RowZ (Lex t) H₀ H v e sz n cs) {x : Nat} (hx : rowB v = some x) : H₀ x = none ∧ ∃ c, H x = some (true, .cells c e (0, 0)) := by
  rcases h.2 with ⟨rfl, _⟩ | ⟨b, c, cap, h0, hb, rfl, _⟩
  · cases hx
  · simp only [rowB, Option.some.injEq] at hx
    subst hx
    exact ⟨h0, _, hb⟩
theorem rowZ_len {t : Option Nat} {H₀ H : Hp} {v : Value} {e : TypeId} {sz n : Nat} {cs : List Value} (h : RowZ (Lex t) H₀ H v e sz n cs) : ∃ a cap, v = .slice a n cap := by
  rcases h.2 with ⟨rfl, rfl, _⟩ | ⟨b, c, cap, h0, hb, rfl, _⟩
  · exact ⟨_, _, rfl⟩
  · exact ⟨_, _, rfl⟩

theorem drive_spec (main : Bool) (H : Hp) (hb : Nat) (n : HN) (v : HV) (jv : Value) (js : List Int) (hh : HaulAt H hb n v jv js) (pv : Value) (pl : List Nat) (hp : SlI H pv (pl.map fun m : Nat => (m : Int))) (hp1 : ∀ m ∈ pl, 1 ≤ m) (hps : pl.sum ≤ js.length) (hpl : pl.length ≤ 1000) (mi : Int) (hm1 : 1 ≤ mi) (hm2 : mi ≤ 20) :
    FnX Tryd.prog main 46 #[.pointer (some ⟨hb, 0, none⟩), pv, .int .i64 mi] H fun e H' => ∃ rv, e = .returned rv ∧ RowZ (Lex none) H H' rv 108 3 pl.length (rcells (dS n js mi pl pl.length).2.2) := by
  have hpS := hp
  obtain ⟨pa, pc, rfl, hpc, _⟩ := hp
  have hjl := hh.jl
  simp only [List.length_map] at hpc
  simp only [List.length_map]
  refine FnX_start Tryd.func46 rfl Tryd.ntmps46 (by simp) ?_
  repeat' (first
  | (refine wpX_stmtL rfl ?_; intro K hK; simp -implicitDefEqProofs (disch := first | omega | (simp only [qd] <;> omega)) only [xq, ↓xp, qc, Nat.reduceAdd, List.range, List.range.loop, fine, Nat.reduceEqDiff, ↓reduceIte, yielded, reduceCtorEq, Nat.reduceLT, Nat.reduceMul, Nat.reduceSub, one, Nat.reduceLeDiff, runX_cons, y46_42, aq, ↓ap, qe0, qe1, qe2, *, -hK]; try (refine hK _ _ ?_; clear hK K))
  | (refine wpX_lastL rfl ?_; intro K hK; simp -implicitDefEqProofs (disch := first | omega | (simp only [qd] <;> omega)) only [xq, ↓xp, qc, Nat.reduceAdd, List.range, List.range.loop, fine, Nat.reduceEqDiff, ↓reduceIte, yielded, reduceCtorEq, Nat.reduceLT, Nat.reduceMul, Nat.reduceSub, one, Nat.reduceLeDiff, runX_cons, y46_42, aq, ↓ap, qe0, qe1, qe2, *, -hK]; try (refine hK _ _ ?_; clear hK K; (try simp only [nq, ↓reduceIte, Nat.reduceEqDiff])))
  | (refine wpX_skip ?_; (try simp only [nq, ↓reduceIte, Nat.reduceEqDiff]))
  | (refine wpX_label ?_; (try simp only [nq, ↓reduceIte, Nat.reduceEqDiff]))
  | (refine wpX_exit ?_; (try simp only [nq, ↓reduceIte, Nat.reduceEqDiff]))
  | (refine wpX_goto ?_; (try simp only [nq, ↓reduceIte, Nat.reduceEqDiff]))
  | (refine wpX_condK (by simp only [act_eval, upd_get, Nat.reduceEqDiff, Nat.reduceLT, ↓reduceIte, *]; rfl) ?_ ?_ <;> (intro hc; first | (exfalso; simp -implicitDefEqProofs (disch := omega) only [*, bq, reduceCtorEq] at hc; done) | (simp only [dq, qe3, qe4, qe5, qe6] at hc) | skip))
  | (refine wpX_scope0 ?_)
  | (refine wpX_block ?_)
  | (refine wpX_seq ?_))
  refine (resting_spec main H).runs.mono ?_
  rintro _ H1 ⟨rfl, lH1⟩
  have hr4 : ints (List.replicate 4 (-1048576)) = [.int .i64 (-1048576), .int .i64 (-1048576), .int .i64 (-1048576), .int .i64 (-1048576)] := rfl
  rw [hr4]
  (try simp -implicitDefEqProofs (disch := first | omega | (simp only [qd] <;> omega)) only [xq, ↓xp, qc, Nat.reduceAdd, List.range, List.range.loop, fine, Nat.reduceEqDiff, ↓reduceIte, yielded, reduceCtorEq, Nat.reduceLT, Nat.reduceMul, Nat.reduceSub, one, Nat.reduceLeDiff, runX_cons, y46_42, aq, ↓ap, qe0, qe1, qe2, *, -hK]); try (refine hK _ _ ?_; clear hK K; (try simp only [nq, ↓reduceIte, Nat.reduceEqDiff])); repeat' (first
  | (refine wpX_stmtL rfl ?_; intro K hK; simp -implicitDefEqProofs (disch := first | omega | (simp only [qd] <;> omega)) only [xq, ↓xp, qc, Nat.reduceAdd, List.range, List.range.loop, fine, Nat.reduceEqDiff, ↓reduceIte, yielded, reduceCtorEq, Nat.reduceLT, Nat.reduceMul, Nat.reduceSub, one, Nat.reduceLeDiff, runX_cons, y46_42, aq, ↓ap, qe0, qe1, qe2, *, -hK]; try (refine hK _ _ ?_; clear hK K))
  | (refine wpX_lastL rfl ?_; intro K hK; simp -implicitDefEqProofs (disch := first | omega | (simp only [qd] <;> omega)) only [xq, ↓xp, qc, Nat.reduceAdd, List.range, List.range.loop, fine, Nat.reduceEqDiff, ↓reduceIte, yielded, reduceCtorEq, Nat.reduceLT, Nat.reduceMul, Nat.reduceSub, one, Nat.reduceLeDiff, runX_cons, y46_42, aq, ↓ap, qe0, qe1, qe2, *, -hK]; try (refine hK _ _ ?_; clear hK K; (try simp only [nq, ↓reduceIte, Nat.reduceEqDiff])))
  | (refine wpX_skip ?_; (try simp only [nq, ↓reduceIte, Nat.reduceEqDiff]))
  | (refine wpX_label ?_; (try simp only [nq, ↓reduceIte, Nat.reduceEqDiff]))
  | (refine wpX_exit ?_; (try simp only [nq, ↓reduceIte, Nat.reduceEqDiff]))
  | (refine wpX_goto ?_; (try simp only [nq, ↓reduceIte, Nat.reduceEqDiff]))
  | (refine wpX_condK (by simp only [act_eval, upd_get, Nat.reduceEqDiff, Nat.reduceLT, ↓reduceIte, *]; rfl) ?_ ?_ <;> (intro hc; first | (exfalso; simp -implicitDefEqProofs (disch := omega) only [*, bq, reduceCtorEq] at hc; done) | (simp only [dq, qe3, qe4, qe5, qe6] at hc) | skip))
  | (refine wpX_scope0 ?_)
  | (refine wpX_block ?_)
  | (refine wpX_seq ?_))
  (intro bb hbb; generalize hG : Hp.set _ bb _ = H2; have lH2 := le_of_set hG hbb; have vbb := at_of_set hG; clear hG)
  have hh2 := hh.le (Hp.le_trans lH1 lH2)
  have hp2 := hpS.le (Hp.le_trans lH1 lH2)
  have h0bb : H bb = none := Hp.le_none lH1 hbb
  (try simp -implicitDefEqProofs (disch := first | omega | (simp only [qd] <;> omega)) only [xq, ↓xp, qc, Nat.reduceAdd, List.range, List.range.loop, fine, Nat.reduceEqDiff, ↓reduceIte, yielded, reduceCtorEq, Nat.reduceLT, Nat.reduceMul, Nat.reduceSub, one, Nat.reduceLeDiff, runX_cons, y46_42, aq, ↓ap, qe0, qe1, qe2, *, -hK]); try (refine hK _ _ ?_; clear hK K; (try simp only [nq, ↓reduceIte, Nat.reduceEqDiff])); repeat' (first
  | (refine wpX_stmtL rfl ?_; intro K hK; simp -implicitDefEqProofs (disch := first | omega | (simp only [qd] <;> omega)) only [xq, ↓xp, qc, Nat.reduceAdd, List.range, List.range.loop, fine, Nat.reduceEqDiff, ↓reduceIte, yielded, reduceCtorEq, Nat.reduceLT, Nat.reduceMul, Nat.reduceSub, one, Nat.reduceLeDiff, runX_cons, y46_42, aq, ↓ap, qe0, qe1, qe2, *, -hK]; try (refine hK _ _ ?_; clear hK K))
  | (refine wpX_lastL rfl ?_; intro K hK; simp -implicitDefEqProofs (disch := first | omega | (simp only [qd] <;> omega)) only [xq, ↓xp, qc, Nat.reduceAdd, List.range, List.range.loop, fine, Nat.reduceEqDiff, ↓reduceIte, yielded, reduceCtorEq, Nat.reduceLT, Nat.reduceMul, Nat.reduceSub, one, Nat.reduceLeDiff, runX_cons, y46_42, aq, ↓ap, qe0, qe1, qe2, *, -hK]; try (refine hK _ _ ?_; clear hK K; (try simp only [nq, ↓reduceIte, Nat.reduceEqDiff])))
  | (refine wpX_skip ?_; (try simp only [nq, ↓reduceIte, Nat.reduceEqDiff]))
  | (refine wpX_label ?_; (try simp only [nq, ↓reduceIte, Nat.reduceEqDiff]))
  | (refine wpX_exit ?_; (try simp only [nq, ↓reduceIte, Nat.reduceEqDiff]))
  | (refine wpX_goto ?_; (try simp only [nq, ↓reduceIte, Nat.reduceEqDiff]))
  | (refine wpX_condK (by simp only [act_eval, upd_get, Nat.reduceEqDiff, Nat.reduceLT, ↓reduceIte, *]; rfl) ?_ ?_ <;> (intro hc; first | (exfalso; simp -implicitDefEqProofs (disch := omega) only [*, bq, reduceCtorEq] at hc; done) | (simp only [dq, qe3, qe4, qe5, qe6] at hc) | skip))
  | (refine wpX_scope0 ?_)
  | (refine wpX_block ?_)
  | (refine wpX_seq ?_))
  have hdok := dS_ok n js mi pl hh.xb hh.n0 hh.b1 hh.b4 hm1 hm2
  have lx2 : Lex none H H2 := Lex.of (Hp.le_trans lH1 lH2)
  refine wpX_loop (fun w a' H' => ∃ e k rv, w = pl.length - k ∧ k ≤ pl.length ∧ a' = act 38 e [] ∧ e 0 = .pointer (some ⟨hb, 0, none⟩) ∧ e 2 = .int .i64 mi ∧ e 7 = rv ∧ e 8 = .pointer (some ⟨bb, 0, none⟩) ∧ e 9 = .int .i64 ((dS n js mi pl k).2.1 : Nat) ∧ e 14 = .slice pa pl.length pc ∧ e 15 = .int .i64 pl.length ∧ e 16 = .int .i64 (k : Nat) ∧
    RowZ (Lex none) H H' rv 108 3 k (rcells (dS n js mi pl k).2.2) ∧ H' bb = some (true, .cells (ints (dS n js mi pl k).1).toArray 136 (0, 0))) (n := pl.length) ?_ ?_
  · exact ⟨_, 0, .slice none 0 0, rfl, by omega, rfl, rfl, rfl, rfl, rfl, rfl, rfl, rfl, rfl, ⟨lx2, .inl ⟨rfl, rfl, rfl⟩⟩, vbb⟩
  · clear lx2 hh2 hp2 vbb lH1 lH2 hbb
    rintro w a' H3 ⟨e, k, rv, rfl, hk, rfl, e0, e2, e7, e8, e9, e14, e15, e16, hrow, vbb⟩
    have hh3 := hh.le hrow.1.toLe
    have hp3 := hpS.le hrow.1.toLe
    by_cases hlt : k < pl.length
    · obtain ⟨i1, i2, i3, i4⟩ := hdok k hk
      have hdef : dS n js mi pl (k + 1) = ((dS n js mi pl k).1.set (pickB (dS n js mi pl k).1 n.barrows.toNat) (rideF n js (dS n js mi pl k).1 (dS n js mi pl k).2.1 (pl.getD k 0) mi).back, (dS n js mi pl k).2.1 + pl.getD k 0, (dS n js mi pl k).2.2 ++ [rideF n js (dS n js mi pl k).1 (dS n js mi pl k).2.1 (pl.getD k 0) mi]) := rfl
      have hg : pl.getD k 0 = pl[k] := by simp [List.getD, List.getElem?_eq_getElem hlt]
      have hsum : (pl.take (k + 1)).sum ≤ pl.sum := by
        have h9 : pl.sum = (pl.take (k + 1)).sum + (pl.drop (k + 1)).sum := by rw [← List.sum_append, List.take_append_drop]
        omega
      rw [List.take_add_one, List.getElem?_eq_getElem hlt, List.sum_append] at hsum
      have hs1 : [pl[k]].sum = pl[k] := by simp
      have hsum' : (pl.take k).sum + pl[k] ≤ pl.sum := by rw [← hs1]; exact hsum
      have hmk := hp1 _ (List.getElem_mem hlt)
      obtain ⟨b, o, cap', p, c, fr, hve, _, hb', hx⟩ := hp3.cons (fun h => absurd (congrArg List.length h) (by simp only [List.length_nil, List.length_map]; omega))
      cases hve
      have hxk := hx k (pl[k] : Nat) (by rw [List.getElem?_map, List.getElem?_eq_getElem hlt]; rfl)
      rw [hg] at hdef
      generalize pl[k] = mk at hdef hsum' hmk hxk
      generalize hD1 : dS n js mi pl (k + 1) = D1 at hdef
      generalize dS n js mi pl k = D at hdef e9 hrow vbb i1 i2 i3 i4
      obtain ⟨bs, f, rs⟩ := D
      simp only [] at hdef e9 hrow vbb i1 i2 i3 i4
      replace i3 : f ≤ (pl.take k).sum ∧ (pl.take k).sum ≤ f := by omega
      clear hsum hs1 hg hx
      have hli : (ints bs).length = 4 := by rw [ints_len]; exact i1
      have htk4 : (ints bs).take 4 = ints bs := List.take_of_length_le (by omega)
      repeat' (first
  | (refine wpX_stmtL rfl ?_; intro K hK; simp -implicitDefEqProofs (disch := first | omega | (simp only [qd] <;> omega)) only [xq, ↓xp, qc, Nat.reduceAdd, List.range, List.range.loop, fine, Nat.reduceEqDiff, ↓reduceIte, yielded, reduceCtorEq, Nat.reduceLT, Nat.reduceMul, Nat.reduceSub, one, Nat.reduceLeDiff, runX_cons, y46_42, aq, ↓ap, qe0, qe1, qe2, *, -hK]; try (refine hK _ _ ?_; clear hK K))
  | (refine wpX_lastL rfl ?_; intro K hK; simp -implicitDefEqProofs (disch := first | omega | (simp only [qd] <;> omega)) only [xq, ↓xp, qc, Nat.reduceAdd, List.range, List.range.loop, fine, Nat.reduceEqDiff, ↓reduceIte, yielded, reduceCtorEq, Nat.reduceLT, Nat.reduceMul, Nat.reduceSub, one, Nat.reduceLeDiff, runX_cons, y46_42, aq, ↓ap, qe0, qe1, qe2, *, -hK]; try (refine hK _ _ ?_; clear hK K; (try simp only [nq, ↓reduceIte, Nat.reduceEqDiff])))
  | (refine wpX_skip ?_; (try simp only [nq, ↓reduceIte, Nat.reduceEqDiff]))
  | (refine wpX_label ?_; (try simp only [nq, ↓reduceIte, Nat.reduceEqDiff]))
  | (refine wpX_exit ?_; (try simp only [nq, ↓reduceIte, Nat.reduceEqDiff]))
  | (refine wpX_goto ?_; (try simp only [nq, ↓reduceIte, Nat.reduceEqDiff]))
  | (refine wpX_condK (by simp only [act_eval, upd_get, Nat.reduceEqDiff, Nat.reduceLT, ↓reduceIte, *]; rfl) ?_ ?_ <;> (intro hc; first | (exfalso; simp -implicitDefEqProofs (disch := omega) only [*, bq, reduceCtorEq] at hc; done) | (simp only [dq, qe3, qe4, qe5, qe6] at hc) | skip))
  | (refine wpX_scope0 ?_)
  | (refine wpX_block ?_)
  | (refine wpX_seq ?_))
      (intro cb hcb; generalize hG : Hp.set _ cb _ = H4; have lH4 := le_of_set hG hcb; have vcb := at_of_set hG; clear hG)
      have vbb4 := lH4 _ _ vbb
      have hh4 := hh3.le lH4
      have ncb : cb ≠ bb := (ne_new vbb hcb).symm
      have ncb' := ncb.symm
      have hrow4 := rowZ_keep hrow (fun x _ u hu => lH4 _ _ hu) (hrow.1.le lH4)
      have ncr : rowB rv ≠ some cb := fun h9 => by obtain ⟨_, c9, h9'⟩ := rowZ_at hrow h9; rw [hcb] at h9'; cases h9'
      have nbr : rowB rv ≠ some bb := fun h9 => by obtain ⟨_, c9, h9'⟩ := rowZ_at hrow h9; rw [vbb] at h9'; cases h9'
      have h0cb : H cb = none := hrow.1.gone hcb
      clear hh3 hp3 hb' hxk vbb hrow hcb
      (try simp -implicitDefEqProofs (disch := first | omega | (simp only [qd] <;> omega)) only [xq, ↓xp, qc, Nat.reduceAdd, List.range, List.range.loop, fine, Nat.reduceEqDiff, ↓reduceIte, yielded, reduceCtorEq, Nat.reduceLT, Nat.reduceMul, Nat.reduceSub, one, Nat.reduceLeDiff, runX_cons, y46_42, aq, ↓ap, qe0, qe1, qe2, *, -hK]); try (refine hK _ _ ?_; clear hK K; (try simp only [nq, ↓reduceIte, Nat.reduceEqDiff])); repeat' (first
  | (refine wpX_stmtL rfl ?_; intro K hK; simp -implicitDefEqProofs (disch := first | omega | (simp only [qd] <;> omega)) only [xq, ↓xp, qc, Nat.reduceAdd, List.range, List.range.loop, fine, Nat.reduceEqDiff, ↓reduceIte, yielded, reduceCtorEq, Nat.reduceLT, Nat.reduceMul, Nat.reduceSub, one, Nat.reduceLeDiff, runX_cons, y46_42, aq, ↓ap, qe0, qe1, qe2, *, -hK]; try (refine hK _ _ ?_; clear hK K))
  | (refine wpX_lastL rfl ?_; intro K hK; simp -implicitDefEqProofs (disch := first | omega | (simp only [qd] <;> omega)) only [xq, ↓xp, qc, Nat.reduceAdd, List.range, List.range.loop, fine, Nat.reduceEqDiff, ↓reduceIte, yielded, reduceCtorEq, Nat.reduceLT, Nat.reduceMul, Nat.reduceSub, one, Nat.reduceLeDiff, runX_cons, y46_42, aq, ↓ap, qe0, qe1, qe2, *, -hK]; try (refine hK _ _ ?_; clear hK K; (try simp only [nq, ↓reduceIte, Nat.reduceEqDiff])))
  | (refine wpX_skip ?_; (try simp only [nq, ↓reduceIte, Nat.reduceEqDiff]))
  | (refine wpX_label ?_; (try simp only [nq, ↓reduceIte, Nat.reduceEqDiff]))
  | (refine wpX_exit ?_; (try simp only [nq, ↓reduceIte, Nat.reduceEqDiff]))
  | (refine wpX_goto ?_; (try simp only [nq, ↓reduceIte, Nat.reduceEqDiff]))
  | (refine wpX_condK (by simp only [act_eval, upd_get, Nat.reduceEqDiff, Nat.reduceLT, ↓reduceIte, *]; rfl) ?_ ?_ <;> (intro hc; first | (exfalso; simp -implicitDefEqProofs (disch := omega) only [*, bq, reduceCtorEq] at hc; done) | (simp only [dq, qe3, qe4, qe5, qe6] at hc) | skip))
  | (refine wpX_scope0 ?_)
  | (refine wpX_block ?_)
  | (refine wpX_seq ?_))
      refine (ride_spec main H4 hb n v jv js hh4 bs i1 (fun x hx => by have := i2 x hx; omega) f mk hmk (by omega) mi hm1 hm2).runs.mono ?_
      rintro _ H5 ⟨rfl, lH5⟩
      generalize hR : rideF n js bs f mk mi = R at *
      have hbl : (bs.set (pickB bs n.barrows.toNat) R.back).length = 4 := by rw [List.length_set]; exact i1
      generalize bs.set (pickB bs n.barrows.toNat) R.back = bs2 at *
      have vcb5 := lH5 _ _ vcb
      have vbb5 := lH5 _ _ vbb4
      have hrow5 := rowZ_keep hrow4 (fun x _ u hu => lH5 _ _ hu) (hrow4.1.le lH5)
      clear vcb vbb4 hrow4 hh4 hR lH5 lH4
      have hli2 : (ints bs2).length = 4 := by rw [ints_len]; exact hbl
      have hne2 : ints bs2 ≠ [] := fun h => by rw [h] at hli2; cases hli2
      have hone : (ints bs2).all one = true := List.all_eq_true.2 (ints_one _)
      have hov : over (ints bs).toArray 0 (ints bs2) = (ints bs2).toArray := over_all (by rw [hli, hli2])
      have vbb5' : (H5.set cb (.cells #[.int .i64 R.barrow, .int .i64 R.out, .int .i64 R.back] 108 (0, 0))) bb = _ := (set_ne ncb').trans vbb5
      simp only [RideV.agg]
      (try simp -implicitDefEqProofs (disch := first | omega | (simp only [qd] <;> omega)) only [xq, ↓xp, qc, Nat.reduceAdd, List.range, List.range.loop, fine, Nat.reduceEqDiff, ↓reduceIte, yielded, reduceCtorEq, Nat.reduceLT, Nat.reduceMul, Nat.reduceSub, one, Nat.reduceLeDiff, runX_cons, y46_42, aq, ↓ap, qe0, qe1, qe2, *, -hK, storL_at hne2 vbb5']); try (refine hK _ _ ?_; clear hK K; (try simp only [nq, ↓reduceIte, Nat.reduceEqDiff])); repeat' (first
  | (refine wpX_stmtL rfl ?_; intro K hK; simp -implicitDefEqProofs (disch := first | omega | (simp only [qd] <;> omega)) only [xq, ↓xp, qc, Nat.reduceAdd, List.range, List.range.loop, fine, Nat.reduceEqDiff, ↓reduceIte, yielded, reduceCtorEq, Nat.reduceLT, Nat.reduceMul, Nat.reduceSub, one, Nat.reduceLeDiff, runX_cons, y46_42, aq, ↓ap, qe0, qe1, qe2, *, -hK, storL_at hne2 vbb5']; try (refine hK _ _ ?_; clear hK K))
  | (refine wpX_lastL rfl ?_; intro K hK; simp -implicitDefEqProofs (disch := first | omega | (simp only [qd] <;> omega)) only [xq, ↓xp, qc, Nat.reduceAdd, List.range, List.range.loop, fine, Nat.reduceEqDiff, ↓reduceIte, yielded, reduceCtorEq, Nat.reduceLT, Nat.reduceMul, Nat.reduceSub, one, Nat.reduceLeDiff, runX_cons, y46_42, aq, ↓ap, qe0, qe1, qe2, *, -hK, storL_at hne2 vbb5']; try (refine hK _ _ ?_; clear hK K; (try simp only [nq, ↓reduceIte, Nat.reduceEqDiff])))
  | (refine wpX_skip ?_; (try simp only [nq, ↓reduceIte, Nat.reduceEqDiff]))
  | (refine wpX_label ?_; (try simp only [nq, ↓reduceIte, Nat.reduceEqDiff]))
  | (refine wpX_exit ?_; (try simp only [nq, ↓reduceIte, Nat.reduceEqDiff]))
  | (refine wpX_goto ?_; (try simp only [nq, ↓reduceIte, Nat.reduceEqDiff]))
  | (refine wpX_condK (by simp only [act_eval, upd_get, Nat.reduceEqDiff, Nat.reduceLT, ↓reduceIte, *]; rfl) ?_ ?_ <;> (intro hc; first | (exfalso; simp -implicitDefEqProofs (disch := omega) only [*, bq, reduceCtorEq] at hc; done) | (simp only [dq, qe3, qe4, qe5, qe6] at hc) | skip))
  | (refine wpX_scope0 ?_)
  | (refine wpX_block ?_)
  | (refine wpX_seq ?_))
      intro g hg
      replace hg : ((H5.set cb (.cells #[.int .i64 R.barrow, .int .i64 R.out, .int .i64 R.back] 108 (0, 0))).set bb (.cells (ints bs2).toArray 136 (0, 0))) g = none := hg
      have vbb6 : ((H5.set cb (.cells #[.int .i64 R.barrow, .int .i64 R.out, .int .i64 R.back] 108 (0, 0))).set bb (.cells (ints bs2).toArray 136 (0, 0))) bb = some (true, .cells (ints bs2).toArray 136 (0, 0)) := set_at
      have lx6 : Lex none H ((H5.set cb (.cells #[.int .i64 R.barrow, .int .i64 R.out, .int .i64 R.back] 108 (0, 0))).set bb (.cells (ints bs2).toArray 136 (0, 0))) := (hrow5.1.own h0cb).own h0bb
      have hrow6 := rowZ_keep hrow5 (fun x hx u hu => by rw [set_ne (fun h9 => nbr (by rw [← h9]; exact hx)), set_ne (fun h9 => ncr (by rw [← h9]; exact hx))]; exact hu) lx6
      generalize (H5.set cb (.cells #[.int .i64 R.barrow, .int .i64 R.out, .int .i64 R.back] 108 (0, 0))).set bb (.cells (ints bs2).toArray 136 (0, 0)) = H6 at *
      refine append_rowZ Tryd.underlying105 Tryd.sizeOf108 Tryd.zeroValue108 rfl Tryd.typeInfo108 (by decide) (by decide) hrow6 (ws := [.int .i64 R.barrow, .int .i64 R.out, .int .i64 R.back]) rfl hg (by simp [one]) (by omega) _ _ _ _ (fun rv' H7 hrow7 hkeep hnew => ?_)
      have vbb7 := hkeep bb _ vbb6 nbr
      rw [← rcells_app] at hrow7
      clear hrow6 hrow5 lx6 vbb6 hkeep hnew hov hone hne2 vbb5' vbb5 vcb5
      (try simp -implicitDefEqProofs (disch := first | omega | (simp only [qd] <;> omega)) only [xq, ↓xp, qc, Nat.reduceAdd, List.range, List.range.loop, fine, Nat.reduceEqDiff, ↓reduceIte, yielded, reduceCtorEq, Nat.reduceLT, Nat.reduceMul, Nat.reduceSub, one, Nat.reduceLeDiff, runX_cons, y46_42, aq, ↓ap, qe0, qe1, qe2, *, -hK]); try (refine hK _ _ ?_; clear hK K; (try simp only [nq, ↓reduceIte, Nat.reduceEqDiff])); repeat' (first
  | (refine wpX_stmtL rfl ?_; intro K hK; simp -implicitDefEqProofs (disch := first | omega | (simp only [qd] <;> omega)) only [xq, ↓xp, qc, Nat.reduceAdd, List.range, List.range.loop, fine, Nat.reduceEqDiff, ↓reduceIte, yielded, reduceCtorEq, Nat.reduceLT, Nat.reduceMul, Nat.reduceSub, one, Nat.reduceLeDiff, runX_cons, y46_42, aq, ↓ap, qe0, qe1, qe2, *, -hK]; try (refine hK _ _ ?_; clear hK K))
  | (refine wpX_lastL rfl ?_; intro K hK; simp -implicitDefEqProofs (disch := first | omega | (simp only [qd] <;> omega)) only [xq, ↓xp, qc, Nat.reduceAdd, List.range, List.range.loop, fine, Nat.reduceEqDiff, ↓reduceIte, yielded, reduceCtorEq, Nat.reduceLT, Nat.reduceMul, Nat.reduceSub, one, Nat.reduceLeDiff, runX_cons, y46_42, aq, ↓ap, qe0, qe1, qe2, *, -hK]; try (refine hK _ _ ?_; clear hK K; (try simp only [nq, ↓reduceIte, Nat.reduceEqDiff])))
  | (refine wpX_skip ?_; (try simp only [nq, ↓reduceIte, Nat.reduceEqDiff]))
  | (refine wpX_label ?_; (try simp only [nq, ↓reduceIte, Nat.reduceEqDiff]))
  | (refine wpX_exit ?_; (try simp only [nq, ↓reduceIte, Nat.reduceEqDiff]))
  | (refine wpX_goto ?_; (try simp only [nq, ↓reduceIte, Nat.reduceEqDiff]))
  | (refine wpX_condK (by simp only [act_eval, upd_get, Nat.reduceEqDiff, Nat.reduceLT, ↓reduceIte, *]; rfl) ?_ ?_ <;> (intro hc; first | (exfalso; simp -implicitDefEqProofs (disch := omega) only [*, bq, reduceCtorEq] at hc; done) | (simp only [dq, qe3, qe4, qe5, qe6] at hc) | skip))
  | (refine wpX_scope0 ?_)
  | (refine wpX_block ?_)
  | (refine wpX_seq ?_))
      refine ⟨_, by omega, _, k + 1, rv', rfl, hlt, rfl, e0, e2, rfl, e8, ?_, e14, e15, rfl, ?_, ?_⟩
      · rw [hD1, hdef]; rfl
      · rw [hD1, hdef]; exact hrow7
      · rw [hD1, hdef]; exact vbb7
    · obtain rfl : k = pl.length := by omega
      repeat' (first
  | (refine wpX_stmtL rfl ?_; intro K hK; simp -implicitDefEqProofs (disch := first | omega | (simp only [qd] <;> omega)) only [xq, ↓xp, qc, Nat.reduceAdd, List.range, List.range.loop, fine, Nat.reduceEqDiff, ↓reduceIte, yielded, reduceCtorEq, Nat.reduceLT, Nat.reduceMul, Nat.reduceSub, one, Nat.reduceLeDiff, runX_cons, y46_42, aq, ↓ap, qe0, qe1, qe2, *, -hK]; try (refine hK _ _ ?_; clear hK K))
  | (refine wpX_lastL rfl ?_; intro K hK; simp -implicitDefEqProofs (disch := first | omega | (simp only [qd] <;> omega)) only [xq, ↓xp, qc, Nat.reduceAdd, List.range, List.range.loop, fine, Nat.reduceEqDiff, ↓reduceIte, yielded, reduceCtorEq, Nat.reduceLT, Nat.reduceMul, Nat.reduceSub, one, Nat.reduceLeDiff, runX_cons, y46_42, aq, ↓ap, qe0, qe1, qe2, *, -hK]; try (refine hK _ _ ?_; clear hK K; (try simp only [nq, ↓reduceIte, Nat.reduceEqDiff])))
  | (refine wpX_skip ?_; (try simp only [nq, ↓reduceIte, Nat.reduceEqDiff]))
  | (refine wpX_label ?_; (try simp only [nq, ↓reduceIte, Nat.reduceEqDiff]))
  | (refine wpX_exit ?_; (try simp only [nq, ↓reduceIte, Nat.reduceEqDiff]))
  | (refine wpX_goto ?_; (try simp only [nq, ↓reduceIte, Nat.reduceEqDiff]))
  | (refine wpX_condK (by simp only [act_eval, upd_get, Nat.reduceEqDiff, Nat.reduceLT, ↓reduceIte, *]; rfl) ?_ ?_ <;> (intro hc; first | (exfalso; simp -implicitDefEqProofs (disch := omega) only [*, bq, reduceCtorEq] at hc; done) | (simp only [dq, qe3, qe4, qe5, qe6] at hc) | skip))
  | (refine wpX_scope0 ?_)
  | (refine wpX_block ?_)
  | (refine wpX_seq ?_))
      (refine wpX_ret ?_; (try simp only [nq, ↓reduceIte, Nat.reduceEqDiff]); rw [bodyX_ret, results_one Tryd.results46 (by decide)]; simp only [upd_get, Nat.reduceEqDiff, ↓reduceIte])
      exact ⟨rv, rfl, hrow⟩
end Go.Proofs.YtiempdpjcddgfaaDoor
end
