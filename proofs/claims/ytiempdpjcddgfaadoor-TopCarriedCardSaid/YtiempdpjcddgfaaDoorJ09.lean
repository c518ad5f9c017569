/- Texts Fine Range Iter. -/
import Derived.Test.YtiempdpjcddgfaaDoorJ08
section
/- Whether a plan is in time. -/
set_option linter.unusedSimpArgs false
set_option maxRecDepth 100000
set_option maxHeartbeats 1000000
set_option linter.unusedVariables false
namespace Go.Proofs.YtiempdpjcddgfaaDoor
open Go Go.X
set_option linter.defProp false
def y22_43 := And.intro @callF46 (And.intro (fun H => len_slice (H := H) Tryd.underlying105) (And.intro (fun H => indexAt_slice (H := H) Tryd.underlying105 Tryd.sizeOf108) (And.intro (fun H => loadAt_aggE (H := H) Tryd.underlying108 rfl Tryd.sizeOf108) (And.intro (fun H => ex_alloc (H := H) (P := Tryd.prog) (h := Tryd.zeroValue108)) (And.intro (fun H => storeAt_agg (H := H) Tryd.sizeOf108) (And.intro (fun H => indexAt_slice (H := H) Tryd.underlying22 Tryd.sizeOf3) (And.intro (fun H => loadAt_one (H := H) Tryd.underlying3 rfl) (And.intro @callF47 (And.intro (fun H st => assert_ok (H := H) (st := st) Tryd.underlying112 rfl Tryd.zeroValue112) (fun H st => assert_ok (H := H) (st := st) Tryd.underlying114 rfl Tryd.zeroValue114))))))))))
def y47_43 := And.intro (fun H => fieldAt_eq (H := H) Tryd.underlying108 (i := 2) rfl (off := 2) rfl Tryd.sizeOf3) (And.intro (fun H => loadAt_one (H := H) Tryd.underlying3 rfl) (And.intro (fun H => fieldAt_eq (H := H) Tryd.underlying68 (i := 0) rfl (off := 0) rfl Tryd.sizeOf29) (And.intro (fun H => fieldAt_eq (H := H) Tryd.underlying29 (i := 3) rfl (off := 6) rfl Tryd.sizeOf22) (And.intro (fun H => loadAt_one (H := H) Tryd.underlying22 rfl) (And.intro (fun H => fieldAt_eq (H := H) Tryd.underlying68 (i := 1) rfl (off := 12) rfl Tryd.sizeOf22) (And.intro (fun H => indexAt_slice (H := H) Tryd.underlying22 Tryd.sizeOf3) (And.intro (fun H => makeI (H := H) Tryd.underlying112 rfl) (And.intro @bld_114__0 (fun H => makeI (H := H) Tryd.underlying114 rfl)))))))))

/-- What becomes of a job. -/
def outV (late : Int) : Value := if 0 < late then .iface 112 (.int .i64 late) else .iface 114 (.agg #[])

theorem HaulAt.due_at {H : Hp} {hb : Nat} {n : HN} {v : HV} {jv : Value} {js : List Int} (hh : HaulAt H hb n v jv js) {k : Nat} (hk : k < js.length) : ∃ (jb jo jc : Nat) (jp : Bool) (jcs : Array Value) (jfr : Nat × Nat) (xb xo xc : Nat) (xpp : Bool) (xcs : Array Value) (xfr : Nat × Nat),
    jv = .slice (some ⟨jb, jo, none⟩) js.length jc ∧ H jb = some (jp, .cells jcs 3 jfr) ∧ jcs[jo + k]? = some (.int .i64 (js.getD k 0)) ∧ v.xv = .slice (some ⟨xb, xo, none⟩) n.xs.length xc ∧ H xb = some (xpp, .cells xcs 3 xfr) ∧ xcs[xo + (js.getD k 0).toNat]? = some (.int .i64 (n.due js k)) ∧
    0 ≤ js.getD k 0 ∧ js.getD k 0 < n.xs.length ∧ 0 ≤ n.due js k ∧ n.due js k ≤ 99 := by
  have hjk : js.getD k 0 = js[k] := by simp [List.getD, List.getElem?_eq_getElem hk]
  have hjr := hh.jb _ (List.getElem_mem hk)
  rw [← hjk] at hjr
  have hdue : n.due js k = n.xs[(js.getD k 0).toNat]'(by omega) := by simp [HN.due, List.getD, List.getElem?_eq_getElem (show (js[k]?.getD 0).toNat < n.xs.length by simpa [List.getD] using (by omega : (js.getD k 0).toNat < n.xs.length))]
  have hxr := hh.xb _ (List.getElem_mem (show (js.getD k 0).toNat < n.xs.length by omega))
  rw [← hdue] at hxr
  obtain ⟨jb, jo, jc, jp, jcs, jfr, hje, _, vjb, hjx⟩ := hh.j.cons (fun h => absurd (congrArg List.length h) (by simp only [List.length_nil]; omega))
  obtain ⟨xb, xo, xc, xpp, xcs, xfr, hxe, _, vxb, hxx⟩ := hh.x.cons (fun h => absurd (congrArg List.length h) (by simp only [List.length_nil]; omega))
  exact ⟨jb, jo, jc, jp, jcs, jfr, xb, xo, xc, xpp, xcs, xfr, hje, vjb, by rw [hjk]; exact hjx _ _ (List.getElem?_eq_getElem _), hxe, vxb, by rw [hdue]; exact hxx _ _ (List.getElem?_eq_getElem _), hjr.1, hjr.2, hxr.1, hxr.2⟩

theorem outcome_spec (main : Bool) (H : Hp) (hb : Nat) (n : HN) (v : HV) (jv : Value) (js : List Int) (hh : HaulAt H hb n v jv js) (k : Nat) (hk : k < js.length) (r : RideV) (hr : -10000000 ≤ r.back ∧ r.back ≤ 10000000) :
    FnX Tryd.prog main 47 #[.pointer (some ⟨hb, 0, none⟩), .int .i64 k, r.agg] H fun e H' => e = .returned (outV (r.back - n.due js k)) ∧ H.le H' := by
  obtain ⟨jb, jo, jc, jp, jcs, jfr, xb, xo, xc, xpp, xcs, xfr, rfl, vjb, hj1, hxe, vxb, hx1, j0, j1, d0, d99⟩ := hh.due_at hk
  obtain ⟨sv, cv, tv, xv⟩ := v
  simp only [] at hxe
  subst hxe
  have hho := hh.o
  simp only [HN.obj] at hho
  simp only [RideV.agg]
  refine FnX_start Tryd.func47 rfl Tryd.ntmps47 (by simp) ?_
  generalize n.due js k = due at *
  generalize js.getD k 0 = jk at *
  obtain ⟨rb, ro, rk⟩ := r
  simp only [] at hr ⊢
  repeat' (first
  | (refine wpX_stmtL rfl ?_; intro K hK; simp -implicitDefEqProofs (disch := first | omega | (simp only [qd] <;> omega)) only [xq, ↓xp, qc, Nat.reduceAdd, List.range, List.range.loop, fine, Nat.reduceEqDiff, ↓reduceIte, yielded, reduceCtorEq, Nat.reduceLT, Nat.reduceMul, Nat.reduceSub, one, Nat.reduceLeDiff, runX_cons, y47_43, aq, ↓ap, qe0, qe1, qe2, *, -hK]; try (refine hK _ _ ?_; clear hK K))
  | (refine wpX_lastL rfl ?_; intro K hK; simp -implicitDefEqProofs (disch := first | omega | (simp only [qd] <;> omega)) only [xq, ↓xp, qc, Nat.reduceAdd, List.range, List.range.loop, fine, Nat.reduceEqDiff, ↓reduceIte, yielded, reduceCtorEq, Nat.reduceLT, Nat.reduceMul, Nat.reduceSub, one, Nat.reduceLeDiff, runX_cons, y47_43, aq, ↓ap, qe0, qe1, qe2, *, -hK]; try (refine hK _ _ ?_; clear hK K; (try simp only [nq, ↓reduceIte, Nat.reduceEqDiff])))
  | (refine wpX_skip ?_; (try simp only [nq, ↓reduceIte, Nat.reduceEqDiff]))
  | (refine wpX_label ?_; (try simp only [nq, ↓reduceIte, Nat.reduceEqDiff]))
  | (refine wpX_exit ?_; (try simp only [nq, ↓reduceIte, Nat.reduceEqDiff]))
  | (refine wpX_goto ?_; (try simp only [nq, ↓reduceIte, Nat.reduceEqDiff]))
  | (refine wpX_condK (by simp only [act_eval, upd_get, Nat.reduceEqDiff, Nat.reduceLT, ↓reduceIte, *]; rfl) ?_ ?_ <;> (intro hc; first | (exfalso; simp -implicitDefEqProofs (disch := omega) only [*, bq, reduceCtorEq] at hc; done) | (simp only [dq, qe3, qe4, qe5, qe6] at hc) | skip))
  | (refine wpX_scope0 ?_)
  | (refine wpX_block ?_)
  | (refine wpX_seq ?_))
  (intro b1 hb1; generalize hG : Hp.set _ b1 _ = H1; have lH1 := le_of_set hG hb1; have vb1 := at_of_set hG; clear hG)
  have vhb1 := lH1 _ _ hho
  have vjb1 := lH1 _ _ vjb
  have vxb1 := lH1 _ _ vxb
  clear hho vjb vxb
  (try simp -implicitDefEqProofs (disch := first | omega | (simp only [qd] <;> omega)) only [xq, ↓xp, qc, Nat.reduceAdd, List.range, List.range.loop, fine, Nat.reduceEqDiff, ↓reduceIte, yielded, reduceCtorEq, Nat.reduceLT, Nat.reduceMul, Nat.reduceSub, one, Nat.reduceLeDiff, runX_cons, y47_43, aq, ↓ap, qe0, qe1, qe2, *, -hK]); try (refine hK _ _ ?_; clear hK K; (try simp only [nq, ↓reduceIte, Nat.reduceEqDiff])); repeat' (first
  | (refine wpX_stmtL rfl ?_; intro K hK; simp -implicitDefEqProofs (disch := first | omega | (simp only [qd] <;> omega)) only [xq, ↓xp, qc, Nat.reduceAdd, List.range, List.range.loop, fine, Nat.reduceEqDiff, ↓reduceIte, yielded, reduceCtorEq, Nat.reduceLT, Nat.reduceMul, Nat.reduceSub, one, Nat.reduceLeDiff, runX_cons, y47_43, aq, ↓ap, qe0, qe1, qe2, *, -hK]; try (refine hK _ _ ?_; clear hK K))
  | (refine wpX_lastL rfl ?_; intro K hK; simp -implicitDefEqProofs (disch := first | omega | (simp only [qd] <;> omega)) only [xq, ↓xp, qc, Nat.reduceAdd, List.range, List.range.loop, fine, Nat.reduceEqDiff, ↓reduceIte, yielded, reduceCtorEq, Nat.reduceLT, Nat.reduceMul, Nat.reduceSub, one, Nat.reduceLeDiff, runX_cons, y47_43, aq, ↓ap, qe0, qe1, qe2, *, -hK]; try (refine hK _ _ ?_; clear hK K; (try simp only [nq, ↓reduceIte, Nat.reduceEqDiff])))
  | (refine wpX_skip ?_; (try simp only [nq, ↓reduceIte, Nat.reduceEqDiff]))
  | (refine wpX_label ?_; (try simp only [nq, ↓reduceIte, Nat.reduceEqDiff]))
  | (refine wpX_exit ?_; (try simp only [nq, ↓reduceIte, Nat.reduceEqDiff]))
  | (refine wpX_goto ?_; (try simp only [nq, ↓reduceIte, Nat.reduceEqDiff]))
  | (refine wpX_condK (by simp only [act_eval, upd_get, Nat.reduceEqDiff, Nat.reduceLT, ↓reduceIte, *]; rfl) ?_ ?_ <;> (intro hc; first | (exfalso; simp -implicitDefEqProofs (disch := omega) only [*, bq, reduceCtorEq] at hc; done) | (simp only [dq, qe3, qe4, qe5, qe6] at hc) | skip))
  | (refine wpX_scope0 ?_)
  | (refine wpX_block ?_)
  | (refine wpX_seq ?_))
  (refine wpX_dst1 18 [(true, 0), (true, 1), (true, 2), (true, 3), (true, 4), (true, 5), (true, 6), (true, 7), (true, 8), (true, 9), (true, 10), (true, 11), (true, 12), (true, 13), (true, 14), (true, 15), (true, 16), (true, 17)] (by kernel_rfl) (by kernel_rfl) (by simp) (by kernel_rfl) ?_; intro K hK; (iterate 18 (apply plan_take rfl rfl rfl; (focus (simp -implicitDefEqProofs (disch := first | omega | (simp only [qd] <;> omega)) only [xq, ↓xp, qc, Nat.reduceAdd, List.range, List.range.loop, fine, Nat.reduceEqDiff, ↓reduceIte, yielded, reduceCtorEq, Nat.reduceLT, Nat.reduceMul, Nat.reduceSub, one, Nat.reduceLeDiff, runX_cons, y47_43, aq, ↓ap, qe0, qe1, qe2, *, -hK, YN_value] <;> (first | exact rfl | exact ⟨rfl, rfl⟩ | exact ⟨rfl, trivial⟩))); simp -implicitDefEqProofs (disch := first | omega | (simp only [qd] <;> omega)) only [act_put, act_put_none])); refine plan_nil (hK _ _ ?_); clear hK K; (try simp only [nq, ↓reduceIte, Nat.reduceEqDiff]))
  repeat' (first
  | (refine wpX_stmtL rfl ?_; intro K hK; simp -implicitDefEqProofs (disch := first | omega | (simp only [qd] <;> omega)) only [xq, ↓xp, qc, Nat.reduceAdd, List.range, List.range.loop, fine, Nat.reduceEqDiff, ↓reduceIte, yielded, reduceCtorEq, Nat.reduceLT, Nat.reduceMul, Nat.reduceSub, one, Nat.reduceLeDiff, runX_cons, y47_43, aq, ↓ap, qe0, qe1, qe2, *, -hK]; try (refine hK _ _ ?_; clear hK K))
  | (refine wpX_lastL rfl ?_; intro K hK; simp -implicitDefEqProofs (disch := first | omega | (simp only [qd] <;> omega)) only [xq, ↓xp, qc, Nat.reduceAdd, List.range, List.range.loop, fine, Nat.reduceEqDiff, ↓reduceIte, yielded, reduceCtorEq, Nat.reduceLT, Nat.reduceMul, Nat.reduceSub, one, Nat.reduceLeDiff, runX_cons, y47_43, aq, ↓ap, qe0, qe1, qe2, *, -hK]; try (refine hK _ _ ?_; clear hK K; (try simp only [nq, ↓reduceIte, Nat.reduceEqDiff])))
  | (refine wpX_skip ?_; (try simp only [nq, ↓reduceIte, Nat.reduceEqDiff]))
  | (refine wpX_label ?_; (try simp only [nq, ↓reduceIte, Nat.reduceEqDiff]))
  | (refine wpX_exit ?_; (try simp only [nq, ↓reduceIte, Nat.reduceEqDiff]))
  | (refine wpX_goto ?_; (try simp only [nq, ↓reduceIte, Nat.reduceEqDiff]))
  | (refine wpX_condK (by simp only [act_eval, upd_get, Nat.reduceEqDiff, Nat.reduceLT, ↓reduceIte, *]; rfl) ?_ ?_ <;> (intro hc; first | (exfalso; simp -implicitDefEqProofs (disch := omega) only [*, bq, reduceCtorEq] at hc; done) | (simp only [dq, qe3, qe4, qe5, qe6] at hc) | skip))
  | (refine wpX_scope0 ?_)
  | (refine wpX_block ?_)
  | (refine wpX_seq ?_))
  · (refine wpX_ret ?_; (try simp only [nq, ↓reduceIte, Nat.reduceEqDiff]); rw [bodyX_ret, results_one Tryd.results47 (by decide)]; simp only [upd_get, Nat.reduceEqDiff, ↓reduceIte])
    exact ⟨by rw [outV, if_pos hc], lH1⟩
  · (refine wpX_ret ?_; (try simp only [nq, ↓reduceIte, Nat.reduceEqDiff]); rw [bodyX_ret, results_one Tryd.results47 (by decide)]; simp only [upd_get, Nat.reduceEqDiff, ↓reduceIte])
    exact ⟨by rw [outV, if_neg (by omega)], lH1⟩

theorem rcells_len : ∀ rs : List RideV, (rcells rs).length = rs.length * 3
  | [] => rfl
  | r :: rs => by
    have := rcells_len rs
    simp only [rcells, List.flatMap_cons, List.length_append, List.length_cons, List.length_nil] at this ⊢
    omega
theorem rcells_get : ∀ (rs : List RideV) (i : Nat) (r : RideV), rs[i]? = some r → (rcells rs)[i * 3]? = some (.int .i64 r.barrow) ∧ (rcells rs)[i * 3 + 1]? = some (.int .i64 r.out) ∧ (rcells rs)[i * 3 + 2]? = some (.int .i64 r.back)
  | [], i, r, h => by simp at h
  | q :: rs, 0, r, h => by
    simp at h
    subst h
    simp [rcells]
  | q :: rs, i + 1, r, h => by
    obtain ⟨h1, h2, h3⟩ := rcells_get rs i r (by simpa using h)
    have e : rcells (q :: rs) = [.int .i64 q.barrow, .int .i64 q.out, .int .i64 q.back] ++ rcells rs := rfl
    rw [e]
    refine ⟨?_, ?_, ?_⟩
    · rw [List.getElem?_append_right (by simp; omega)]
      simpa [show (i + 1) * 3 - 3 = i * 3 by omega] using h1
    · rw [List.getElem?_append_right (by simp; omega)]
      simpa [show (i + 1) * 3 + 1 - 3 = i * 3 + 1 by omega] using h2
    · rw [List.getElem?_append_right (by simp; omega)]
      simpa [show (i + 1) * 3 + 2 - 3 = i * 3 + 2 by omega] using h3
theorem extract3 {c : Array Value} {k : Nat} {x y z : Value} (h1 : c[k]? = some x) (h2 : c[k + 1]? = some y) (h3 : c[k + 2]? = some z) : c.extract k (k + 3) = #[x, y, z] := by
  have hk : k + 2 < c.size := (Array.getElem?_eq_some_iff.1 h3).1
  apply Array.ext_getElem?
  intro i
  rw [Array.getElem?_extract]
  rcases i with _ | _ | _ | i
  · simp; exact ⟨by omega, by simpa using h1⟩
  · simp; exact ⟨by omega, by simpa using h2⟩
  · simp; exact ⟨by omega, by simpa using h3⟩
  · simp; intro h; omega

/-- A plan is in time. -/
def fineP (n : HN) (js : List Int) (mi : Int) (pl : List Nat) : Prop := ∀ i r, (dS n js mi pl pl.length).2.2[i]? = some r → ∀ j, j < pl.getD i 0 → r.back - n.due js ((pl.take i).sum + j) ≤ 0

theorem fine_spec (main : Bool) (H : Hp) (hb : Nat) (n : HN) (v : HV) (jv : Value) (js : List Int) (hh : HaulAt H hb n v jv js) (pv : Value) (pl : List Nat) (hp : SlI H pv (pl.map fun m : Nat => (m : Int))) (hp1 : ∀ m ∈ pl, 1 ≤ m) (hps : pl.sum ≤ js.length) (hpl : pl.length ≤ 1000) (mi : Int) (hm1 : 1 ≤ mi) (hm2 : mi ≤ 20)
    (hbk : ∀ r ∈ (dS n js mi pl pl.length).2.2, -10000000 ≤ r.back ∧ r.back ≤ 10000000) :
    FnX Tryd.prog main 22 #[.pointer (some ⟨hb, 0, none⟩), pv, .int .i64 mi] H fun e H' => ∃ b, e = .returned (.bool b) ∧ (b = true ↔ fineP n js mi pl) ∧ H.le H' := by
  have hpS := hp
  obtain ⟨pa, pc, rfl, hpc, _⟩ := hp
  have hjl := hh.jl
  have hdok := dS_ok n js mi pl hh.xb hh.n0 hh.b1 hh.b4 hm1 hm2 pl.length (Nat.le_refl _)
  simp only [List.length_map] at hpc
  simp only [List.length_map]
  have hdr := drive_spec main H hb n v jv js hh _ pl hpS hp1 hps hpl mi hm1 hm2
  simp only [List.length_map] at hdr
  have hlen := hdok.2.2.2
  generalize hRS : (dS n js mi pl pl.length).2.2 = rs at hbk hdr hlen
  unfold fineP
  rw [hRS]
  clear hRS hdok
  refine FnX_start Tryd.func22 rfl Tryd.ntmps22 (by simp) ?_
  repeat' (first
  | (refine wpX_stmtL rfl ?_; intro K hK; simp -implicitDefEqProofs (disch := first | omega | (simp only [qd] <;> omega)) only [xq, ↓xp, qc, Nat.reduceAdd, List.range, List.range.loop, fine, Nat.reduceEqDiff, ↓reduceIte, yielded, reduceCtorEq, Nat.reduceLT, Nat.reduceMul, Nat.reduceSub, one, Nat.reduceLeDiff, runX_cons, y22_43, aq, ↓ap, qe0, qe1, qe2, *, -hK]; try (refine hK _ _ ?_; clear hK K))
  | (refine wpX_lastL rfl ?_; intro K hK; simp -implicitDefEqProofs (disch := first | omega | (simp only [qd] <;> omega)) only [xq, ↓xp, qc, Nat.reduceAdd, List.range, List.range.loop, fine, Nat.reduceEqDiff, ↓reduceIte, yielded, reduceCtorEq, Nat.reduceLT, Nat.reduceMul, Nat.reduceSub, one, Nat.reduceLeDiff, runX_cons, y22_43, aq, ↓ap, qe0, qe1, qe2, *, -hK]; try (refine hK _ _ ?_; clear hK K; (try simp only [nq, ↓reduceIte, Nat.reduceEqDiff])))
  | (refine wpX_skip ?_; (try simp only [nq, ↓reduceIte, Nat.reduceEqDiff]))
  | (refine wpX_label ?_; (try simp only [nq, ↓reduceIte, Nat.reduceEqDiff]))
  | (refine wpX_exit ?_; (try simp only [nq, ↓reduceIte, Nat.reduceEqDiff]))
  | (refine wpX_goto ?_; (try simp only [nq, ↓reduceIte, Nat.reduceEqDiff]))
  | (refine wpX_condK (by simp only [act_eval, upd_get, Nat.reduceEqDiff, Nat.reduceLT, ↓reduceIte, *]; rfl) ?_ ?_ <;> (intro hc; first | (exfalso; simp -implicitDefEqProofs (disch := omega) only [*, bq, reduceCtorEq] at hc; done) | (simp only [dq, qe3, qe4, qe5, qe6] at hc) | skip))
  | (refine wpX_scope0 ?_)
  | (refine wpX_block ?_)
  | (refine wpX_seq ?_))
  refine hdr.runs.mono ?_
  rintro _ H1 ⟨rv, rfl, hrow⟩
  have hh1 := hh.le hrow.1.toLe
  have hp1' := hpS.le hrow.1.toLe
  obtain ⟨ra, rc, rfl⟩ := rowZ_len hrow
  (try simp -implicitDefEqProofs (disch := first | omega | (simp only [qd] <;> omega)) only [xq, ↓xp, qc, Nat.reduceAdd, List.range, List.range.loop, fine, Nat.reduceEqDiff, ↓reduceIte, yielded, reduceCtorEq, Nat.reduceLT, Nat.reduceMul, Nat.reduceSub, one, Nat.reduceLeDiff, runX_cons, y22_43, aq, ↓ap, qe0, qe1, qe2, *, -hK]); try (refine hK _ _ ?_; clear hK K; (try simp only [nq, ↓reduceIte, Nat.reduceEqDiff])); repeat' (first
  | (refine wpX_stmtL rfl ?_; intro K hK; simp -implicitDefEqProofs (disch := first | omega | (simp only [qd] <;> omega)) only [xq, ↓xp, qc, Nat.reduceAdd, List.range, List.range.loop, fine, Nat.reduceEqDiff, ↓reduceIte, yielded, reduceCtorEq, Nat.reduceLT, Nat.reduceMul, Nat.reduceSub, one, Nat.reduceLeDiff, runX_cons, y22_43, aq, ↓ap, qe0, qe1, qe2, *, -hK]; try (refine hK _ _ ?_; clear hK K))
  | (refine wpX_lastL rfl ?_; intro K hK; simp -implicitDefEqProofs (disch := first | omega | (simp only [qd] <;> omega)) only [xq, ↓xp, qc, Nat.reduceAdd, List.range, List.range.loop, fine, Nat.reduceEqDiff, ↓reduceIte, yielded, reduceCtorEq, Nat.reduceLT, Nat.reduceMul, Nat.reduceSub, one, Nat.reduceLeDiff, runX_cons, y22_43, aq, ↓ap, qe0, qe1, qe2, *, -hK]; try (refine hK _ _ ?_; clear hK K; (try simp only [nq, ↓reduceIte, Nat.reduceEqDiff])))
  | (refine wpX_skip ?_; (try simp only [nq, ↓reduceIte, Nat.reduceEqDiff]))
  | (refine wpX_label ?_; (try simp only [nq, ↓reduceIte, Nat.reduceEqDiff]))
  | (refine wpX_exit ?_; (try simp only [nq, ↓reduceIte, Nat.reduceEqDiff]))
  | (refine wpX_goto ?_; (try simp only [nq, ↓reduceIte, Nat.reduceEqDiff]))
  | (refine wpX_condK (by simp only [act_eval, upd_get, Nat.reduceEqDiff, Nat.reduceLT, ↓reduceIte, *]; rfl) ?_ ?_ <;> (intro hc; first | (exfalso; simp -implicitDefEqProofs (disch := omega) only [*, bq, reduceCtorEq] at hc; done) | (simp only [dq, qe3, qe4, qe5, qe6] at hc) | skip))
  | (refine wpX_scope0 ?_)
  | (refine wpX_block ?_)
  | (refine wpX_seq ?_))
  refine wpX_loop (fun w a' H' => ∃ e i, w = pl.length - i ∧ i ≤ pl.length ∧ (∀ i' r, i' < i → rs[i']? = some r → ∀ j, j < pl.getD i' 0 → r.back - n.due js ((pl.take i').sum + j) ≤ 0) ∧ a' = act 40 e [] ∧ e 0 = .pointer (some ⟨hb, 0, none⟩) ∧ e 1 = .slice pa pl.length pc ∧ e 7 = .int .i64 ((pl.take i).sum : Nat) ∧ e 13 = .slice ra pl.length rc ∧ e 14 = .int .i64 pl.length ∧ e 15 = .int .i64 (i : Nat) ∧ H1.le H') (n := pl.length) ?_ ?_
  · exact ⟨_, 0, rfl, by omega, fun i' r h => by omega, rfl, rfl, rfl, rfl, rfl, rfl, rfl, Hp.le_refl _⟩
  · rintro w a' H2 ⟨e, i, rfl, hi, hdone, rfl, e0, e1, e7, e13, e14, e15, lH2⟩
    by_cases hlt : i < pl.length
    · have hlr : i < rs.length := by omega
      have hri : rs[i]? = some rs[i] := List.getElem?_eq_getElem hlr
      have hrb := hbk _ (List.getElem_mem hlr)
      generalize rs[i] = r at hri hrb
      obtain ⟨g1, g2, g3⟩ := rcells_get rs i r hri
      have hh2 := hh1.le lH2
      have hp2 := hp1'.le lH2
      have hrow2 := hrow.2
      rcases hrow2 with ⟨h9, h8, _⟩ | ⟨b, c, cap, _, vb, hve, hcs, hcap, hcl, hget⟩
      · omega
      · cases hve
        have vb2 := lH2 _ _ vb
        have hex := extract3 (hget _ _ g1) (hget _ _ g2) (hget _ _ g3)
        have hsz : i * 3 + 3 ≤ c.size := by omega
        obtain ⟨b3, o3, cap3, p3, c3, fr3, hve, _, vb3, hx⟩ := hp2.cons (fun h => absurd (congrArg List.length h) (by simp only [List.length_nil, List.length_map]; omega))
        cases hve
        have hxi := hx i (pl[i] : Nat) (by rw [List.getElem?_map, List.getElem?_eq_getElem hlt]; rfl)
        have hg : pl.getD i 0 = pl[i] := by simp [List.getD, List.getElem?_eq_getElem hlt]
        have hsum : (pl.take (i + 1)).sum ≤ pl.sum := by
          have h9 : pl.sum = (pl.take (i + 1)).sum + (pl.drop (i + 1)).sum := by rw [← List.sum_append, List.take_append_drop]
          omega
        have hs2 : (pl.take (i + 1)).sum = (pl.take i).sum + pl[i] := by
          rw [List.take_add_one, List.getElem?_eq_getElem hlt, List.sum_append]
          simp
        rw [← hg] at hxi hs2
        generalize hsi1 : (pl.take (i + 1)).sum = S1 at hsum hs2
        generalize hsi : (pl.take i).sum = S0 at hs2 e7
        generalize hpi : pl.getD i 0 = mi' at hxi hs2
        clear hx hg g1 g2 g3 hget hcs hcl hp2 vb
        replace hs2 : S1 ≤ S0 + mi' ∧ S0 + mi' ≤ S1 := by omega
        have hi3 : 0 + i * 3 = i * 3 := by omega
        repeat' (first
  | (refine wpX_stmtL rfl ?_; intro K hK; simp -implicitDefEqProofs (disch := first | omega | (simp only [qd] <;> omega)) only [xq, ↓xp, qc, Nat.reduceAdd, List.range, List.range.loop, fine, Nat.reduceEqDiff, ↓reduceIte, yielded, reduceCtorEq, Nat.reduceLT, Nat.reduceMul, Nat.reduceSub, one, Nat.reduceLeDiff, runX_cons, y22_43, aq, ↓ap, qe0, qe1, qe2, *, -hK]; try (refine hK _ _ ?_; clear hK K))
  | (refine wpX_lastL rfl ?_; intro K hK; simp -implicitDefEqProofs (disch := first | omega | (simp only [qd] <;> omega)) only [xq, ↓xp, qc, Nat.reduceAdd, List.range, List.range.loop, fine, Nat.reduceEqDiff, ↓reduceIte, yielded, reduceCtorEq, Nat.reduceLT, Nat.reduceMul, Nat.reduceSub, one, Nat.reduceLeDiff, runX_cons, y22_43, aq, ↓ap, qe0, qe1, qe2, *, -hK]; try (refine hK _ _ ?_; clear hK K; (try simp only [nq, ↓reduceIte, Nat.reduceEqDiff])))
  | (refine wpX_skip ?_; (try simp only [nq, ↓reduceIte, Nat.reduceEqDiff]))
  | (refine wpX_label ?_; (try simp only [nq, ↓reduceIte, Nat.reduceEqDiff]))
  | (refine wpX_exit ?_; (try simp only [nq, ↓reduceIte, Nat.reduceEqDiff]))
  | (refine wpX_goto ?_; (try simp only [nq, ↓reduceIte, Nat.reduceEqDiff]))
  | (refine wpX_condK (by simp only [act_eval, upd_get, Nat.reduceEqDiff, Nat.reduceLT, ↓reduceIte, *]; rfl) ?_ ?_ <;> (intro hc; first | (exfalso; simp -implicitDefEqProofs (disch := omega) only [*, bq, reduceCtorEq] at hc; done) | (simp only [dq, qe3, qe4, qe5, qe6] at hc) | skip))
  | (refine wpX_scope0 ?_)
  | (refine wpX_block ?_)
  | (refine wpX_seq ?_))
        (intro cb hcb; generalize hG : Hp.set _ cb _ = H3; have lH3 := le_of_set hG hcb; have vcb := at_of_set hG; clear hG)
        have vb33 := lH3 _ _ vb3
        have hh3 := hh2.le lH3
        clear vb3 vb2 hh2
        (try simp -implicitDefEqProofs (disch := first | omega | (simp only [qd] <;> omega)) only [xq, ↓xp, qc, Nat.reduceAdd, List.range, List.range.loop, fine, Nat.reduceEqDiff, ↓reduceIte, yielded, reduceCtorEq, Nat.reduceLT, Nat.reduceMul, Nat.reduceSub, one, Nat.reduceLeDiff, runX_cons, y22_43, aq, ↓ap, qe0, qe1, qe2, *, -hK]); try (refine hK _ _ ?_; clear hK K; (try simp only [nq, ↓reduceIte, Nat.reduceEqDiff])); repeat' (first
  | (refine wpX_stmtL rfl ?_; intro K hK; simp -implicitDefEqProofs (disch := first | omega | (simp only [qd] <;> omega)) only [xq, ↓xp, qc, Nat.reduceAdd, List.range, List.range.loop, fine, Nat.reduceEqDiff, ↓reduceIte, yielded, reduceCtorEq, Nat.reduceLT, Nat.reduceMul, Nat.reduceSub, one, Nat.reduceLeDiff, runX_cons, y22_43, aq, ↓ap, qe0, qe1, qe2, *, -hK]; try (refine hK _ _ ?_; clear hK K))
  | (refine wpX_lastL rfl ?_; intro K hK; simp -implicitDefEqProofs (disch := first | omega | (simp only [qd] <;> omega)) only [xq, ↓xp, qc, Nat.reduceAdd, List.range, List.range.loop, fine, Nat.reduceEqDiff, ↓reduceIte, yielded, reduceCtorEq, Nat.reduceLT, Nat.reduceMul, Nat.reduceSub, one, Nat.reduceLeDiff, runX_cons, y22_43, aq, ↓ap, qe0, qe1, qe2, *, -hK]; try (refine hK _ _ ?_; clear hK K; (try simp only [nq, ↓reduceIte, Nat.reduceEqDiff])))
  | (refine wpX_skip ?_; (try simp only [nq, ↓reduceIte, Nat.reduceEqDiff]))
  | (refine wpX_label ?_; (try simp only [nq, ↓reduceIte, Nat.reduceEqDiff]))
  | (refine wpX_exit ?_; (try simp only [nq, ↓reduceIte, Nat.reduceEqDiff]))
  | (refine wpX_goto ?_; (try simp only [nq, ↓reduceIte, Nat.reduceEqDiff]))
  | (refine wpX_condK (by simp only [act_eval, upd_get, Nat.reduceEqDiff, Nat.reduceLT, ↓reduceIte, *]; rfl) ?_ ?_ <;> (intro hc; first | (exfalso; simp -implicitDefEqProofs (disch := omega) only [*, bq, reduceCtorEq] at hc; done) | (simp only [dq, qe3, qe4, qe5, qe6] at hc) | skip))
  | (refine wpX_scope0 ?_)
  | (refine wpX_block ?_)
  | (refine wpX_seq ?_))
        refine wpX_loop (fun w a' H' => ∃ e j, w = mi' - j ∧ j ≤ mi' ∧ (∀ j', j' < j → r.back - n.due js (S0 + j') ≤ 0) ∧ a' = act 40 e [] ∧ e 0 = .pointer (some ⟨hb, 0, none⟩) ∧ e 1 = .slice (some ⟨b3, o3, none⟩) pl.length pc ∧ e 7 = .int .i64 ((S0 + j : Nat) : Int) ∧ e 9 = .pointer (some ⟨cb, 0, none⟩) ∧ e 13 = .slice (some ⟨b, 0, none⟩) pl.length rc ∧ e 14 = .int .i64 pl.length ∧ e 15 = .int .i64 (i : Nat) ∧ e 23 = .int .i64 (mi' : Nat) ∧ e 24 = .int .i64 (j : Nat) ∧ H3.le H') (n := mi') ?_ ?_
        · exact ⟨_, 0, rfl, by omega, fun j' h => by omega, rfl, e0, e1, e7, rfl, e13, e14, e15, rfl, rfl, Hp.le_refl _⟩
        · clear e0 e1 e7 e13 e14 e15
          rename_i eold
          clear eold
          rintro w a' H4 ⟨e, j, rfl, hj, hjd, rfl, e0, e1, e7, e9, e13, e14, e15, e23, e24, lH4⟩
          have vcb4 := lH4 _ _ vcb
          have hh4 := hh3.le lH4
          by_cases hltj : j < mi'
          · repeat' (first
  | (refine wpX_stmtL rfl ?_; intro K hK; simp -implicitDefEqProofs (disch := first | omega | (simp only [qd] <;> omega)) only [xq, ↓xp, qc, Nat.reduceAdd, List.range, List.range.loop, fine, Nat.reduceEqDiff, ↓reduceIte, yielded, reduceCtorEq, Nat.reduceLT, Nat.reduceMul, Nat.reduceSub, one, Nat.reduceLeDiff, runX_cons, y22_43, aq, ↓ap, qe0, qe1, qe2, *, -hK]; try (refine hK _ _ ?_; clear hK K))
  | (refine wpX_lastL rfl ?_; intro K hK; simp -implicitDefEqProofs (disch := first | omega | (simp only [qd] <;> omega)) only [xq, ↓xp, qc, Nat.reduceAdd, List.range, List.range.loop, fine, Nat.reduceEqDiff, ↓reduceIte, yielded, reduceCtorEq, Nat.reduceLT, Nat.reduceMul, Nat.reduceSub, one, Nat.reduceLeDiff, runX_cons, y22_43, aq, ↓ap, qe0, qe1, qe2, *, -hK]; try (refine hK _ _ ?_; clear hK K; (try simp only [nq, ↓reduceIte, Nat.reduceEqDiff])))
  | (refine wpX_skip ?_; (try simp only [nq, ↓reduceIte, Nat.reduceEqDiff]))
  | (refine wpX_label ?_; (try simp only [nq, ↓reduceIte, Nat.reduceEqDiff]))
  | (refine wpX_exit ?_; (try simp only [nq, ↓reduceIte, Nat.reduceEqDiff]))
  | (refine wpX_goto ?_; (try simp only [nq, ↓reduceIte, Nat.reduceEqDiff]))
  | (refine wpX_condK (by simp only [act_eval, upd_get, Nat.reduceEqDiff, Nat.reduceLT, ↓reduceIte, *]; rfl) ?_ ?_ <;> (intro hc; first | (exfalso; simp -implicitDefEqProofs (disch := omega) only [*, bq, reduceCtorEq] at hc; done) | (simp only [dq, qe3, qe4, qe5, qe6] at hc) | skip))
  | (refine wpX_scope0 ?_)
  | (refine wpX_block ?_)
  | (refine wpX_seq ?_))
            refine (outcome_spec main H4 hb n v jv js hh4 (S0 + j) (by omega) r hrb).runs.mono ?_
            rintro _ H5 ⟨rfl, lH5⟩
            by_cases hlate : 0 < r.back - n.due js (S0 + j)
            · rw [show outV (r.back - n.due js (S0 + j)) = .iface 112 (.int .i64 (r.back - n.due js (S0 + j))) from if_pos hlate]
              (try simp -implicitDefEqProofs (disch := first | omega | (simp only [qd] <;> omega)) only [xq, ↓xp, qc, Nat.reduceAdd, List.range, List.range.loop, fine, Nat.reduceEqDiff, ↓reduceIte, yielded, reduceCtorEq, Nat.reduceLT, Nat.reduceMul, Nat.reduceSub, one, Nat.reduceLeDiff, runX_cons, y22_43, aq, ↓ap, qe0, qe1, qe2, *, -hK]); try (refine hK _ _ ?_; clear hK K; (try simp only [nq, ↓reduceIte, Nat.reduceEqDiff])); repeat' (first
  | (refine wpX_stmtL rfl ?_; intro K hK; simp -implicitDefEqProofs (disch := first | omega | (simp only [qd] <;> omega)) only [xq, ↓xp, qc, Nat.reduceAdd, List.range, List.range.loop, fine, Nat.reduceEqDiff, ↓reduceIte, yielded, reduceCtorEq, Nat.reduceLT, Nat.reduceMul, Nat.reduceSub, one, Nat.reduceLeDiff, runX_cons, y22_43, aq, ↓ap, qe0, qe1, qe2, *, -hK]; try (refine hK _ _ ?_; clear hK K))
  | (refine wpX_lastL rfl ?_; intro K hK; simp -implicitDefEqProofs (disch := first | omega | (simp only [qd] <;> omega)) only [xq, ↓xp, qc, Nat.reduceAdd, List.range, List.range.loop, fine, Nat.reduceEqDiff, ↓reduceIte, yielded, reduceCtorEq, Nat.reduceLT, Nat.reduceMul, Nat.reduceSub, one, Nat.reduceLeDiff, runX_cons, y22_43, aq, ↓ap, qe0, qe1, qe2, *, -hK]; try (refine hK _ _ ?_; clear hK K; (try simp only [nq, ↓reduceIte, Nat.reduceEqDiff])))
  | (refine wpX_skip ?_; (try simp only [nq, ↓reduceIte, Nat.reduceEqDiff]))
  | (refine wpX_label ?_; (try simp only [nq, ↓reduceIte, Nat.reduceEqDiff]))
  | (refine wpX_exit ?_; (try simp only [nq, ↓reduceIte, Nat.reduceEqDiff]))
  | (refine wpX_goto ?_; (try simp only [nq, ↓reduceIte, Nat.reduceEqDiff]))
  | (refine wpX_condK (by simp only [act_eval, upd_get, Nat.reduceEqDiff, Nat.reduceLT, ↓reduceIte, *]; rfl) ?_ ?_ <;> (intro hc; first | (exfalso; simp -implicitDefEqProofs (disch := omega) only [*, bq, reduceCtorEq] at hc; done) | (simp only [dq, qe3, qe4, qe5, qe6] at hc) | skip))
  | (refine wpX_scope0 ?_)
  | (refine wpX_block ?_)
  | (refine wpX_seq ?_))
              (refine wpX_ret ?_; (try simp only [nq, ↓reduceIte, Nat.reduceEqDiff]); rw [bodyX_ret, results_one Tryd.results22 (by decide)]; simp only [upd_get, Nat.reduceEqDiff, ↓reduceIte])
              refine ⟨false, rfl, ⟨(fun h => by cases h), fun h => absurd (h i r hri j (by rw [hpi]; exact hltj)) (by rw [hsi]; omega)⟩, ?_⟩
              exact Hp.le_trans hrow.1.toLe (Hp.le_trans lH2 (Hp.le_trans lH3 (Hp.le_trans lH4 lH5)))
            · rw [show outV (r.back - n.due js (S0 + j)) = .iface 114 (.agg #[]) from if_neg hlate]
              (try simp -implicitDefEqProofs (disch := first | omega | (simp only [qd] <;> omega)) only [xq, ↓xp, qc, Nat.reduceAdd, List.range, List.range.loop, fine, Nat.reduceEqDiff, ↓reduceIte, yielded, reduceCtorEq, Nat.reduceLT, Nat.reduceMul, Nat.reduceSub, one, Nat.reduceLeDiff, runX_cons, y22_43, aq, ↓ap, qe0, qe1, qe2, *, -hK]); try (refine hK _ _ ?_; clear hK K; (try simp only [nq, ↓reduceIte, Nat.reduceEqDiff])); repeat' (first
  | (refine wpX_stmtL rfl ?_; intro K hK; simp -implicitDefEqProofs (disch := first | omega | (simp only [qd] <;> omega)) only [xq, ↓xp, qc, Nat.reduceAdd, List.range, List.range.loop, fine, Nat.reduceEqDiff, ↓reduceIte, yielded, reduceCtorEq, Nat.reduceLT, Nat.reduceMul, Nat.reduceSub, one, Nat.reduceLeDiff, runX_cons, y22_43, aq, ↓ap, qe0, qe1, qe2, *, -hK]; try (refine hK _ _ ?_; clear hK K))
  | (refine wpX_lastL rfl ?_; intro K hK; simp -implicitDefEqProofs (disch := first | omega | (simp only [qd] <;> omega)) only [xq, ↓xp, qc, Nat.reduceAdd, List.range, List.range.loop, fine, Nat.reduceEqDiff, ↓reduceIte, yielded, reduceCtorEq, Nat.reduceLT, Nat.reduceMul, Nat.reduceSub, one, Nat.reduceLeDiff, runX_cons, y22_43, aq, ↓ap, qe0, qe1, qe2, *, -hK]; try (refine hK _ _ ?_; clear hK K; (try simp only [nq, ↓reduceIte, Nat.reduceEqDiff])))
  | (refine wpX_skip ?_; (try simp only [nq, ↓reduceIte, Nat.reduceEqDiff]))
  | (refine wpX_label ?_; (try simp only [nq, ↓reduceIte, Nat.reduceEqDiff]))
  | (refine wpX_exit ?_; (try simp only [nq, ↓reduceIte, Nat.reduceEqDiff]))
  | (refine wpX_goto ?_; (try simp only [nq, ↓reduceIte, Nat.reduceEqDiff]))
  | (refine wpX_condK (by simp only [act_eval, upd_get, Nat.reduceEqDiff, Nat.reduceLT, ↓reduceIte, *]; rfl) ?_ ?_ <;> (intro hc; first | (exfalso; simp -implicitDefEqProofs (disch := omega) only [*, bq, reduceCtorEq] at hc; done) | (simp only [dq, qe3, qe4, qe5, qe6] at hc) | skip))
  | (refine wpX_scope0 ?_)
  | (refine wpX_block ?_)
  | (refine wpX_seq ?_))
              refine ⟨_, by omega, _, j + 1, rfl, hltj, ?_, rfl, e0, e1, ?_, e9, e13, e14, e15, e23, rfl, Hp.le_trans lH4 lH5⟩
              · intro j' hj'
                by_cases he : j' = j
                · subst he; omega
                · exact hjd j' (by omega)
              · show Value.int .i64 _ = Value.int .i64 _
                congr 1
          · obtain rfl : j = mi' := by omega
            repeat' (first
  | (refine wpX_stmtL rfl ?_; intro K hK; simp -implicitDefEqProofs (disch := first | omega | (simp only [qd] <;> omega)) only [xq, ↓xp, qc, Nat.reduceAdd, List.range, List.range.loop, fine, Nat.reduceEqDiff, ↓reduceIte, yielded, reduceCtorEq, Nat.reduceLT, Nat.reduceMul, Nat.reduceSub, one, Nat.reduceLeDiff, runX_cons, y22_43, aq, ↓ap, qe0, qe1, qe2, *, -hK]; try (refine hK _ _ ?_; clear hK K))
  | (refine wpX_lastL rfl ?_; intro K hK; simp -implicitDefEqProofs (disch := first | omega | (simp only [qd] <;> omega)) only [xq, ↓xp, qc, Nat.reduceAdd, List.range, List.range.loop, fine, Nat.reduceEqDiff, ↓reduceIte, yielded, reduceCtorEq, Nat.reduceLT, Nat.reduceMul, Nat.reduceSub, one, Nat.reduceLeDiff, runX_cons, y22_43, aq, ↓ap, qe0, qe1, qe2, *, -hK]; try (refine hK _ _ ?_; clear hK K; (try simp only [nq, ↓reduceIte, Nat.reduceEqDiff])))
  | (refine wpX_skip ?_; (try simp only [nq, ↓reduceIte, Nat.reduceEqDiff]))
  | (refine wpX_label ?_; (try simp only [nq, ↓reduceIte, Nat.reduceEqDiff]))
  | (refine wpX_exit ?_; (try simp only [nq, ↓reduceIte, Nat.reduceEqDiff]))
  | (refine wpX_goto ?_; (try simp only [nq, ↓reduceIte, Nat.reduceEqDiff]))
  | (refine wpX_condK (by simp only [act_eval, upd_get, Nat.reduceEqDiff, Nat.reduceLT, ↓reduceIte, *]; rfl) ?_ ?_ <;> (intro hc; first | (exfalso; simp -implicitDefEqProofs (disch := omega) only [*, bq, reduceCtorEq] at hc; done) | (simp only [dq, qe3, qe4, qe5, qe6] at hc) | skip))
  | (refine wpX_scope0 ?_)
  | (refine wpX_block ?_)
  | (refine wpX_seq ?_))
            refine ⟨_, by omega, _, i + 1, rfl, hlt, ?_, rfl, e0, e1, ?_, e13, e14, rfl, Hp.le_trans lH2 (Hp.le_trans lH3 lH4)⟩
            · intro i' r' hi' hr' j' hj'
              by_cases he : i' = i
              · subst he
                rw [hri] at hr'
                cases hr'
                rw [hsi]
                exact hjd j' (by rw [← hpi]; exact hj')
              · exact hdone i' r' (by omega) hr' j' hj'
            · rw [hsi1]
              show _ = Value.int .i64 _
              rw [show S1 = S0 + j by omega]
              exact e7
    · obtain rfl : i = pl.length := by omega
      repeat' (first
  | (refine wpX_stmtL rfl ?_; intro K hK; simp -implicitDefEqProofs (disch := first | omega | (simp only [qd] <;> omega)) only [xq, ↓xp, qc, Nat.reduceAdd, List.range, List.range.loop, fine, Nat.reduceEqDiff, ↓reduceIte, yielded, reduceCtorEq, Nat.reduceLT, Nat.reduceMul, Nat.reduceSub, one, Nat.reduceLeDiff, runX_cons, y22_43, aq, ↓ap, qe0, qe1, qe2, *, -hK]; try (refine hK _ _ ?_; clear hK K))
  | (refine wpX_lastL rfl ?_; intro K hK; simp -implicitDefEqProofs (disch := first | omega | (simp only [qd] <;> omega)) only [xq, ↓xp, qc, Nat.reduceAdd, List.range, List.range.loop, fine, Nat.reduceEqDiff, ↓reduceIte, yielded, reduceCtorEq, Nat.reduceLT, Nat.reduceMul, Nat.reduceSub, one, Nat.reduceLeDiff, runX_cons, y22_43, aq, ↓ap, qe0, qe1, qe2, *, -hK]; try (refine hK _ _ ?_; clear hK K; (try simp only [nq, ↓reduceIte, Nat.reduceEqDiff])))
  | (refine wpX_skip ?_; (try simp only [nq, ↓reduceIte, Nat.reduceEqDiff]))
  | (refine wpX_label ?_; (try simp only [nq, ↓reduceIte, Nat.reduceEqDiff]))
  | (refine wpX_exit ?_; (try simp only [nq, ↓reduceIte, Nat.reduceEqDiff]))
  | (refine wpX_goto ?_; (try simp only [nq, ↓reduceIte, Nat.reduceEqDiff]))
  | (refine wpX_condK (by simp only [act_eval, upd_get, Nat.reduceEqDiff, Nat.reduceLT, ↓reduceIte, *]; rfl) ?_ ?_ <;> (intro hc; first | (exfalso; simp -implicitDefEqProofs (disch := omega) only [*, bq, reduceCtorEq] at hc; done) | (simp only [dq, qe3, qe4, qe5, qe6] at hc) | skip))
  | (refine wpX_scope0 ?_)
  | (refine wpX_block ?_)
  | (refine wpX_seq ?_))
      (refine wpX_ret ?_; (try simp only [nq, ↓reduceIte, Nat.reduceEqDiff]); rw [bodyX_ret, results_one Tryd.results22 (by decide)]; simp only [upd_get, Nat.reduceEqDiff, ↓reduceIte])
      exact ⟨true, rfl, ⟨fun _ i r hr j hj => hdone i r (by have := (List.getElem?_eq_some_iff.1 hr).1; omega) hr j hj, fun _ => rfl⟩, Hp.le_trans hrow.1.toLe lH2⟩
end Go.Proofs.YtiempdpjcddgfaaDoor
end
section
/- Loops over functions: entered, each round, left; deferred calls. -/
set_option linter.unusedSimpArgs false
set_option linter.unusedVariables false
set_option maxRecDepth 100000
namespace Go.X
open Go
open Go.Conc (G base)
section
variable {P : Program} {main : Bool} {Q : Exit → Act → Hp → Prop} {a : Act} {H : Hp}

/-! ### the function that a loop's body is -/
def yieldK (q : Option (Bool × Obj)) (l : Nat) (args : Array Value) (H : Hp) (K : Next → Hp → Prop) : Prop := match q with
  | some (_, .loop r) => args.size = r.params.size ∧ K (.round l r.fn ((r.params.zip args).foldl (fun tmps (x : Tmp × Value) => tmps.setIfInBounds x.1 x.2) r.tmps) r.assign r.body) H
  | _ => False
theorem yieldK_some {p : Bool} {r : Loop} {l : Nat} {args : Array Value} {K : Next → Hp → Prop} : yieldK (some (p, .loop r)) l args H K = (args.size = r.params.size ∧ K (.round l r.fn ((r.params.zip args).foldl (fun tmps (x : Tmp × Value) => tmps.setIfInBounds x.1 x.2) r.tmps) r.assign r.body) H) := rfl
theorem wpS_yield {l : Nat} {args : Array Value} {K : Next → Hp → Prop} {E : Value → Hp → Prop} (h : yieldK (H l) l args H K) : wpS P (Instr.yield l args) H K E := by
  unfold yieldK at h
  split at h
  · rename_i p r hl
    unfold Instr.yield Instr.getLoop
    rw [wpS_bind', wpS_bind']
    refine ⟨p, _, hl, rfl, rfl, ?_⟩
    rw [wpS_purec]
    simp only [wpS_pure, ne_eq, h.1, not_true, if_false]
    exact h.2
  · exact h.elim
theorem callK_yield {l : Nat} {args : Array Value} {K : Next → Hp → Prop} {E : Value → Hp → Prop} (h : yieldK (H l) l args H K) : callK P (.func (.yield l) #[] #[]) args H K E := by
  unfold callK
  rw [wpS_bind']
  simp only [Deferred.ofValue, wpS_pure, invoke, Array.empty_append]
  exact wpS_yield h

/-! ### a round -/
/-- What is asked of a round's body. -/
def rnd (l : Nat) (R : Ending → Hp → Prop) : Exit → Act → Hp → Prop
  | .normal, a, H => a.defers = [] ∧ ∃ r, H l = some (true, .loop r) ∧ R (.returned (.bool true)) (H.set l (.loop { r with state := .ready, pending := none }))
  | .exit id, a, H => a.defers = [] ∧ ∃ r, H l = some (true, .loop r) ∧ R (.returned (.bool false)) (H.set l (.loop { r with state := .done, pending := some (.exit id) }))
  | .ret, a, H => a.defers = [] ∧ ∃ r, H l = some (true, .loop r) ∧ R (.returned (.bool false)) (H.set l (.loop { r with state := .done, pending := some .ret }))
  | _, _, _ => False

theorem wpS_endRound {l : Nat} {r : Loop} (h : H l = some (true, .loop r)) (jump : Option Code) (K : Value → Hp → Prop) (E : Value → Hp → Prop) (hk : K (.bool jump.isNone) (H.set l (.loop { r with state := if jump.isNone then .ready else .done, pending := jump }))) :
    wpS P (Instr.endRound l jump) H K E := by
  unfold Instr.endRound Instr.getLoop
  rw [wpS_bind', wpS_bind']
  refine ⟨true, _, h, rfl, rfl, ?_⟩
  rw [wpS_purec]
  simp only [wpS_pure, wpS_bind']
  exact ⟨_, h, rfl, rfl, hk⟩
theorem wpS_beginRound {l : Nat} {r : Loop} (h : H l = some (true, .loop r)) (hr : r.state = .ready) (K : Unit → Hp → Prop) (E : Value → Hp → Prop) (hk : K () (H.set l (.loop { r with state := .busy }))) :
    wpS P (Instr.beginRound l) H K E := by
  unfold Instr.beginRound Instr.getLoop
  rw [wpS_bind', wpS_bind']
  refine ⟨true, _, h, rfl, rfl, ?_⟩
  rw [wpS_purec]
  simp only [wpS_pure, wpS_bind']
  refine ⟨_, h, rfl, rfl, ?_⟩
  rw [hr]
  exact hk

theorem leave_round {b c : Frame} {cs : List Frame} {Stop : Goroutine → Hp → Prop} {l : Nat} {r : Loop} {jump : Option Code} {a : Act} {todo : List Item} (hb : b.kind = .normal) (hl : b.roundOf = some l) (h : H l = some (true, .loop r))
    (hs : ∀ w, stepG P main (G (fat b a todo) (c :: cs)) w = (let (x, es) := (Instr.endRound l jump).runT P w #[]
        GStep.after (seen P b.fn es) <| match x with
        | .ok v w => doReturn P main (fat b a todo) (c :: cs) none v w
        | .halt _ w => .ended (.stuck "range over a function: no such loop" ((fat b a todo).pos P)) w))
    (hk : WPG P main Stop (G (c.finish (.bool jump.isNone)) cs) (H.set l (.loop { r with state := if jump.isNone then .ready else .done, pending := jump }))) : WPG P main Stop (G (fat b a todo) (c :: cs)) H := by
  refine WPG.tree (s := Instr.endRound l jump) (K := fun v H' => v = .bool jump.isNone ∧ H' = H.set l (.loop { r with state := if jump.isNone then .ready else .done, pending := jump })) (E := fun _ _ => False) rfl (wpS_endRound h jump _ _ ⟨rfl, rfl⟩)
    (fun g' H' => g' = G (c.finish (.bool jump.isNone)) cs ∧ H' = H.set l (.loop { r with state := if jump.isNone then .ready else .done, pending := jump })) (fun w w' H' es v hr hm hk' => ?_) (fun _ _ _ _ _ _ _ he => he.elim) ?_
  · obtain ⟨rfl, rfl⟩ := hk'
    refine ⟨_, seen P b.fn es, ?_, fun e => mem_seen, rfl, rfl⟩
    rw [hs, hr]
    simp [doReturn, fat, hb, GStep.after, G]
  · rintro g' H' ⟨rfl, rfl⟩
    exact hk

/-- A ROUND of a loop over a function. -/
theorem round_runs {l : Nat} {fn : FuncId} {tmps : Array Value} {asg body : Code} {R : Ending → Hp → Prop}
    (h : wpX P main (some l) asg (thn (fun a H1 => ∃ r, H1 l = some (true, .loop r) ∧ r.state = .ready ∧ wpX P main (some l) body (rnd l R) a (H1.set l (.loop { r with state := .busy }))) fun _ _ _ => False) { tmps := tmps, defers := [] } H) :
    Runs P main (Frame.round l fn tmps asg body .normal) H R := by
  intro c cs Stop hv hp
  have he : Frame.round l fn tmps asg body .normal = fat { base fn with roundOf := some l } { tmps := tmps, defers := [] } [.code asg, .beginRound, .code body] := by
    simp [Frame.round, fat, base]
  rw [he]
  refine h { base fn with roundOf := some l } [.beginRound, .code body] (c :: cs) Stop (by simp [base]) rfl fun e a1 H1 q => ?_
  cases e with
  | normal =>
    obtain ⟨r, hl, hr, q⟩ := q
    refine WPG.tree (s := (do Instr.beginRound l; pure .skip : Sem Next)) (K := fun v H' => v = .skip ∧ H' = H1.set l (.loop { r with state := .busy })) (E := fun _ _ => False) rfl (by rw [wpS_bind']; exact wpS_beginRound hl hr _ _ ⟨rfl, rfl⟩)
      (fun g' H' => g' = G (fat { base fn with roundOf := some l } a1 [.code body]) (c :: cs) ∧ H' = H1.set l (.loop { r with state := .busy })) (fun w w' H' es v hr' hm hk' => ?_) (fun _ _ _ _ _ _ _ he => he.elim) ?_
    · obtain ⟨rfl, rfl⟩ := hk'
      refine ⟨_, seen P fn es, ?_, fun e => mem_seen, rfl, rfl⟩
      simp [stepG, stepG.exec, stepG.apply, fat, G, base, hr', GStep.after, Frame.finish, -Sem.runT_eq, -bind_pure_comp]
    · rintro g' H' ⟨rfl, rfl⟩
      refine q { base fn with roundOf := some l } [] (c :: cs) Stop (by simp [base]) rfl fun e a2 H2 q2 => ?_
      cases e with
      | normal =>
        obtain ⟨_, r2, hl2, q2⟩ := q2
        refine leave_round (jump := none) rfl rfl hl2 (fun w => ?_) (hv _ _ q2)
        simp [stepG, stepG.exec, fat, G, base]
        rfl
      | exit id =>
        obtain ⟨_, r2, hl2, q2⟩ := q2
        intro k' hk'
        refine leave_round (jump := some (.exit id)) rfl rfl hl2 (fun w => ?_) (hv _ _ q2)
        simp [exitTo] at hk'
        simp [stepG, stepG.exec, fat, G, base, hk']
        rfl
      | ret =>
        obtain ⟨_, r2, hl2, q2⟩ := q2
        intro k'
        refine leave_round (jump := some .ret) rfl rfl hl2 (fun w => ?_) (hv _ _ q2)
        simp [stepG, stepG.exec, fat, G, base]
        rfl
      | goto l => exact q2.elim
      | panic ch => exact q2.elim
      | outgrown => exact q2.elim
  | exit id => exact q.elim
  | goto l => exact q.elim
  | ret => exact q.elim
  | panic ch => exact q.elim
  | outgrown => exact q.elim

/-! ### the loop -/
/-- The mark among the deferred calls. -/
def coll (r : Nat) : Deferred := { target := .collected r, args := #[] }
/-- How a loop goes on once its function has returned. -/
def behind (l r : Nat) (a : Act) (Q : Exit → Act → Hp → Prop) : Ending → Hp → Prop
  | .returned _, H => ∃ q, H l = some (true, .loop q) ∧ q.state ≠ .busy ∧ (match q.pending with
    | none => Q .normal { a with defers := coll r :: a.defers } (H.set l (.loop { q with state := .exhausted }))
    | some (.exit id) => Q (.exit id) { a with defers := coll r :: a.defers } (H.set l (.loop { q with state := .exhausted }))
    | some .ret => Q .ret { a with defers := coll r :: a.defers } (H.set l (.loop { q with state := .exhausted }))
    | _ => False)
  | .panicked ch, H => Q (.panic ch) { a with defers := coll r :: a.defers } H
  | .outgrown, _ => False

theorem wpS_endLoop {l : Nat} {r : Loop} (h : H l = some (true, .loop r)) (hr : r.state ≠ .busy) (K : Option Code → Hp → Prop) (E : Value → Hp → Prop) (hk : K r.pending (H.set l (.loop { r with state := .exhausted }))) :
    wpS P (Instr.endLoop l) H K E := by
  unfold Instr.endLoop Instr.getLoop
  rw [wpS_bind', wpS_bind']
  refine ⟨true, _, h, rfl, rfl, ?_⟩
  rw [wpS_purec]
  have hb : (r.state == .busy) = false := by cases hs : r.state <;> first | rfl | exact absurd hs hr
  simp only [wpS_pure, hb, Bool.false_eq_true, if_false, wpS_bind']
  exact ⟨_, h, rfl, rfl, hk⟩

theorem wpX_rangeFunc {f : Operand} {params : Array Tmp} {asg body : Code} {g : FuncId} {fi cap : Array Value} (hf : a.eval f = .func (.func g) fi cap)
    (hcall : ∀ (args : Array Value) (H : Hp) (K : Next → Hp → Prop) (E : Value → Hp → Prop), wpS P (callFunc g args) H K E = K (.enter g args) H)
    (h : ∀ fn r l, H r = none → (H.set r (.deferred (some []))) l = none → Runs P main (Frame.enter P g (fi ++ #[.func (.yield l) #[] #[]] ++ cap) .normal)
      ((H.set r (.deferred (some []))).set l (.loop { state := .ready, pending := none, fn := fn, tmps := a.tmps, params := params, assign := asg, body := body, defers := r })) (behind l r a Q)) :
    wpX P main none (.rangeFunc f params asg body) Q a H := by
  intro b k cs Stop hk hl hc
  refine .step (fun g' H' => WPG P main Stop g' H') rfl (fun w hw => ?_) fun _ _ h => h
  -- the loop is made
  have h1 : wpS P (Instr.enterLoop b.fn a.tmps params asg body none) H (fun x H' => ∃ r l, x = (l, [coll r]) ∧ H r = none ∧ (H.set r (.deferred (some []))) l = none ∧
      H' = (H.set r (.deferred (some []))).set l (.loop { state := .ready, pending := none, fn := b.fn, tmps := a.tmps, params := params, assign := asg, body := body, defers := r })) (fun _ _ => False) := by
    unfold Instr.enterLoop
    simp only [wpS_bind', newObj, wpS, wpS_pure]
    intro r hr l hl
    exact ⟨r, l, rfl, hr, hl, rfl⟩
  obtain ⟨es, w', H', hm, x, hx, hd⟩ := wpS_sound _ w hw h1
  rcases hd with ⟨x, rfl, r, l, rfl, hr, hlr, rfl⟩ | ⟨v, _, hv⟩
  · have hx0 : (Instr.enterLoop b.fn a.tmps params asg body none).runT P w #[] = (.ok (l, [coll r]) w', es) := by rw [hx #[]]; simp
    -- the call
    have h2 : wpS P (do let d ← resolve a.eval { callee := .value f, args := #[.const (.func (.yield l) #[] #[])], argTypes := #[] } 0; invoke d.target d.args) ((H.set r (.deferred (some []))).set l (.loop { state := .ready, pending := none, fn := b.fn, tmps := a.tmps, params := params, assign := asg, body := body, defers := r }))
        (fun x H' => x = .enter g (fi ++ #[.func (.yield l) #[] #[]] ++ cap) ∧ H' = (H.set r (.deferred (some []))).set l (.loop { state := .ready, pending := none, fn := b.fn, tmps := a.tmps, params := params, assign := asg, body := body, defers := r })) (fun _ _ => False) := by
      rw [wpS_bind']
      simp only [resolve, hf, Deferred.ofValue, wpS_pure, invoke, List.map_toArray, List.map_cons, List.map_nil, eval_const]
      rw [hcall]
      exact ⟨rfl, rfl⟩
    obtain ⟨es2, w2, H2, hm2, x2, hx2, hd2⟩ := wpS_sound _ w' hm.sat h2
    rcases hd2 with ⟨x2, rfl, rfl, rfl⟩ | ⟨v, _, hv⟩
    · have hx20 : (do let d ← resolve a.eval { callee := .value f, args := #[.const (.func (.yield l) #[] #[])], argTypes := #[] } 0; invoke d.target d.args : Sem Next).runT P w' #[] = (.ok (.enter g (fi ++ #[.func (.yield l) #[] #[]] ++ cap)) w2, es2) := by rw [hx2 #[]]; simp
      refine ⟨G (Frame.enter P g (fi ++ #[.func (.yield l) #[] #[]] ++ cap) .normal) (fat b { a with defers := coll r :: a.defers } (.inRangeFunc l :: k) :: cs), w2, seen P b.fn es ++ (if b.kind == .early then #[] else seen P b.fn es2), ((H.set r (.deferred (some []))).set l (.loop { state := .ready, pending := none, fn := b.fn, tmps := a.tmps, params := params, assign := asg, body := body, defers := r })), ?_, (hm.seen b.fn).trans ?_, ?_⟩
      · have hk' : (b.kind == CallKind.early) = false := by simpa using hk
        have hev : ∀ fr : Frame, fr.tmps = a.tmps → fr.eval = a.eval := fun fr h9 => by
          funext x
          cases x <;> simp [Frame.eval, Act.eval, h9]
        simp [stepG, stepG.exec, stepG.apply, fat, G, hl, hx0, hev, hx20, hk', GStep.after, -Sem.runT_eq, -bind_pure_comp]
      · have hk' : (b.kind == CallKind.early) = false := by simpa using hk
        rw [hk']
        exact hm2.seen b.fn
      · refine h b.fn r l hr hlr _ cs Stop (fun v H3 hq => ?_) (fun ch H3 hq => ?_)
        · obtain ⟨q, hq1, hq2, hq3⟩ := hq
          have hfin : (fat b { a with defers := coll r :: a.defers } (.inRangeFunc l :: k)).finish v = fat b { a with defers := coll r :: a.defers } (.endRangeFunc l :: k) := rfl
          rw [hfin]
          refine WPG.tree (s := Instr.endLoop l) (K := fun x H' => x = q.pending ∧ H' = H3.set l (.loop { q with state := .exhausted })) (E := fun _ _ => False) rfl (wpS_endLoop hq1 hq2 _ _ ⟨rfl, rfl⟩)
            (fun g' H' => g' = G (fat b { a with defers := coll r :: a.defers } ((q.pending.map Item.code).toList ++ k)) cs ∧ H' = H3.set l (.loop { q with state := .exhausted })) (fun w w' H' es v hr' hm hk' => ?_) (fun _ _ _ _ _ _ _ he => he.elim) ?_
          · obtain ⟨rfl, rfl⟩ := hk'
            refine ⟨_, seen P b.fn es, ?_, fun e => mem_seen, rfl, rfl⟩
            simp [stepG, stepG.exec, fat, G, hr', GStep.after, -Sem.runT_eq]
          · rintro g' H' ⟨rfl, rfl⟩
            cases hp : q.pending with
            | none =>
              rw [hp] at hq3
              exact hc _ _ _ hq3
            | some j =>
              rw [hp] at hq3
              cases j with
              | exit id => exact hc _ _ _ hq3 k rfl
              | ret => exact hc _ _ _ hq3 k
              | _ => exact hq3.elim
        · exact hc (.panic ch) _ _ hq _
    · exact hv.elim
  · exact hv.elim

/-! ### deferred calls -/
theorem wpS_take {r : Nat} {ds : List Deferred} (h : H r = some (true, .deferred (some ds))) (K : List Deferred → Hp → Prop) (E : Value → Hp → Prop) (hk : K ds (H.set r (.deferred none))) : wpS P (Instr.takeDeferred r) H K E := by
  unfold Instr.takeDeferred
  rw [wpS_bind']
  refine ⟨true, _, h, rfl, rfl, ?_⟩
  rw [wpS_purec]
  simp only [wpS_bind', wpS_pure]
  exact ⟨_, h, rfl, rfl, hk⟩
theorem DefX_coll {r : Nat} {R : FrameMode → Hp → Prop} (h : H r = some (true, .deferred (some []))) (hk : R .returning (H.set r (.deferred none))) : DefX P main .returning (coll r) H R := by
  intro c cs Stop hm hR
  refine WPG.tree (s := Instr.takeDeferred r) (K := fun x H' => x = [] ∧ H' = H.set r (.deferred none)) (E := fun _ _ => False) rfl (wpS_take h _ _ ⟨rfl, rfl⟩)
    (fun g' H' => g' = G c cs ∧ H' = H.set r (.deferred none)) (fun w w' H' es v hr' hm' hk' => ?_) (fun _ _ _ _ _ _ _ he => he.elim) ?_
  · obtain ⟨rfl, rfl⟩ := hk'
    refine ⟨_, seen P c.fn es, ?_, fun e => mem_seen, rfl, rfl⟩
    simp [stepG, unwind, G, hm, coll, hr', GStep.after, -Sem.runT_eq]
    cases c; simp_all
  · rintro g' H' ⟨rfl, rfl⟩
    have := hR _ _ hk
    rwa [← hm] at this
theorem bodyX_coll {fn : Func} {R : Ending → Hp → Prop} {n : Nat} {e : Nat → Value} {r : Nat} (h : H r = some (true, .deferred (some [])))
    (hk : wpS P (results fn (act n e [coll r]).tmps) (H.set r (.deferred none)) (fun v H' => R (.returned v) H') fun _ _ => False) : bodyX P main fn R .ret (act n e [coll r]) H :=
  DefX_coll h hk
theorem bodyX_collN {fn : Func} {R : Ending → Hp → Prop} {n : Nat} {e : Nat → Value} {r : Nat} (h : H r = some (true, .deferred (some [])))
    (hk : wpS P (results fn (act n e [coll r]).tmps) (H.set r (.deferred none)) (fun v H' => R (.returned v) H') fun _ _ => False) : bodyX P main fn R .normal (act n e [coll r]) H :=
  DefX_coll h hk

/-- What a deferred function's body must come to. -/
def bodyD (P : Program) (fn : Func) (R : Hp → Prop) : Exit → Act → Hp → Prop
  | .normal, a, H | .ret, a, H => a.defers = [] ∧ wpS P (results fn a.tmps) H (fun _ H' => R H') fun _ _ => False
  | _, _, _ => False
theorem DefX_call {f : FuncId} {fn : Func} {c : Code} {args cap : Array Value} {R : FrameMode → Hp → Prop} (hf : P.funcs[f]? = some fn) (hb : fn.body = some c)
    (hcall : ∀ (args : Array Value) (H : Hp) (K : Next → Hp → Prop) (E : Value → Hp → Prop), wpS P (callFunc f args) H K E = K (.enter f args) H)
    (h : wpX P main none c (bodyD P fn (R .returning)) { tmps := (args ++ cap) ++ Array.replicate (fn.ntmps - (args ++ cap).size) undef, defers := [] } H) : DefX P main .returning { target := .fn (.func f) cap, args := args } H R := by
  intro fr cs Stop hm hR
  have h2 : wpS P (invoke (.fn (.func f) cap) args) H (fun x H' => x = .enter f (args ++ cap) ∧ H' = H) (fun _ _ => False) := by
    simp only [invoke]
    rw [hcall]
    exact ⟨rfl, rfl⟩
  refine WPG.tree (s := invoke (.fn (.func f) cap) args) rfl h2 (fun g' H' => g' = G (Frame.enter P f (args ++ cap) .deferred) (fr :: cs) ∧ H' = H) (fun w w' H' es v hr' hm' hk' => ?_) (fun _ _ _ _ _ _ _ he => he.elim) ?_
  · obtain ⟨rfl, rfl⟩ := hk'
    refine ⟨_, seen P fr.fn es, ?_, fun e => mem_seen, rfl, rfl⟩
    simp [stepG, unwind, callDeferred, G, hm, hr', GStep.after, -Sem.runT_eq]
    cases fr; simp_all
  · rintro g' H' ⟨rfl, rfl⟩
    have he : Frame.enter P f (args ++ cap) .deferred = fat { base f with kind := .deferred } { tmps := (args ++ cap) ++ Array.replicate (fn.ntmps - (args ++ cap).size) undef, defers := [] } [.code c] := by
      simp [Frame.enter, fat, hf, hb, base]; rfl
    rw [he]
    have hret : ∀ (a' : Act) (H' : Hp) (k' : List Item), a'.defers = [] → wpS P (results fn a'.tmps) H' (fun _ H' => R .returning H') (fun _ _ => False) → WPG P main Stop (G { fat { base f with kind := .deferred } a' k' with mode := .returning } (fr :: cs)) H' := fun a' H' k' hd hq => by
      refine WPG.tree rfl hq (fun g' H' => g' = G fr cs ∧ R .returning H') (fun w w' H' es v hr' hm' hk' => ?_) (fun _ _ _ _ _ _ _ he => he.elim) ?_
      · refine ⟨_, seen P f es, ?_, fun e => mem_seen, rfl, hk'⟩
        simp [stepG, unwind, doReturn, fat, G, base, hd, hf, hr', hm, GStep.after, -Sem.runT_eq]
      · rintro g' H' ⟨rfl, hq⟩
        have := hR _ _ hq
        rwa [← hm] at this
    refine h { base f with kind := .deferred } [] (fr :: cs) Stop (by simp [base]) rfl fun e a' H' q => ?_
    cases e with
    | normal => exact .ctl (g' := G { fat { base f with kind := .deferred } a' [] with mode := .returning } (fr :: cs)) rfl (fun w => by simp [G, stepG, stepG.exec, fat, base]; rfl) (hret a' H' _ q.1 q.2)
    | ret => exact fun k' => .ctl (g' := G { fat { base f with kind := .deferred } a' (.code .ret :: k') with mode := .returning } (fr :: cs)) rfl (fun w => by simp [G, stepG, stepG.exec, fat, base]; rfl) (hret a' H' _ q.1 q.2)
    | panic ch => exact q.elim
    | exit id => exact q.elim
    | goto l => exact q.elim
    | outgrown => exact q.elim
end
end Go.X
end
section
/- Functions that hand their elements on: what their client keeps, what they keep; all plans. -/
set_option linter.unusedSimpArgs false
set_option maxRecDepth 100000
set_option maxHeartbeats 1000000
set_option linter.unusedVariables false
namespace Go.X
open Go
theorem cells_nilFunc : Value.nilFunc.cells = #[.nilFunc] := rfl
theorem cells_func (f : Fn) (a b : Array Value) : (Value.func f a b).cells = #[.func f a b] := rfl
/-- What a call of a function value comes to. -/
def CallV (P : Program) (main : Bool) (v : Value) (args : Array Value) (H : Hp) (R : Ending → Hp → Prop) : Prop :=
  ∀ (K : Next → Hp → Prop) (E : Value → Hp → Prop), (∀ f ar H', Runs P main (Frame.enter P f ar .normal) H' R → K (.enter f ar) H') →
    (∀ l f tmps ar body H', Runs P main (Frame.round l f tmps ar body .normal) H' R → K (.round l f tmps ar body) H') → callK P v args H K E
theorem CallV.use {P : Program} {main : Bool} {lp : Option Nat} {v : Value} {args : Array Value} {H : Hp} {R : Ending → Hp → Prop} {o : Oper} {a : Act} {next : Act → Hp → Prop} {Q : Exit → Act → Hp → Prop} {E : Value → Hp → Prop}
    (h : CallV P main v args H R) (hk : ∀ e H', R e H' → onEnd next Q o.dst a e H') : callK P v args H (uponX P main lp o a next Q) E := by
  refine h _ _ (fun f ar H' hr => ?_) (fun l f tmps ar body H' hr => ?_)
  · rw [uponX_enterK]
    exact hr.mono hk
  · have hx : uponX P main lp o a next Q (.round l f tmps ar body) H' = Runs P main (Frame.round l f tmps ar body .normal) H' (onEnd next Q o.dst a) := by
      unfold uponX
      congr 1
    rw [hx]
    exact hr.mono hk
/-- A call that is put off. -/
def deferK (P : Program) (v : Value) (args : Array Value) (H : Hp) (K : Next → Hp → Prop) (E : Value → Hp → Prop) : Prop := wpS P (Deferred.ofValue v args) H (fun x H' => K (.defer x) H') E
theorem ex_deferV {P : Program} {H : Hp} (a : Act) (d : Option Tmp) (ty : TypeId) (pos : String) (af : Array Edge) (g : Option (Nat × Bool)) (K : Next → Hp → Prop) (E : Value → Hp → Prop) {t : Tmp} {args : Array Operand} {ats : Array TypeId} :
    wpS P (execOp a.eval ⟨d, .defer ⟨.value (.tmp t), args, ats⟩, ty, pos, af, g⟩) H K E = deferK P (a.eval (.tmp t)) (args.map a.eval) H K E := ex_defer _ _ _ _ _ _ _ _ _
theorem deferK_func {P : Program} {H : Hp} (f : FuncId) (cap args : Array Value) (K : Next → Hp → Prop) (E : Value → Hp → Prop) : deferK P (.func (.func f) #[] cap) args H K E = K (.defer { target := .fn (.func f) cap, args := args }) H := by
  simp [deferK, Deferred.ofValue, wpS_pure]
@[congr] theorem deferK_congr {P : Program} {c c' : Value} {args args' : Array Value} {K : Next → Hp → Prop} {E : Value → Hp → Prop} {H H' : Hp} (hc : c = c') (ha : args = args') (hH : H = H') : deferK P c args H K E = deferK P c' args' H' K E := by subst hc ha hH; rfl
theorem uponX_deferK {P : Program} {main : Bool} {o : Oper} {n : Nat} {e : Nat → Value} {ds : List Deferred} {H : Hp} {K : Act → Hp → Prop} {Q : Exit → Act → Hp → Prop} (d : Deferred) : uponX P main none o (act n e ds) K Q (.defer d) H = K ((act n e (d :: ds)).put o.dst undef) H := by
  simp [uponX]; rfl
/-- A CLIENT: its memory S; what it holds of it (T) at each time. -/
structure Client (P : Program) (main : Bool) (y : Value) (S : Nat → Prop) (arg : Hp → Value → List Int → Prop) (A : List Int → Prop) (T : Bool → List (List Int) → Hp → Prop) : Prop where
  keep : ∀ t L H H', T t L H → (∀ b x, S b → H b = some x → H' b = some x) → T t L H'
  ex : ∀ t L H b, T t L H → S b → H b ≠ none
  call : ∀ L H v l, T true L H → arg H v l → A l → CallV P main y #[v] H fun e H' => ∃ t, e = .returned (.bool t) ∧ T t (L ++ [l]) H' ∧ ∀ b x, ¬ S b → H b = some x → H' b = some x
end Go.X
namespace Go.Proofs.YtiempdpjcddgfaaDoor
open Go Go.X
set_option linter.defProp false
def y42_45 := And.intro (fun H => ex_alloc (H := H) (P := Tryd.prog) (h := Tryd.zeroValue22)) (And.intro (fun H => ex_alloc (H := H) (P := Tryd.prog) (h := Tryd.zeroValue103)) (And.intro (fun H => ex_alloc (H := H) (P := Tryd.prog) (h := Tryd.zeroValue104)) (And.intro (fun H => storeAt_func (H := H) Tryd.sizeOf104) (And.intro (fun H => storeAt_nilFunc (H := H) Tryd.sizeOf104) (And.intro (fun H => storeAt_func (H := H) Tryd.sizeOf103) (And.intro (fun H => storeAt_nilFunc (H := H) Tryd.sizeOf103) (And.intro (fun H => loadAt_one (H := H) Tryd.underlying103 rfl) (And.intro (fun H => loadAt_one (H := H) Tryd.underlying64 rfl) (And.intro (fun H => fieldAt_eq (H := H) Tryd.underlying68 (i := 1) rfl (off := 12) rfl Tryd.sizeOf22) (And.intro (fun H => loadAt_one (H := H) Tryd.underlying22 rfl) (fun H => len_slice (H := H) Tryd.underlying22)))))))))))
def y43_45 := And.intro (fun H => loadAt_one (H := H) Tryd.underlying22 rfl) (And.intro @lit_22_1_0_0 (And.intro (fun H => storeAt_slice (H := H) Tryd.sizeOf22) (fun H => loadAt_one (H := H) Tryd.underlying103 rfl)))
def y44_45 := And.intro (fun H => loadAt_one (H := H) Tryd.underlying22 rfl) (And.intro (fun H => len_slice (H := H) Tryd.underlying22) (And.intro (fun H => slice_hi (H := H) Tryd.underlying22 Tryd.sizeOf3) (And.intro (fun H => slice_lo (H := H) Tryd.underlying22 Tryd.sizeOf3) (And.intro (fun H => slice_lohi (H := H) Tryd.underlying22 Tryd.sizeOf3) (fun H => storeAt_slice (H := H) Tryd.sizeOf22)))))
def y45_45 := And.intro (fun H => loadAt_one (H := H) Tryd.underlying41 rfl) (And.intro (fun H => loadAt_one (H := H) Tryd.underlying22 rfl) (And.intro (fun H => loadAt_one (H := H) Tryd.underlying64 rfl) (And.intro (fun H => fieldAt_eq (H := H) Tryd.underlying68 (i := 0) rfl (off := 0) rfl Tryd.sizeOf29) (And.intro (fun H => fieldAt_eq (H := H) Tryd.underlying29 (i := 5) rfl (off := 8) rfl Tryd.sizeOf3) (And.intro (fun H => loadAt_one (H := H) Tryd.underlying3 rfl) (And.intro @min_int (fun H => loadAt_one (H := H) Tryd.underlying104 rfl)))))))

/-- A slice of numbers of one's own that can be grown and cut. -/
def OwnR (e : TypeId) (H : Hp) (v : Value) (cs : List Value) : Prop :=
  (v = .slice none 0 0 ∧ cs = []) ∨
  ∃ (b : Nat) (c : Array Value) (cap : Nat), H b = some (true, .cells c e (0, 0)) ∧ v = .slice (some ⟨b, 0, none⟩) cs.length cap ∧ c.size = cap ∧ cs.length ≤ cap ∧ ∀ (i : Nat) (u : Value), cs[i]? = some u → c[i]? = some u

theorem OwnR.row {H : Hp} {v : Value} {e : TypeId} {cs : List Value} (h : OwnR e H v cs) : RowX none (fun x => if rowB v = some x then none else H x) H v e cs := by
  refine ⟨fun x u hx => ⟨u, ?_, fun _ => rfl⟩, ?_⟩
  · by_cases hb : rowB v = some x
    · simp only [hb, if_true] at hx; cases hx
    · simpa only [hb, if_false] using hx
  · rcases h with h | ⟨b, c, cap, h1, h2, h3, h4, h5⟩
    · exact .inl h
    · exact .inr ⟨b, c, cap, by rw [h2]; simp [rowB], h1, h2, h3, h4, h5⟩
theorem ownR_of {t : Option Nat} {H₀ H : Hp} {v : Value} {e : TypeId} {cs : List Value} (h : RowX t H₀ H v e cs) : OwnR e H v cs := by
  rcases h.2 with h | ⟨b, c, cap, _, h1, h2, h3, h4, h5⟩
  · exact .inl h
  · exact .inr ⟨b, c, cap, h1, h2, h3, h4, h5⟩
theorem OwnR.ints {H : Hp} {v : Value} {xs : List Int} (h : OwnR 3 H v (ints xs)) : SlI H v xs := h.row.ints
theorem OwnR.move {H H' : Hp} {v : Value} {e : TypeId} {cs : List Value} (h : OwnR e H v cs) (hk : ∀ b x, rowB v = some b → H b = some x → H' b = some x) : OwnR e H' v cs := by
  rcases h with h | ⟨b, c, cap, h1, h2, h3, h4, h5⟩
  · exact .inl h
  · exact .inr ⟨b, c, cap, hk b _ (by rw [h2]; rfl) h1, h2, h3, h4, h5⟩
theorem OwnR.cut {H : Hp} {v : Value} {e : TypeId} {cs : List Value} {u : Value} (h : OwnR e H v (cs ++ [u])) : ∃ b cap, v = .slice (some ⟨b, 0, none⟩) (cs.length + 1) cap ∧ cs.length + 1 ≤ cap ∧ OwnR e H (.slice (some ⟨b, 0, none⟩) cs.length cap) cs := by
  rcases h with ⟨_, h⟩ | ⟨b, c, cap, h1, h2, h3, h4, h5⟩
  · simp at h
  · simp only [List.length_append, List.length_cons, List.length_nil] at h2 h4
    refine ⟨b, cap, h2, by omega, .inr ⟨b, c, cap, h1, rfl, h3, by omega, fun i u hi => h5 i u ?_⟩⟩
    rw [List.getElem?_append_left (List.getElem?_eq_some_iff.1 hi).1]
    exact hi
theorem OwnR.at {H : Hp} {v : Value} {e : TypeId} {cs : List Value} (h : OwnR e H v cs) {b : Nat} (hb : rowB v = some b) : ∃ c, H b = some (true, .cells c e (0, 0)) := by
  rcases h with ⟨rfl, _⟩ | ⟨b', c, cap, h1, rfl, h3, h4, h5⟩
  · cases hb
  · cases hb
    exact ⟨c, h1⟩

/-! ### all plans -/
/-- All ways to make n out of parts of at most m. -/
def comps (m : Nat) : Nat → List (List Int)
  | 0 => [[]]
  | n + 1 => (List.range (min (n + 1) m)).flatMap fun i => (comps m (n - i)).map fun l => (i + 1 : Int) :: l
decreasing_by omega
theorem comps_pos (m n : Nat) (h : 0 < n) : comps m n = (List.range (min n m)).flatMap fun i => (comps m (n - (i + 1))).map fun l => (i + 1 : Int) :: l := by
  obtain ⟨k, rfl⟩ : ∃ k, n = k + 1 := ⟨n - 1, by omega⟩
  rw [comps]
  congr 1
  funext i
  rw [show k + 1 - (i + 1) = k - i by omega]
/-- The memory of the function that hands the plans on. -/
structure Plans (S : Nat → Prop) (T : Bool → List (List Int) → Hp → Prop) (y : Value) (yb tb gb ob thisb : Nat) (t : Bool) (L : List (List Int)) (p : List Int) (H : Hp) : Prop where
  cl : T t L H
  vy : H yb = some (true, .cells #[y] 41 (0, 0))
  vg : H gb = some (true, .cells #[.func (.func 45) #[] #[.pointer (some ⟨yb, 0, none⟩), .pointer (some ⟨tb, 0, none⟩), .pointer (some ⟨thisb, 0, none⟩), .pointer (some ⟨ob, 0, none⟩)]] 103 (0, 0))
  vo : H ob = some (true, .cells #[.func (.func 43) #[] #[.pointer (some ⟨tb, 0, none⟩), .pointer (some ⟨gb, 0, none⟩)]] 104 (0, 0))
  vt : ∃ v, H tb = some (true, .cells #[v] 22 (0, 0)) ∧ OwnR 3 H v (ints p) ∧ ∀ b, rowB v = some b → ¬ S b
  ny : ¬ S yb
  ng : ¬ S gb
  no : ¬ S ob
  nt : ¬ S tb

theorem Plans.put {P : Program} {main : Bool} {S : Nat → Prop} {A : List Int → Prop} {arg : Hp → Value → List Int → Prop} {T : Bool → List (List Int) → Hp → Prop} {y : Value} {yb tb gb ob thisb : Nat} (hC : Client P main y S arg A T) {H0 H : Hp} {t : Bool} {L : List (List Int)} {p p0 : List Int} {v : Value}
    (hP : Plans S T y yb tb gb ob thisb t L p0 H0) (hk : ∀ b x, H0 b = some x → (S b ∨ ∀ c, x ≠ (true, .cells c 3 (0, 0))) → H b = some x) (hv : OwnR 3 H v (ints p)) (hS : ∀ b, rowB v = some b → ¬ S b) : Plans S T y yb tb gb ob thisb t L p (H.set tb (.cells #[v] 22 (0, 0))) := by
  obtain ⟨v0, vt, _⟩ := hP.vt
  have vt1 := hk _ _ vt (.inr fun c e => by cases e)
  have vy := hk _ _ hP.vy (.inr fun c e => by cases e)
  have vg := hk _ _ hP.vg (.inr fun c e => by cases e)
  have vo := hk _ _ hP.vo (.inr fun c e => by cases e)
  refine ⟨?_, ?_, ?_, ?_, ⟨v, set_at, hv.move fun b x hb hx => ?_, hS⟩, hP.ny, hP.ng, hP.no, hP.nt⟩
  · refine hC.keep _ _ H0 _ hP.cl fun b x hb hx => ?_
    rw [set_ne (fun e : b = tb => hP.nt (by rw [← e]; exact hb))]
    exact hk b x hx (.inl hb)
  · rw [set_ne (fun e => by rw [e, vt1] at vy; cases vy)]; exact vy
  · rw [set_ne (fun e => by rw [e, vt1] at vg; cases vg)]; exact vg
  · rw [set_ne (fun e => by rw [e, vt1] at vo; cases vo)]; exact vo
  · obtain ⟨c, hc⟩ := hv.at hb
    rw [set_ne (fun e => by rw [e, vt1] at hc; cases hc)]
    exact hx

/-- The last part is taken off again. -/
theorem off_spec (main : Bool) (H : Hp) (tb : Nat) (v : Value) (xs : List Int) (x : Int) (hv : H tb = some (true, .cells #[v] 22 (0, 0))) (ho : OwnR 3 H v (ints (xs ++ [x]))) (hl : xs.length ≤ 1000000) (R : FrameMode → Hp → Prop)
    (h : ∀ v', OwnR 3 H v' (ints xs) → rowB v' = rowB v → R .returning (H.set tb (.cells #[v'] 22 (0, 0)))) :
    DefX Tryd.prog main .returning { target := .fn (.func 44) #[.pointer (some ⟨tb, 0, none⟩)], args := #[] } H R := by
  rw [ints_app] at ho
  obtain ⟨b, cap, hv', hc, ho'⟩ := OwnR.cut (u := .int .i64 x) ho
  rw [ints_len] at hv' hc ho'
  subst hv'
  refine DefX_call Tryd.func44 rfl (fun _ _ => callF44 _) ?_
  rw [Tryd.ntmps44]
  rw [show ((#[] : Array Value) ++ #[.pointer (some ⟨tb, 0, none⟩)]) = [Value.pointer (some ⟨tb, 0, none⟩)].toArray from rfl, enter_act (by simp)]
  have hR := h _ ho' rfl
  repeat' (first
  | (refine wpX_stmtL rfl ?_; intro K hK; simp -implicitDefEqProofs (disch := first | omega | (simp only [qd] <;> omega)) only [xq, ↓xp, qc, Nat.reduceAdd, List.range, List.range.loop, fine, Nat.reduceEqDiff, ↓reduceIte, yielded, reduceCtorEq, Nat.reduceLT, Nat.reduceMul, Nat.reduceSub, one, Nat.reduceLeDiff, runX_cons, y44_45, aq, ↓ap, qe0, qe1, qe2, *, -hK]; try (refine hK _ _ ?_; clear hK K))
  | (refine wpX_lastL rfl ?_; intro K hK; simp -implicitDefEqProofs (disch := first | omega | (simp only [qd] <;> omega)) only [xq, ↓xp, qc, Nat.reduceAdd, List.range, List.range.loop, fine, Nat.reduceEqDiff, ↓reduceIte, yielded, reduceCtorEq, Nat.reduceLT, Nat.reduceMul, Nat.reduceSub, one, Nat.reduceLeDiff, runX_cons, y44_45, aq, ↓ap, qe0, qe1, qe2, *, -hK]; try (refine hK _ _ ?_; clear hK K; (try simp only [nq, ↓reduceIte, Nat.reduceEqDiff])))
  | (refine wpX_skip ?_; (try simp only [nq, ↓reduceIte, Nat.reduceEqDiff]))
  | (refine wpX_label ?_; (try simp only [nq, ↓reduceIte, Nat.reduceEqDiff]))
  | (refine wpX_exit ?_; (try simp only [nq, ↓reduceIte, Nat.reduceEqDiff]))
  | (refine wpX_goto ?_; (try simp only [nq, ↓reduceIte, Nat.reduceEqDiff]))
  | (refine wpX_condK (by simp only [act_eval, upd_get, Nat.reduceEqDiff, Nat.reduceLT, ↓reduceIte, *]; rfl) ?_ ?_ <;> (intro hc; first | (exfalso; simp -implicitDefEqProofs (disch := omega) only [*, bq, reduceCtorEq] at hc; done) | (simp only [dq, qe3, qe4, qe5, qe6] at hc) | skip))
  | (refine wpX_scope0 ?_)
  | (refine wpX_block ?_)
  | (refine wpX_seq ?_))
  refine ⟨rfl, ?_⟩
  rw [results_zero Tryd.results44, show ((xs.length + 1 : Nat) - 1 : Int).toNat = xs.length by omega]
  exact hR

/-- A plan is longer by one, what is to come is gone through, it is shorter again. -/
theorem take_spec (main : Bool) {S : Nat → Prop} {A : List Int → Prop} {T : Bool → List (List Int) → Hp → Prop} {y : Value} {yb tb gb ob thisb : Nat} (hC : Client Tryd.prog main y S (fun H v xs => SlI H v xs) A T)
    (n left : Nat) (hn : n ≤ left) (hl : left ≤ 1000) (p : List Int) (hp : p.length ≤ 1000) (L : List (List Int)) (X : List (List Int)) (H : Hp) (hP : Plans S T y yb tb gb ob thisb true L p H)
    (ih : ∀ H', Plans S T y yb tb gb ob thisb true L (p ++ [(n : Int)]) H' → FnX Tryd.prog main 45 #[.int .i64 (left - n : Nat), .pointer (some ⟨yb, 0, none⟩), .pointer (some ⟨tb, 0, none⟩), .pointer (some ⟨thisb, 0, none⟩), .pointer (some ⟨ob, 0, none⟩)] H' fun e H'' => ∃ t L', e = .returned (.bool t) ∧ Plans S T y yb tb gb ob thisb t L' (p ++ [(n : Int)]) H'' ∧ (t = true → L' = L ++ X)) :
    FnX Tryd.prog main 43 #[.int .i64 n, .int .i64 left, .pointer (some ⟨tb, 0, none⟩), .pointer (some ⟨gb, 0, none⟩)] H fun e H' => ∃ t L', e = .returned (.bool t) ∧ Plans S T y yb tb gb ob thisb t L' p H' ∧ (t = true → L' = L ++ X) := by
  obtain ⟨v, vt, hv, hvS⟩ := hP.vt
  have vy := hP.vy
  have vg := hP.vg
  have vo := hP.vo
  obtain ⟨va, vc, rfl⟩ := hv.row.len
  have hpl : (ints p).length ≤ 1000000 := by rw [ints_len]; omega
  refine FnX_start Tryd.func43 rfl Tryd.ntmps43 (by simp) ?_
  repeat' (first
  | (refine wpX_stmtL rfl ?_; intro K hK; simp -implicitDefEqProofs (disch := first | omega | (simp only [qd] <;> omega)) only [xq, ↓xp, qc, Nat.reduceAdd, List.range, List.range.loop, fine, Nat.reduceEqDiff, ↓reduceIte, yielded, reduceCtorEq, Nat.reduceLT, Nat.reduceMul, Nat.reduceSub, one, Nat.reduceLeDiff, runX_cons, y43_45, aq, ↓ap, qe0, qe1, qe2, *, -hK, ex_deferV, deferK_func, uponX_deferK]; try (refine hK _ _ ?_; clear hK K))
  | (refine wpX_lastL rfl ?_; intro K hK; simp -implicitDefEqProofs (disch := first | omega | (simp only [qd] <;> omega)) only [xq, ↓xp, qc, Nat.reduceAdd, List.range, List.range.loop, fine, Nat.reduceEqDiff, ↓reduceIte, yielded, reduceCtorEq, Nat.reduceLT, Nat.reduceMul, Nat.reduceSub, one, Nat.reduceLeDiff, runX_cons, y43_45, aq, ↓ap, qe0, qe1, qe2, *, -hK, ex_deferV, deferK_func, uponX_deferK]; try (refine hK _ _ ?_; clear hK K; (try simp only [nq, ↓reduceIte, Nat.reduceEqDiff])))
  | (refine wpX_skip ?_; (try simp only [nq, ↓reduceIte, Nat.reduceEqDiff]))
  | (refine wpX_label ?_; (try simp only [nq, ↓reduceIte, Nat.reduceEqDiff]))
  | (refine wpX_exit ?_; (try simp only [nq, ↓reduceIte, Nat.reduceEqDiff]))
  | (refine wpX_goto ?_; (try simp only [nq, ↓reduceIte, Nat.reduceEqDiff]))
  | (refine wpX_condK (by simp only [act_eval, upd_get, Nat.reduceEqDiff, Nat.reduceLT, ↓reduceIte, *]; rfl) ?_ ?_ <;> (intro hc; first | (exfalso; simp -implicitDefEqProofs (disch := omega) only [*, bq, reduceCtorEq] at hc; done) | (simp only [dq, qe3, qe4, qe5, qe6] at hc) | skip))
  | (refine wpX_scope0 ?_)
  | (refine wpX_block ?_)
  | (refine wpX_seq ?_))
  intro g hg
  have ngt : tb ≠ g := ne_new vt hg
  (try simp -implicitDefEqProofs (disch := first | omega | (simp only [qd] <;> omega)) only [xq, ↓xp, qc, Nat.reduceAdd, List.range, List.range.loop, fine, Nat.reduceEqDiff, ↓reduceIte, yielded, reduceCtorEq, Nat.reduceLT, Nat.reduceMul, Nat.reduceSub, one, Nat.reduceLeDiff, runX_cons, y43_45, aq, ↓ap, qe0, qe1, qe2, *, -hK, ex_deferV, deferK_func, uponX_deferK]); try (refine hK _ _ ?_; clear hK K; (try simp only [nq, ↓reduceIte, Nat.reduceEqDiff])); repeat' (first
  | (refine wpX_stmtL rfl ?_; intro K hK; simp -implicitDefEqProofs (disch := first | omega | (simp only [qd] <;> omega)) only [xq, ↓xp, qc, Nat.reduceAdd, List.range, List.range.loop, fine, Nat.reduceEqDiff, ↓reduceIte, yielded, reduceCtorEq, Nat.reduceLT, Nat.reduceMul, Nat.reduceSub, one, Nat.reduceLeDiff, runX_cons, y43_45, aq, ↓ap, qe0, qe1, qe2, *, -hK, ex_deferV, deferK_func, uponX_deferK]; try (refine hK _ _ ?_; clear hK K))
  | (refine wpX_lastL rfl ?_; intro K hK; simp -implicitDefEqProofs (disch := first | omega | (simp only [qd] <;> omega)) only [xq, ↓xp, qc, Nat.reduceAdd, List.range, List.range.loop, fine, Nat.reduceEqDiff, ↓reduceIte, yielded, reduceCtorEq, Nat.reduceLT, Nat.reduceMul, Nat.reduceSub, one, Nat.reduceLeDiff, runX_cons, y43_45, aq, ↓ap, qe0, qe1, qe2, *, -hK, ex_deferV, deferK_func, uponX_deferK]; try (refine hK _ _ ?_; clear hK K; (try simp only [nq, ↓reduceIte, Nat.reduceEqDiff])))
  | (refine wpX_skip ?_; (try simp only [nq, ↓reduceIte, Nat.reduceEqDiff]))
  | (refine wpX_label ?_; (try simp only [nq, ↓reduceIte, Nat.reduceEqDiff]))
  | (refine wpX_exit ?_; (try simp only [nq, ↓reduceIte, Nat.reduceEqDiff]))
  | (refine wpX_goto ?_; (try simp only [nq, ↓reduceIte, Nat.reduceEqDiff]))
  | (refine wpX_condK (by simp only [act_eval, upd_get, Nat.reduceEqDiff, Nat.reduceLT, ↓reduceIte, *]; rfl) ?_ ?_ <;> (intro hc; first | (exfalso; simp -implicitDefEqProofs (disch := omega) only [*, bq, reduceCtorEq] at hc; done) | (simp only [dq, qe3, qe4, qe5, qe6] at hc) | skip))
  | (refine wpX_scope0 ?_)
  | (refine wpX_block ?_)
  | (refine wpX_seq ?_))
  refine append_row2 Tryd.underlying22 Tryd.sizeOf3 Tryd.zeroValue3 rfl Tryd.typeInfo3 (by decide) (by decide) hv.row hg rfl hpl _ _ _ _ (fun v2 H2 hv2 hkeep hnew => ?_)
  have hk2 : ∀ b x, H b = some x → (S b ∨ ∀ c, x ≠ (true, .cells c 3 (0, 0))) → H2 b = some x := fun b x hx h => hkeep b x hx fun e => by
    rcases h with h | h
    · exact hvS b e h
    · obtain ⟨c, hc⟩ := hv.at e
      rw [hx] at hc
      exact h c (Option.some.inj hc)
  have hown2 : OwnR 3 H2 v2 (ints (p ++ [(n : Int)])) := by rw [ints_app]; exact ownR_of hv2
  have hS2 : ∀ b, rowB v2 = some b → ¬ S b := fun b hb hs => by
    rcases hnew b hb with h | h
    · exact hvS b h hs
    · exact hC.ex _ _ _ b hP.cl hs h
  have hP2 := Plans.put hC hP hk2 hown2 hS2
  have vt2 := hk2 _ _ vt (.inr fun c e => by cases e)
  obtain ⟨wa, wc, rfl⟩ := hv2.len
  have vg2 := hk2 _ _ vg (.inr fun c e => by cases e)
  have ngb : gb ≠ tb := fun e => by rw [e, vt2] at vg2; cases vg2
  clear hv2 hkeep hnew hown2 hS2 hk2 hP vt vy vg vo hv hvS
  generalize (ints p ++ [Value.int .i64 (n : Int)]).length = n2 at *
  have hr := ih _ hP2
  rw [Int.ofNat_sub hn] at hr
  (try simp -implicitDefEqProofs (disch := first | omega | (simp only [qd] <;> omega)) only [xq, ↓xp, qc, Nat.reduceAdd, List.range, List.range.loop, fine, Nat.reduceEqDiff, ↓reduceIte, yielded, reduceCtorEq, Nat.reduceLT, Nat.reduceMul, Nat.reduceSub, one, Nat.reduceLeDiff, runX_cons, y43_45, aq, ↓ap, qe0, qe1, qe2, *, -hK, ex_deferV, deferK_func, uponX_deferK]); try (refine hK _ _ ?_; clear hK K; (try simp only [nq, ↓reduceIte, Nat.reduceEqDiff])); repeat' (first
  | (refine wpX_stmtL rfl ?_; intro K hK; simp -implicitDefEqProofs (disch := first | omega | (simp only [qd] <;> omega)) only [xq, ↓xp, qc, Nat.reduceAdd, List.range, List.range.loop, fine, Nat.reduceEqDiff, ↓reduceIte, yielded, reduceCtorEq, Nat.reduceLT, Nat.reduceMul, Nat.reduceSub, one, Nat.reduceLeDiff, runX_cons, y43_45, aq, ↓ap, qe0, qe1, qe2, *, -hK, ex_deferV, deferK_func, uponX_deferK]; try (refine hK _ _ ?_; clear hK K))
  | (refine wpX_lastL rfl ?_; intro K hK; simp -implicitDefEqProofs (disch := first | omega | (simp only [qd] <;> omega)) only [xq, ↓xp, qc, Nat.reduceAdd, List.range, List.range.loop, fine, Nat.reduceEqDiff, ↓reduceIte, yielded, reduceCtorEq, Nat.reduceLT, Nat.reduceMul, Nat.reduceSub, one, Nat.reduceLeDiff, runX_cons, y43_45, aq, ↓ap, qe0, qe1, qe2, *, -hK, ex_deferV, deferK_func, uponX_deferK]; try (refine hK _ _ ?_; clear hK K; (try simp only [nq, ↓reduceIte, Nat.reduceEqDiff])))
  | (refine wpX_skip ?_; (try simp only [nq, ↓reduceIte, Nat.reduceEqDiff]))
  | (refine wpX_label ?_; (try simp only [nq, ↓reduceIte, Nat.reduceEqDiff]))
  | (refine wpX_exit ?_; (try simp only [nq, ↓reduceIte, Nat.reduceEqDiff]))
  | (refine wpX_goto ?_; (try simp only [nq, ↓reduceIte, Nat.reduceEqDiff]))
  | (refine wpX_condK (by simp only [act_eval, upd_get, Nat.reduceEqDiff, Nat.reduceLT, ↓reduceIte, *]; rfl) ?_ ?_ <;> (intro hc; first | (exfalso; simp -implicitDefEqProofs (disch := omega) only [*, bq, reduceCtorEq] at hc; done) | (simp only [dq, qe3, qe4, qe5, qe6] at hc) | skip))
  | (refine wpX_scope0 ?_)
  | (refine wpX_block ?_)
  | (refine wpX_seq ?_))
  rw [callF45, uponX_enterK]
  simp only [Array.empty_append, List.append_toArray, List.cons_append, List.nil_append]
  refine hr.runs.mono ?_
  rintro _ H4 ⟨t, L', rfl, hP4, hL⟩
  clear hr ih vg2 vt2 hP2 ngt hg
  (try simp -implicitDefEqProofs (disch := first | omega | (simp only [qd] <;> omega)) only [xq, ↓xp, qc, Nat.reduceAdd, List.range, List.range.loop, fine, Nat.reduceEqDiff, ↓reduceIte, yielded, reduceCtorEq, Nat.reduceLT, Nat.reduceMul, Nat.reduceSub, one, Nat.reduceLeDiff, runX_cons, y43_45, aq, ↓ap, qe0, qe1, qe2, *, -hK, ex_deferV, deferK_func, uponX_deferK]); try (refine hK _ _ ?_; clear hK K; (try simp only [nq, ↓reduceIte, Nat.reduceEqDiff])); repeat' (first
  | (refine wpX_stmtL rfl ?_; intro K hK; simp -implicitDefEqProofs (disch := first | omega | (simp only [qd] <;> omega)) only [xq, ↓xp, qc, Nat.reduceAdd, List.range, List.range.loop, fine, Nat.reduceEqDiff, ↓reduceIte, yielded, reduceCtorEq, Nat.reduceLT, Nat.reduceMul, Nat.reduceSub, one, Nat.reduceLeDiff, runX_cons, y43_45, aq, ↓ap, qe0, qe1, qe2, *, -hK, ex_deferV, deferK_func, uponX_deferK]; try (refine hK _ _ ?_; clear hK K))
  | (refine wpX_lastL rfl ?_; intro K hK; simp -implicitDefEqProofs (disch := first | omega | (simp only [qd] <;> omega)) only [xq, ↓xp, qc, Nat.reduceAdd, List.range, List.range.loop, fine, Nat.reduceEqDiff, ↓reduceIte, yielded, reduceCtorEq, Nat.reduceLT, Nat.reduceMul, Nat.reduceSub, one, Nat.reduceLeDiff, runX_cons, y43_45, aq, ↓ap, qe0, qe1, qe2, *, -hK, ex_deferV, deferK_func, uponX_deferK]; try (refine hK _ _ ?_; clear hK K; (try simp only [nq, ↓reduceIte, Nat.reduceEqDiff])))
  | (refine wpX_skip ?_; (try simp only [nq, ↓reduceIte, Nat.reduceEqDiff]))
  | (refine wpX_label ?_; (try simp only [nq, ↓reduceIte, Nat.reduceEqDiff]))
  | (refine wpX_exit ?_; (try simp only [nq, ↓reduceIte, Nat.reduceEqDiff]))
  | (refine wpX_goto ?_; (try simp only [nq, ↓reduceIte, Nat.reduceEqDiff]))
  | (refine wpX_condK (by simp only [act_eval, upd_get, Nat.reduceEqDiff, Nat.reduceLT, ↓reduceIte, *]; rfl) ?_ ?_ <;> (intro hc; first | (exfalso; simp -implicitDefEqProofs (disch := omega) only [*, bq, reduceCtorEq] at hc; done) | (simp only [dq, qe3, qe4, qe5, qe6] at hc) | skip))
  | (refine wpX_scope0 ?_)
  | (refine wpX_block ?_)
  | (refine wpX_seq ?_))
  refine wpX_ret ?_
  (try simp only [nq, ↓reduceIte, Nat.reduceEqDiff])
  obtain ⟨v4, vt4, hv4, hS4⟩ := hP4.vt
  refine off_spec main H4 tb v4 p n vt4 hv4 (by omega) _ fun v5 hv5 hb5 => ?_
  show wpS _ (results _ _) _ _ _
  rw [results_one Tryd.results43 (by decide)]
  refine ⟨t, L', rfl, ?_, hL⟩
  exact Plans.put hC hP4 (fun b x hx _ => hx) hv5 fun b hb => hS4 b (by rw [← hb5]; exact hb)

/-- Those that begin with 1, 2 .. i. -/
def begun (m left : Nat) (p : List Int) (i : Nat) : List (List Int) := ((List.range i).flatMap fun j => (comps m (left - (j + 1))).map fun l => (j + 1 : Int) :: l).map (p ++ ·)
theorem begun_succ (m left : Nat) (p : List Int) (i : Nat) : begun m left p (i + 1) = begun m left p i ++ (comps m (left - (i + 1))).map ((p ++ [((i + 1 : Nat) : Int)]) ++ ·) := by
  simp [begun, List.range_succ, List.flatMap_append, List.map_map, Function.comp_def]
theorem begun_all (m left : Nat) (p : List Int) (h : 0 < left) : begun m left p (min left m) = (comps m left).map (p ++ ·) := by
  rw [comps_pos m left h, begun]
theorem comps_mem (m left i : Nat) (h : i < min left m) {l : List Int} (hl : l ∈ comps m (left - (i + 1))) : ((i + 1 : Nat) : Int) :: l ∈ comps m left := by
  rw [comps_pos m left (by omega), List.mem_flatMap]
  exact ⟨i, List.mem_range.2 h, List.mem_map.2 ⟨l, hl, by simp⟩⟩

/-- All plans of what is left are handed on. -/
theorem grow_spec (main : Bool) {S : Nat → Prop} {A : List Int → Prop} {T : Bool → List (List Int) → Hp → Prop} {yf : Fn} {yi yc : Array Value} {yb tb gb ob thisb : Nat} (m : Nat) (hm : m ≤ 1000) (hC : Client Tryd.prog main (.func yf yi yc) S (fun H v xs => SlI H v xs) A T)
    (hthis : ∀ L H, T true L H → ∃ hb n v jv, H thisb = some (true, .cells #[.pointer (some ⟨hb, 0, none⟩)] 64 (0, 0)) ∧ H hb = some (true, HN.obj n v jv) ∧ n.load = m) (left : Nat) :
    ∀ (hl : left ≤ 1000) (p : List Int) (hp : p.length + left ≤ 1000) (L : List (List Int)) (H : Hp) (hP : Plans S T (.func yf yi yc) yb tb gb ob thisb true L p H) (hA : ∀ l ∈ comps m left, A (p ++ l)),
    FnX Tryd.prog main 45 #[.int .i64 left, .pointer (some ⟨yb, 0, none⟩), .pointer (some ⟨tb, 0, none⟩), .pointer (some ⟨thisb, 0, none⟩), .pointer (some ⟨ob, 0, none⟩)] H fun e H' => ∃ t L', e = .returned (.bool t) ∧ Plans S T (.func yf yi yc) yb tb gb ob thisb t L' p H' ∧ (t = true → L' = L ++ (comps m left).map (p ++ ·)) := by
  induction left using Nat.strongRecOn with
  | _ left ih =>
  intro hl p hp L H hP hA
  obtain ⟨v, vt, hv, hvS⟩ := hP.vt
  have vy := hP.vy
  have vo := hP.vo
  obtain ⟨hb, n, hv', jv, vth, vhb, hload⟩ := hthis _ _ hP.cl
  simp only [HN.obj] at vhb
  obtain ⟨va, vc, rfl⟩ := hv.row.len
  by_cases h0 : left = 0
  · subst h0
    refine FnX_start Tryd.func45 rfl Tryd.ntmps45 (by simp) ?_
    repeat' (first
  | (refine wpX_stmtL rfl ?_; intro K hK; simp -implicitDefEqProofs (disch := first | omega | (simp only [qd] <;> omega)) only [xq, ↓xp, qc, Nat.reduceAdd, List.range, List.range.loop, fine, Nat.reduceEqDiff, ↓reduceIte, yielded, reduceCtorEq, Nat.reduceLT, Nat.reduceMul, Nat.reduceSub, one, Nat.reduceLeDiff, runX_cons, y45_45, aq, ↓ap, qe0, qe1, qe2, *, -hK]; try (refine hK _ _ ?_; clear hK K))
  | (refine wpX_lastL rfl ?_; intro K hK; simp -implicitDefEqProofs (disch := first | omega | (simp only [qd] <;> omega)) only [xq, ↓xp, qc, Nat.reduceAdd, List.range, List.range.loop, fine, Nat.reduceEqDiff, ↓reduceIte, yielded, reduceCtorEq, Nat.reduceLT, Nat.reduceMul, Nat.reduceSub, one, Nat.reduceLeDiff, runX_cons, y45_45, aq, ↓ap, qe0, qe1, qe2, *, -hK]; try (refine hK _ _ ?_; clear hK K; (try simp only [nq, ↓reduceIte, Nat.reduceEqDiff])))
  | (refine wpX_skip ?_; (try simp only [nq, ↓reduceIte, Nat.reduceEqDiff]))
  | (refine wpX_label ?_; (try simp only [nq, ↓reduceIte, Nat.reduceEqDiff]))
  | (refine wpX_exit ?_; (try simp only [nq, ↓reduceIte, Nat.reduceEqDiff]))
  | (refine wpX_goto ?_; (try simp only [nq, ↓reduceIte, Nat.reduceEqDiff]))
  | (refine wpX_condK (by simp only [act_eval, upd_get, Nat.reduceEqDiff, Nat.reduceLT, ↓reduceIte, *]; rfl) ?_ ?_ <;> (intro hc; first | (exfalso; simp -implicitDefEqProofs (disch := omega) only [*, bq, reduceCtorEq] at hc; done) | (simp only [dq, qe3, qe4, qe5, qe6] at hc) | skip))
  | (refine wpX_scope0 ?_)
  | (refine wpX_block ?_)
  | (refine wpX_seq ?_))
    · have hcall := hC.call L H _ p hP.cl hv.ints (by simpa [comps] using hA)
      refine CallV.use hcall ?_
      clear hcall
      rintro _ H2 ⟨t, rfl, hT, hk⟩
      have hP2 : Plans S T (.func yf yi yc) yb tb gb ob thisb t (L ++ [p]) p H2 := ⟨hT, hk _ _ hP.ny vy, hk _ _ hP.ng hP.vg, hk _ _ hP.no vo, ⟨_, hk _ _ hP.nt vt, hv.move fun b x hb hx => hk _ _ (hvS b hb) hx, hvS⟩, hP.ny, hP.ng, hP.no, hP.nt⟩
      clear vy vo vt vth vhb hk hv
      (try simp -implicitDefEqProofs (disch := first | omega | (simp only [qd] <;> omega)) only [xq, ↓xp, qc, Nat.reduceAdd, List.range, List.range.loop, fine, Nat.reduceEqDiff, ↓reduceIte, yielded, reduceCtorEq, Nat.reduceLT, Nat.reduceMul, Nat.reduceSub, one, Nat.reduceLeDiff, runX_cons, y45_45, aq, ↓ap, qe0, qe1, qe2, *, -hK]); try (refine hK _ _ ?_; clear hK K; (try simp only [nq, ↓reduceIte, Nat.reduceEqDiff])); repeat' (first
  | (refine wpX_stmtL rfl ?_; intro K hK; simp -implicitDefEqProofs (disch := first | omega | (simp only [qd] <;> omega)) only [xq, ↓xp, qc, Nat.reduceAdd, List.range, List.range.loop, fine, Nat.reduceEqDiff, ↓reduceIte, yielded, reduceCtorEq, Nat.reduceLT, Nat.reduceMul, Nat.reduceSub, one, Nat.reduceLeDiff, runX_cons, y45_45, aq, ↓ap, qe0, qe1, qe2, *, -hK]; try (refine hK _ _ ?_; clear hK K))
  | (refine wpX_lastL rfl ?_; intro K hK; simp -implicitDefEqProofs (disch := first | omega | (simp only [qd] <;> omega)) only [xq, ↓xp, qc, Nat.reduceAdd, List.range, List.range.loop, fine, Nat.reduceEqDiff, ↓reduceIte, yielded, reduceCtorEq, Nat.reduceLT, Nat.reduceMul, Nat.reduceSub, one, Nat.reduceLeDiff, runX_cons, y45_45, aq, ↓ap, qe0, qe1, qe2, *, -hK]; try (refine hK _ _ ?_; clear hK K; (try simp only [nq, ↓reduceIte, Nat.reduceEqDiff])))
  | (refine wpX_skip ?_; (try simp only [nq, ↓reduceIte, Nat.reduceEqDiff]))
  | (refine wpX_label ?_; (try simp only [nq, ↓reduceIte, Nat.reduceEqDiff]))
  | (refine wpX_exit ?_; (try simp only [nq, ↓reduceIte, Nat.reduceEqDiff]))
  | (refine wpX_goto ?_; (try simp only [nq, ↓reduceIte, Nat.reduceEqDiff]))
  | (refine wpX_condK (by simp only [act_eval, upd_get, Nat.reduceEqDiff, Nat.reduceLT, ↓reduceIte, *]; rfl) ?_ ?_ <;> (intro hc; first | (exfalso; simp -implicitDefEqProofs (disch := omega) only [*, bq, reduceCtorEq] at hc; done) | (simp only [dq, qe3, qe4, qe5, qe6] at hc) | skip))
  | (refine wpX_scope0 ?_)
  | (refine wpX_block ?_)
  | (refine wpX_seq ?_))
      (refine wpX_ret ?_; (try simp only [nq, ↓reduceIte, Nat.reduceEqDiff]); rw [bodyX_ret, results_one Tryd.results45 (by decide)]; simp only [upd_get, Nat.reduceEqDiff, ↓reduceIte])
      exact ⟨t, _, rfl, hP2, fun _ => by simp [comps]⟩
  · refine FnX_start Tryd.func45 rfl Tryd.ntmps45 (by simp) ?_
    repeat' (first
  | (refine wpX_stmtL rfl ?_; intro K hK; simp -implicitDefEqProofs (disch := first | omega | (simp only [qd] <;> omega)) only [xq, ↓xp, qc, Nat.reduceAdd, List.range, List.range.loop, fine, Nat.reduceEqDiff, ↓reduceIte, yielded, reduceCtorEq, Nat.reduceLT, Nat.reduceMul, Nat.reduceSub, one, Nat.reduceLeDiff, runX_cons, y45_45, aq, ↓ap, qe0, qe1, qe2, *, -hK]; try (refine hK _ _ ?_; clear hK K))
  | (refine wpX_lastL rfl ?_; intro K hK; simp -implicitDefEqProofs (disch := first | omega | (simp only [qd] <;> omega)) only [xq, ↓xp, qc, Nat.reduceAdd, List.range, List.range.loop, fine, Nat.reduceEqDiff, ↓reduceIte, yielded, reduceCtorEq, Nat.reduceLT, Nat.reduceMul, Nat.reduceSub, one, Nat.reduceLeDiff, runX_cons, y45_45, aq, ↓ap, qe0, qe1, qe2, *, -hK]; try (refine hK _ _ ?_; clear hK K; (try simp only [nq, ↓reduceIte, Nat.reduceEqDiff])))
  | (refine wpX_skip ?_; (try simp only [nq, ↓reduceIte, Nat.reduceEqDiff]))
  | (refine wpX_label ?_; (try simp only [nq, ↓reduceIte, Nat.reduceEqDiff]))
  | (refine wpX_exit ?_; (try simp only [nq, ↓reduceIte, Nat.reduceEqDiff]))
  | (refine wpX_goto ?_; (try simp only [nq, ↓reduceIte, Nat.reduceEqDiff]))
  | (refine wpX_condK (by simp only [act_eval, upd_get, Nat.reduceEqDiff, Nat.reduceLT, ↓reduceIte, *]; rfl) ?_ ?_ <;> (intro hc; first | (exfalso; simp -implicitDefEqProofs (disch := omega) only [*, bq, reduceCtorEq] at hc; done) | (simp only [dq, qe3, qe4, qe5, qe6] at hc) | skip))
  | (refine wpX_scope0 ?_)
  | (refine wpX_block ?_)
  | (refine wpX_seq ?_))
    have hmin : (if (m : Int) < (left : Int) then (m : Int) else (left : Int)) = (min left m : Nat) := by split <;> omega
    rw [hmin]
    clear hmin vy vo vt vth vhb hload hv hvS
    refine wpX_loop (fun w a' H' => ∃ e i, w = min left m - i ∧ i ≤ min left m ∧ a' = act 30 e [] ∧ e 0 = .int .i64 left ∧ e 4 = .pointer (some ⟨ob, 0, none⟩) ∧ e 19 = .int .i64 (min left m : Nat) ∧ e 20 = .int .i64 (i : Nat) ∧ Plans S T (.func yf yi yc) yb tb gb ob thisb true (L ++ begun m left p i) p H') (n := min left m) ?_ ?_
    · exact ⟨_, 0, by omega, by omega, rfl, rfl, rfl, rfl, rfl, by simpa [begun] using hP⟩
    · clear hP
      rintro w a' H2 ⟨e, i, rfl, hi, rfl, e0, e4, e19, e20, hP2⟩
      have vo := hP2.vo
      have hmm : min left m ≤ left := by omega
      have hmin := begun_all m left p (by omega)
      have hmem := fun l => comps_mem m left i (l := l)
      generalize min left m = k at *
      by_cases hlt : i < k
      · have ht := take_spec main hC (i + 1) left (by omega) hl p (by omega) (L ++ begun m left p i) ((comps m (left - (i + 1))).map ((p ++ [((i + 1 : Nat) : Int)]) ++ ·)) H2 hP2 (fun H3 hP3 => ih (left - (i + 1)) (by omega) (by omega) _ (by simp; omega) _ H3 hP3 (fun l hl => by
            rw [List.append_assoc]
            exact hA _ (hmem l hlt hl)))
        rw [List.append_assoc, ← begun_succ] at ht
        repeat' (first
  | (refine wpX_stmtL rfl ?_; intro K hK; simp -implicitDefEqProofs (disch := first | omega | (simp only [qd] <;> omega)) only [xq, ↓xp, qc, Nat.reduceAdd, List.range, List.range.loop, fine, Nat.reduceEqDiff, ↓reduceIte, yielded, reduceCtorEq, Nat.reduceLT, Nat.reduceMul, Nat.reduceSub, one, Nat.reduceLeDiff, runX_cons, y45_45, aq, ↓ap, qe0, qe1, qe2, *, -hK]; try (refine hK _ _ ?_; clear hK K))
  | (refine wpX_lastL rfl ?_; intro K hK; simp -implicitDefEqProofs (disch := first | omega | (simp only [qd] <;> omega)) only [xq, ↓xp, qc, Nat.reduceAdd, List.range, List.range.loop, fine, Nat.reduceEqDiff, ↓reduceIte, yielded, reduceCtorEq, Nat.reduceLT, Nat.reduceMul, Nat.reduceSub, one, Nat.reduceLeDiff, runX_cons, y45_45, aq, ↓ap, qe0, qe1, qe2, *, -hK]; try (refine hK _ _ ?_; clear hK K; (try simp only [nq, ↓reduceIte, Nat.reduceEqDiff])))
  | (refine wpX_skip ?_; (try simp only [nq, ↓reduceIte, Nat.reduceEqDiff]))
  | (refine wpX_label ?_; (try simp only [nq, ↓reduceIte, Nat.reduceEqDiff]))
  | (refine wpX_exit ?_; (try simp only [nq, ↓reduceIte, Nat.reduceEqDiff]))
  | (refine wpX_goto ?_; (try simp only [nq, ↓reduceIte, Nat.reduceEqDiff]))
  | (refine wpX_condK (by simp only [act_eval, upd_get, Nat.reduceEqDiff, Nat.reduceLT, ↓reduceIte, *]; rfl) ?_ ?_ <;> (intro hc; first | (exfalso; simp -implicitDefEqProofs (disch := omega) only [*, bq, reduceCtorEq] at hc; done) | (simp only [dq, qe3, qe4, qe5, qe6] at hc) | skip))
  | (refine wpX_scope0 ?_)
  | (refine wpX_block ?_)
  | (refine wpX_seq ?_))
        rw [callF43, uponX_enterK]
        simp only [Array.empty_append, List.append_toArray, List.cons_append, List.nil_append]
        rw [show (i : Int) + 1 = ((i + 1 : Nat) : Int) by omega]
        refine ht.runs.mono ?_
        clear ht ih hA hmem hthis hmin vo hP2
        rintro _ H3 ⟨t, L', rfl, hP3, hL⟩
        cases t with
        | false =>
          clear hL
          (try simp -implicitDefEqProofs (disch := first | omega | (simp only [qd] <;> omega)) only [xq, ↓xp, qc, Nat.reduceAdd, List.range, List.range.loop, fine, Nat.reduceEqDiff, ↓reduceIte, yielded, reduceCtorEq, Nat.reduceLT, Nat.reduceMul, Nat.reduceSub, one, Nat.reduceLeDiff, runX_cons, y45_45, aq, ↓ap, qe0, qe1, qe2, *, -hK]); try (refine hK _ _ ?_; clear hK K; (try simp only [nq, ↓reduceIte, Nat.reduceEqDiff])); repeat' (first
  | (refine wpX_stmtL rfl ?_; intro K hK; simp -implicitDefEqProofs (disch := first | omega | (simp only [qd] <;> omega)) only [xq, ↓xp, qc, Nat.reduceAdd, List.range, List.range.loop, fine, Nat.reduceEqDiff, ↓reduceIte, yielded, reduceCtorEq, Nat.reduceLT, Nat.reduceMul, Nat.reduceSub, one, Nat.reduceLeDiff, runX_cons, y45_45, aq, ↓ap, qe0, qe1, qe2, *, -hK]; try (refine hK _ _ ?_; clear hK K))
  | (refine wpX_lastL rfl ?_; intro K hK; simp -implicitDefEqProofs (disch := first | omega | (simp only [qd] <;> omega)) only [xq, ↓xp, qc, Nat.reduceAdd, List.range, List.range.loop, fine, Nat.reduceEqDiff, ↓reduceIte, yielded, reduceCtorEq, Nat.reduceLT, Nat.reduceMul, Nat.reduceSub, one, Nat.reduceLeDiff, runX_cons, y45_45, aq, ↓ap, qe0, qe1, qe2, *, -hK]; try (refine hK _ _ ?_; clear hK K; (try simp only [nq, ↓reduceIte, Nat.reduceEqDiff])))
  | (refine wpX_skip ?_; (try simp only [nq, ↓reduceIte, Nat.reduceEqDiff]))
  | (refine wpX_label ?_; (try simp only [nq, ↓reduceIte, Nat.reduceEqDiff]))
  | (refine wpX_exit ?_; (try simp only [nq, ↓reduceIte, Nat.reduceEqDiff]))
  | (refine wpX_goto ?_; (try simp only [nq, ↓reduceIte, Nat.reduceEqDiff]))
  | (refine wpX_condK (by simp only [act_eval, upd_get, Nat.reduceEqDiff, Nat.reduceLT, ↓reduceIte, *]; rfl) ?_ ?_ <;> (intro hc; first | (exfalso; simp -implicitDefEqProofs (disch := omega) only [*, bq, reduceCtorEq] at hc; done) | (simp only [dq, qe3, qe4, qe5, qe6] at hc) | skip))
  | (refine wpX_scope0 ?_)
  | (refine wpX_block ?_)
  | (refine wpX_seq ?_))
          (refine wpX_ret ?_; (try simp only [nq, ↓reduceIte, Nat.reduceEqDiff]); rw [bodyX_ret, results_one Tryd.results45 (by decide)]; simp only [upd_get, Nat.reduceEqDiff, ↓reduceIte])
          exact ⟨false, L', rfl, hP3, fun h => by cases h⟩
        | true =>
          replace hL := hL rfl
          subst hL
          (try simp -implicitDefEqProofs (disch := first | omega | (simp only [qd] <;> omega)) only [xq, ↓xp, qc, Nat.reduceAdd, List.range, List.range.loop, fine, Nat.reduceEqDiff, ↓reduceIte, yielded, reduceCtorEq, Nat.reduceLT, Nat.reduceMul, Nat.reduceSub, one, Nat.reduceLeDiff, runX_cons, y45_45, aq, ↓ap, qe0, qe1, qe2, *, -hK]); try (refine hK _ _ ?_; clear hK K; (try simp only [nq, ↓reduceIte, Nat.reduceEqDiff])); repeat' (first
  | (refine wpX_stmtL rfl ?_; intro K hK; simp -implicitDefEqProofs (disch := first | omega | (simp only [qd] <;> omega)) only [xq, ↓xp, qc, Nat.reduceAdd, List.range, List.range.loop, fine, Nat.reduceEqDiff, ↓reduceIte, yielded, reduceCtorEq, Nat.reduceLT, Nat.reduceMul, Nat.reduceSub, one, Nat.reduceLeDiff, runX_cons, y45_45, aq, ↓ap, qe0, qe1, qe2, *, -hK]; try (refine hK _ _ ?_; clear hK K))
  | (refine wpX_lastL rfl ?_; intro K hK; simp -implicitDefEqProofs (disch := first | omega | (simp only [qd] <;> omega)) only [xq, ↓xp, qc, Nat.reduceAdd, List.range, List.range.loop, fine, Nat.reduceEqDiff, ↓reduceIte, yielded, reduceCtorEq, Nat.reduceLT, Nat.reduceMul, Nat.reduceSub, one, Nat.reduceLeDiff, runX_cons, y45_45, aq, ↓ap, qe0, qe1, qe2, *, -hK]; try (refine hK _ _ ?_; clear hK K; (try simp only [nq, ↓reduceIte, Nat.reduceEqDiff])))
  | (refine wpX_skip ?_; (try simp only [nq, ↓reduceIte, Nat.reduceEqDiff]))
  | (refine wpX_label ?_; (try simp only [nq, ↓reduceIte, Nat.reduceEqDiff]))
  | (refine wpX_exit ?_; (try simp only [nq, ↓reduceIte, Nat.reduceEqDiff]))
  | (refine wpX_goto ?_; (try simp only [nq, ↓reduceIte, Nat.reduceEqDiff]))
  | (refine wpX_condK (by simp only [act_eval, upd_get, Nat.reduceEqDiff, Nat.reduceLT, ↓reduceIte, *]; rfl) ?_ ?_ <;> (intro hc; first | (exfalso; simp -implicitDefEqProofs (disch := omega) only [*, bq, reduceCtorEq] at hc; done) | (simp only [dq, qe3, qe4, qe5, qe6] at hc) | skip))
  | (refine wpX_scope0 ?_)
  | (refine wpX_block ?_)
  | (refine wpX_seq ?_))
          exact ⟨_, by omega, _, i + 1, rfl, hlt, rfl, e0, e4, e19, rfl, hP3⟩
      · obtain rfl : i = k := by omega
        repeat' (first
  | (refine wpX_stmtL rfl ?_; intro K hK; simp -implicitDefEqProofs (disch := first | omega | (simp only [qd] <;> omega)) only [xq, ↓xp, qc, Nat.reduceAdd, List.range, List.range.loop, fine, Nat.reduceEqDiff, ↓reduceIte, yielded, reduceCtorEq, Nat.reduceLT, Nat.reduceMul, Nat.reduceSub, one, Nat.reduceLeDiff, runX_cons, y45_45, aq, ↓ap, qe0, qe1, qe2, *, -hK]; try (refine hK _ _ ?_; clear hK K))
  | (refine wpX_lastL rfl ?_; intro K hK; simp -implicitDefEqProofs (disch := first | omega | (simp only [qd] <;> omega)) only [xq, ↓xp, qc, Nat.reduceAdd, List.range, List.range.loop, fine, Nat.reduceEqDiff, ↓reduceIte, yielded, reduceCtorEq, Nat.reduceLT, Nat.reduceMul, Nat.reduceSub, one, Nat.reduceLeDiff, runX_cons, y45_45, aq, ↓ap, qe0, qe1, qe2, *, -hK]; try (refine hK _ _ ?_; clear hK K; (try simp only [nq, ↓reduceIte, Nat.reduceEqDiff])))
  | (refine wpX_skip ?_; (try simp only [nq, ↓reduceIte, Nat.reduceEqDiff]))
  | (refine wpX_label ?_; (try simp only [nq, ↓reduceIte, Nat.reduceEqDiff]))
  | (refine wpX_exit ?_; (try simp only [nq, ↓reduceIte, Nat.reduceEqDiff]))
  | (refine wpX_goto ?_; (try simp only [nq, ↓reduceIte, Nat.reduceEqDiff]))
  | (refine wpX_condK (by simp only [act_eval, upd_get, Nat.reduceEqDiff, Nat.reduceLT, ↓reduceIte, *]; rfl) ?_ ?_ <;> (intro hc; first | (exfalso; simp -implicitDefEqProofs (disch := omega) only [*, bq, reduceCtorEq] at hc; done) | (simp only [dq, qe3, qe4, qe5, qe6] at hc) | skip))
  | (refine wpX_scope0 ?_)
  | (refine wpX_block ?_)
  | (refine wpX_seq ?_))
        (refine wpX_ret ?_; (try simp only [nq, ↓reduceIte, Nat.reduceEqDiff]); rw [bodyX_ret, results_one Tryd.results45 (by decide)]; simp only [upd_get, Nat.reduceEqDiff, ↓reduceIte])
        exact ⟨true, _, rfl, hP2, fun _ => by rw [hmin]⟩

theorem plansOf_spec (main : Bool) {S : Nat → Prop} {A : List Int → Prop} {T : Bool → List (List Int) → Hp → Prop} {yf : Fn} {yi yc : Array Value} {thisb : Nat} (m N : Nat) (hm : m ≤ 1000) (hN : N ≤ 1000) (hC : Client Tryd.prog main (.func yf yi yc) S (fun H v xs => SlI H v xs) A T)
    (hthis : ∀ L H, T true L H → ∃ hb n v ja jc, H thisb = some (true, .cells #[.pointer (some ⟨hb, 0, none⟩)] 64 (0, 0)) ∧ H hb = some (true, HN.obj n v (.slice ja N jc)) ∧ n.load = m)
    (H : Hp) (hT : T true [] H) (hA : ∀ l ∈ comps m N, A l) :
    FnX Tryd.prog main 42 #[.func yf yi yc, .pointer (some ⟨thisb, 0, none⟩)] H fun e H' => ∃ t L' v, e = .returned v ∧ T t L' H' ∧ (t = true → L' = comps m N) := by
  refine FnX_start Tryd.func42 rfl Tryd.ntmps42 (by simp) ?_
  repeat' (first
  | (refine wpX_stmtL rfl ?_; intro K hK; simp -implicitDefEqProofs (disch := first | omega | (simp only [qd] <;> omega)) only [xq, ↓xp, qc, Nat.reduceAdd, List.range, List.range.loop, fine, Nat.reduceEqDiff, ↓reduceIte, yielded, reduceCtorEq, Nat.reduceLT, Nat.reduceMul, Nat.reduceSub, one, Nat.reduceLeDiff, runX_cons, y42_45, aq, ↓ap, qe0, qe1, qe2, *, -hK, cells_func, cells_nilFunc]; try (refine hK _ _ ?_; clear hK K))
  | (refine wpX_lastL rfl ?_; intro K hK; simp -implicitDefEqProofs (disch := first | omega | (simp only [qd] <;> omega)) only [xq, ↓xp, qc, Nat.reduceAdd, List.range, List.range.loop, fine, Nat.reduceEqDiff, ↓reduceIte, yielded, reduceCtorEq, Nat.reduceLT, Nat.reduceMul, Nat.reduceSub, one, Nat.reduceLeDiff, runX_cons, y42_45, aq, ↓ap, qe0, qe1, qe2, *, -hK, cells_func, cells_nilFunc]; try (refine hK _ _ ?_; clear hK K; (try simp only [nq, ↓reduceIte, Nat.reduceEqDiff])))
  | (refine wpX_skip ?_; (try simp only [nq, ↓reduceIte, Nat.reduceEqDiff]))
  | (refine wpX_label ?_; (try simp only [nq, ↓reduceIte, Nat.reduceEqDiff]))
  | (refine wpX_exit ?_; (try simp only [nq, ↓reduceIte, Nat.reduceEqDiff]))
  | (refine wpX_goto ?_; (try simp only [nq, ↓reduceIte, Nat.reduceEqDiff]))
  | (refine wpX_condK (by simp only [act_eval, upd_get, Nat.reduceEqDiff, Nat.reduceLT, ↓reduceIte, *]; rfl) ?_ ?_ <;> (intro hc; first | (exfalso; simp -implicitDefEqProofs (disch := omega) only [*, bq, reduceCtorEq] at hc; done) | (simp only [dq, qe3, qe4, qe5, qe6] at hc) | skip))
  | (refine wpX_scope0 ?_)
  | (refine wpX_block ?_)
  | (refine wpX_seq ?_))
  (intro yb hyb; generalize hG : Hp.set _ yb _ = H1; have lH1 := le_of_set hG hyb; have vyb := at_of_set hG; clear hG)
  have ny : ¬ S yb := fun h => hC.ex _ _ _ _ hT h hyb
  replace hT := hC.keep _ _ _ _ hT fun b x _ hx => lH1 _ _ hx
  clear hyb lH1
  (try simp -implicitDefEqProofs (disch := first | omega | (simp only [qd] <;> omega)) only [xq, ↓xp, qc, Nat.reduceAdd, List.range, List.range.loop, fine, Nat.reduceEqDiff, ↓reduceIte, yielded, reduceCtorEq, Nat.reduceLT, Nat.reduceMul, Nat.reduceSub, one, Nat.reduceLeDiff, runX_cons, y42_45, aq, ↓ap, qe0, qe1, qe2, *, -hK, cells_func, cells_nilFunc]); try (refine hK _ _ ?_; clear hK K; (try simp only [nq, ↓reduceIte, Nat.reduceEqDiff])); repeat' (first
  | (refine wpX_stmtL rfl ?_; intro K hK; simp -implicitDefEqProofs (disch := first | omega | (simp only [qd] <;> omega)) only [xq, ↓xp, qc, Nat.reduceAdd, List.range, List.range.loop, fine, Nat.reduceEqDiff, ↓reduceIte, yielded, reduceCtorEq, Nat.reduceLT, Nat.reduceMul, Nat.reduceSub, one, Nat.reduceLeDiff, runX_cons, y42_45, aq, ↓ap, qe0, qe1, qe2, *, -hK, cells_func, cells_nilFunc]; try (refine hK _ _ ?_; clear hK K))
  | (refine wpX_lastL rfl ?_; intro K hK; simp -implicitDefEqProofs (disch := first | omega | (simp only [qd] <;> omega)) only [xq, ↓xp, qc, Nat.reduceAdd, List.range, List.range.loop, fine, Nat.reduceEqDiff, ↓reduceIte, yielded, reduceCtorEq, Nat.reduceLT, Nat.reduceMul, Nat.reduceSub, one, Nat.reduceLeDiff, runX_cons, y42_45, aq, ↓ap, qe0, qe1, qe2, *, -hK, cells_func, cells_nilFunc]; try (refine hK _ _ ?_; clear hK K; (try simp only [nq, ↓reduceIte, Nat.reduceEqDiff])))
  | (refine wpX_skip ?_; (try simp only [nq, ↓reduceIte, Nat.reduceEqDiff]))
  | (refine wpX_label ?_; (try simp only [nq, ↓reduceIte, Nat.reduceEqDiff]))
  | (refine wpX_exit ?_; (try simp only [nq, ↓reduceIte, Nat.reduceEqDiff]))
  | (refine wpX_goto ?_; (try simp only [nq, ↓reduceIte, Nat.reduceEqDiff]))
  | (refine wpX_condK (by simp only [act_eval, upd_get, Nat.reduceEqDiff, Nat.reduceLT, ↓reduceIte, *]; rfl) ?_ ?_ <;> (intro hc; first | (exfalso; simp -implicitDefEqProofs (disch := omega) only [*, bq, reduceCtorEq] at hc; done) | (simp only [dq, qe3, qe4, qe5, qe6] at hc) | skip))
  | (refine wpX_scope0 ?_)
  | (refine wpX_block ?_)
  | (refine wpX_seq ?_))
  (intro tb htb; generalize hG : Hp.set _ tb _ = H2; have lH2 := le_of_set hG htb; have vtb := at_of_set hG; clear hG)
  have nt : ¬ S tb := fun h => hC.ex _ _ _ _ hT h htb
  have vyb2 := lH2 _ _ vyb
  replace hT := hC.keep _ _ _ _ hT fun b x _ hx => lH2 _ _ hx
  clear htb lH2 vyb
  (try simp -implicitDefEqProofs (disch := first | omega | (simp only [qd] <;> omega)) only [xq, ↓xp, qc, Nat.reduceAdd, List.range, List.range.loop, fine, Nat.reduceEqDiff, ↓reduceIte, yielded, reduceCtorEq, Nat.reduceLT, Nat.reduceMul, Nat.reduceSub, one, Nat.reduceLeDiff, runX_cons, y42_45, aq, ↓ap, qe0, qe1, qe2, *, -hK, cells_func, cells_nilFunc]); try (refine hK _ _ ?_; clear hK K; (try simp only [nq, ↓reduceIte, Nat.reduceEqDiff])); repeat' (first
  | (refine wpX_stmtL rfl ?_; intro K hK; simp -implicitDefEqProofs (disch := first | omega | (simp only [qd] <;> omega)) only [xq, ↓xp, qc, Nat.reduceAdd, List.range, List.range.loop, fine, Nat.reduceEqDiff, ↓reduceIte, yielded, reduceCtorEq, Nat.reduceLT, Nat.reduceMul, Nat.reduceSub, one, Nat.reduceLeDiff, runX_cons, y42_45, aq, ↓ap, qe0, qe1, qe2, *, -hK, cells_func, cells_nilFunc]; try (refine hK _ _ ?_; clear hK K))
  | (refine wpX_lastL rfl ?_; intro K hK; simp -implicitDefEqProofs (disch := first | omega | (simp only [qd] <;> omega)) only [xq, ↓xp, qc, Nat.reduceAdd, List.range, List.range.loop, fine, Nat.reduceEqDiff, ↓reduceIte, yielded, reduceCtorEq, Nat.reduceLT, Nat.reduceMul, Nat.reduceSub, one, Nat.reduceLeDiff, runX_cons, y42_45, aq, ↓ap, qe0, qe1, qe2, *, -hK, cells_func, cells_nilFunc]; try (refine hK _ _ ?_; clear hK K; (try simp only [nq, ↓reduceIte, Nat.reduceEqDiff])))
  | (refine wpX_skip ?_; (try simp only [nq, ↓reduceIte, Nat.reduceEqDiff]))
  | (refine wpX_label ?_; (try simp only [nq, ↓reduceIte, Nat.reduceEqDiff]))
  | (refine wpX_exit ?_; (try simp only [nq, ↓reduceIte, Nat.reduceEqDiff]))
  | (refine wpX_goto ?_; (try simp only [nq, ↓reduceIte, Nat.reduceEqDiff]))
  | (refine wpX_condK (by simp only [act_eval, upd_get, Nat.reduceEqDiff, Nat.reduceLT, ↓reduceIte, *]; rfl) ?_ ?_ <;> (intro hc; first | (exfalso; simp -implicitDefEqProofs (disch := omega) only [*, bq, reduceCtorEq] at hc; done) | (simp only [dq, qe3, qe4, qe5, qe6] at hc) | skip))
  | (refine wpX_scope0 ?_)
  | (refine wpX_block ?_)
  | (refine wpX_seq ?_))
  (intro gb hgb; generalize hG : Hp.set _ gb _ = H3; have lH3 := le_of_set hG hgb; have vgb := at_of_set hG; clear hG)
  have ng : ¬ S gb := fun h => hC.ex _ _ _ _ hT h hgb
  have vyb3 := lH3 _ _ vyb2
  have vtb3 := lH3 _ _ vtb
  replace hT := hC.keep _ _ _ _ hT fun b x _ hx => lH3 _ _ hx
  clear hgb lH3 vyb2 vtb
  (try simp -implicitDefEqProofs (disch := first | omega | (simp only [qd] <;> omega)) only [xq, ↓xp, qc, Nat.reduceAdd, List.range, List.range.loop, fine, Nat.reduceEqDiff, ↓reduceIte, yielded, reduceCtorEq, Nat.reduceLT, Nat.reduceMul, Nat.reduceSub, one, Nat.reduceLeDiff, runX_cons, y42_45, aq, ↓ap, qe0, qe1, qe2, *, -hK, cells_func, cells_nilFunc]); try (refine hK _ _ ?_; clear hK K; (try simp only [nq, ↓reduceIte, Nat.reduceEqDiff])); repeat' (first
  | (refine wpX_stmtL rfl ?_; intro K hK; simp -implicitDefEqProofs (disch := first | omega | (simp only [qd] <;> omega)) only [xq, ↓xp, qc, Nat.reduceAdd, List.range, List.range.loop, fine, Nat.reduceEqDiff, ↓reduceIte, yielded, reduceCtorEq, Nat.reduceLT, Nat.reduceMul, Nat.reduceSub, one, Nat.reduceLeDiff, runX_cons, y42_45, aq, ↓ap, qe0, qe1, qe2, *, -hK, cells_func, cells_nilFunc]; try (refine hK _ _ ?_; clear hK K))
  | (refine wpX_lastL rfl ?_; intro K hK; simp -implicitDefEqProofs (disch := first | omega | (simp only [qd] <;> omega)) only [xq, ↓xp, qc, Nat.reduceAdd, List.range, List.range.loop, fine, Nat.reduceEqDiff, ↓reduceIte, yielded, reduceCtorEq, Nat.reduceLT, Nat.reduceMul, Nat.reduceSub, one, Nat.reduceLeDiff, runX_cons, y42_45, aq, ↓ap, qe0, qe1, qe2, *, -hK, cells_func, cells_nilFunc]; try (refine hK _ _ ?_; clear hK K; (try simp only [nq, ↓reduceIte, Nat.reduceEqDiff])))
  | (refine wpX_skip ?_; (try simp only [nq, ↓reduceIte, Nat.reduceEqDiff]))
  | (refine wpX_label ?_; (try simp only [nq, ↓reduceIte, Nat.reduceEqDiff]))
  | (refine wpX_exit ?_; (try simp only [nq, ↓reduceIte, Nat.reduceEqDiff]))
  | (refine wpX_goto ?_; (try simp only [nq, ↓reduceIte, Nat.reduceEqDiff]))
  | (refine wpX_condK (by simp only [act_eval, upd_get, Nat.reduceEqDiff, Nat.reduceLT, ↓reduceIte, *]; rfl) ?_ ?_ <;> (intro hc; first | (exfalso; simp -implicitDefEqProofs (disch := omega) only [*, bq, reduceCtorEq] at hc; done) | (simp only [dq, qe3, qe4, qe5, qe6] at hc) | skip))
  | (refine wpX_scope0 ?_)
  | (refine wpX_block ?_)
  | (refine wpX_seq ?_))
  intro ob hob
  have no : ¬ S ob := fun h => hC.ex _ _ _ _ hT h hob
  have ngo : gb ≠ ob := ne_new vgb hob
  (try simp -implicitDefEqProofs (disch := first | omega | (simp only [qd] <;> omega)) only [xq, ↓xp, qc, Nat.reduceAdd, List.range, List.range.loop, fine, Nat.reduceEqDiff, ↓reduceIte, yielded, reduceCtorEq, Nat.reduceLT, Nat.reduceMul, Nat.reduceSub, one, Nat.reduceLeDiff, runX_cons, y42_45, aq, ↓ap, qe0, qe1, qe2, *, -hK, cells_func, cells_nilFunc]); try (refine hK _ _ ?_; clear hK K; (try simp only [nq, ↓reduceIte, Nat.reduceEqDiff])); repeat' (first
  | (refine wpX_stmtL rfl ?_; intro K hK; simp -implicitDefEqProofs (disch := first | omega | (simp only [qd] <;> omega)) only [xq, ↓xp, qc, Nat.reduceAdd, List.range, List.range.loop, fine, Nat.reduceEqDiff, ↓reduceIte, yielded, reduceCtorEq, Nat.reduceLT, Nat.reduceMul, Nat.reduceSub, one, Nat.reduceLeDiff, runX_cons, y42_45, aq, ↓ap, qe0, qe1, qe2, *, -hK, cells_func, cells_nilFunc]; try (refine hK _ _ ?_; clear hK K))
  | (refine wpX_lastL rfl ?_; intro K hK; simp -implicitDefEqProofs (disch := first | omega | (simp only [qd] <;> omega)) only [xq, ↓xp, qc, Nat.reduceAdd, List.range, List.range.loop, fine, Nat.reduceEqDiff, ↓reduceIte, yielded, reduceCtorEq, Nat.reduceLT, Nat.reduceMul, Nat.reduceSub, one, Nat.reduceLeDiff, runX_cons, y42_45, aq, ↓ap, qe0, qe1, qe2, *, -hK, cells_func, cells_nilFunc]; try (refine hK _ _ ?_; clear hK K; (try simp only [nq, ↓reduceIte, Nat.reduceEqDiff])))
  | (refine wpX_skip ?_; (try simp only [nq, ↓reduceIte, Nat.reduceEqDiff]))
  | (refine wpX_label ?_; (try simp only [nq, ↓reduceIte, Nat.reduceEqDiff]))
  | (refine wpX_exit ?_; (try simp only [nq, ↓reduceIte, Nat.reduceEqDiff]))
  | (refine wpX_goto ?_; (try simp only [nq, ↓reduceIte, Nat.reduceEqDiff]))
  | (refine wpX_condK (by simp only [act_eval, upd_get, Nat.reduceEqDiff, Nat.reduceLT, ↓reduceIte, *]; rfl) ?_ ?_ <;> (intro hc; first | (exfalso; simp -implicitDefEqProofs (disch := omega) only [*, bq, reduceCtorEq] at hc; done) | (simp only [dq, qe3, qe4, qe5, qe6] at hc) | skip))
  | (refine wpX_scope0 ?_)
  | (refine wpX_block ?_)
  | (refine wpX_seq ?_))
  generalize hG : Hp.set H3 ob _ = H4
  have lH4 := le_of_set hG hob
  have vob := at_of_set hG
  clear hG
  have vyb4 := lH4 _ _ vyb3
  have vtb4 := lH4 _ _ vtb3
  have vgb4 := lH4 _ _ vgb
  replace hT := hC.keep _ _ _ _ hT fun b x _ hx => lH4 _ _ hx
  clear hob lH4 vyb3 vtb3 vgb
  (try simp -implicitDefEqProofs (disch := first | omega | (simp only [qd] <;> omega)) only [xq, ↓xp, qc, Nat.reduceAdd, List.range, List.range.loop, fine, Nat.reduceEqDiff, ↓reduceIte, yielded, reduceCtorEq, Nat.reduceLT, Nat.reduceMul, Nat.reduceSub, one, Nat.reduceLeDiff, runX_cons, y42_45, aq, ↓ap, qe0, qe1, qe2, *, -hK, cells_func, cells_nilFunc]); try (refine hK _ _ ?_; clear hK K; (try simp only [nq, ↓reduceIte, Nat.reduceEqDiff])); repeat' (first
  | (refine wpX_stmtL rfl ?_; intro K hK; simp -implicitDefEqProofs (disch := first | omega | (simp only [qd] <;> omega)) only [xq, ↓xp, qc, Nat.reduceAdd, List.range, List.range.loop, fine, Nat.reduceEqDiff, ↓reduceIte, yielded, reduceCtorEq, Nat.reduceLT, Nat.reduceMul, Nat.reduceSub, one, Nat.reduceLeDiff, runX_cons, y42_45, aq, ↓ap, qe0, qe1, qe2, *, -hK, cells_func, cells_nilFunc]; try (refine hK _ _ ?_; clear hK K))
  | (refine wpX_lastL rfl ?_; intro K hK; simp -implicitDefEqProofs (disch := first | omega | (simp only [qd] <;> omega)) only [xq, ↓xp, qc, Nat.reduceAdd, List.range, List.range.loop, fine, Nat.reduceEqDiff, ↓reduceIte, yielded, reduceCtorEq, Nat.reduceLT, Nat.reduceMul, Nat.reduceSub, one, Nat.reduceLeDiff, runX_cons, y42_45, aq, ↓ap, qe0, qe1, qe2, *, -hK, cells_func, cells_nilFunc]; try (refine hK _ _ ?_; clear hK K; (try simp only [nq, ↓reduceIte, Nat.reduceEqDiff])))
  | (refine wpX_skip ?_; (try simp only [nq, ↓reduceIte, Nat.reduceEqDiff]))
  | (refine wpX_label ?_; (try simp only [nq, ↓reduceIte, Nat.reduceEqDiff]))
  | (refine wpX_exit ?_; (try simp only [nq, ↓reduceIte, Nat.reduceEqDiff]))
  | (refine wpX_goto ?_; (try simp only [nq, ↓reduceIte, Nat.reduceEqDiff]))
  | (refine wpX_condK (by simp only [act_eval, upd_get, Nat.reduceEqDiff, Nat.reduceLT, ↓reduceIte, *]; rfl) ?_ ?_ <;> (intro hc; first | (exfalso; simp -implicitDefEqProofs (disch := omega) only [*, bq, reduceCtorEq] at hc; done) | (simp only [dq, qe3, qe4, qe5, qe6] at hc) | skip))
  | (refine wpX_scope0 ?_)
  | (refine wpX_block ?_)
  | (refine wpX_seq ?_))
  have ngy : yb ≠ gb := fun e => by rw [e, vgb4] at vyb4; cases vyb4
  have ngt : tb ≠ gb := fun e => by rw [e, vgb4] at vtb4; cases vtb4
  generalize hG : Hp.set H4 gb _ = H5
  have hP : Plans S T (.func yf yi yc) yb tb gb ob thisb true [] [] H5 := by
    subst hG
    refine ⟨hC.keep _ _ _ _ hT fun b x hb hx => ?_, ?_, set_at, ?_, ⟨.slice none 0 0, ?_, .inl ⟨rfl, rfl⟩, fun b hb => by cases hb⟩, ny, ng, no, nt⟩
    · rw [set_ne (fun e : b = gb => ng (by rw [← e]; exact hb))]; exact hx
    · rw [set_ne ngy]; exact vyb4
    · rw [set_ne (fun e => ngo e.symm)]; exact vob
    · rw [set_ne ngt]; exact vtb4
  clear hG vyb4 vtb4 vgb4 vob hT ngy ngt ngo
  obtain ⟨hb, n, v, ja, jc, vth, vhb, hload⟩ := hthis _ _ hP.cl
  simp only [HN.obj] at vhb
  have vgb := hP.vg
  have hg := grow_spec main m hm hC (fun L H hT => by obtain ⟨hb, n, v, ja, jc, h⟩ := hthis L H hT; exact ⟨hb, n, v, _, h⟩) N hN [] (by simpa using hN) [] H5 hP (by simpa using hA)
  clear hload hP
  (refine wpX_dst1 6 [(true, 0), (true, 1), (true, 2), (true, 3), (true, 4), (true, 5), (false, 6)] (by kernel_rfl) (by kernel_rfl) (by simp) (by kernel_rfl) ?_; intro K hK; (iterate 6 (apply plan_take rfl rfl rfl; (focus (simp -implicitDefEqProofs (disch := first | omega | (simp only [qd] <;> omega)) only [xq, ↓xp, qc, Nat.reduceAdd, List.range, List.range.loop, fine, Nat.reduceEqDiff, ↓reduceIte, yielded, reduceCtorEq, Nat.reduceLT, Nat.reduceMul, Nat.reduceSub, one, Nat.reduceLeDiff, runX_cons, y42_45, aq, ↓ap, qe0, qe1, qe2, *, -hK, YN_value] <;> (first | exact rfl | exact ⟨rfl, rfl⟩ | exact ⟨rfl, trivial⟩))); simp -implicitDefEqProofs (disch := first | omega | (simp only [qd] <;> omega)) only [act_put, act_put_none])); refine plan_tail ?_; simp -implicitDefEqProofs (disch := first | omega | (simp only [qd] <;> omega)) only [xq, ↓xp, qc, Nat.reduceAdd, List.range, List.range.loop, fine, Nat.reduceEqDiff, ↓reduceIte, yielded, reduceCtorEq, Nat.reduceLT, Nat.reduceMul, Nat.reduceSub, one, Nat.reduceLeDiff, runX_cons, y42_45, aq, ↓ap, qe0, qe1, qe2, *, -hK]; try (refine hK _ _ ?_; clear hK K; (try simp only [nq, ↓reduceIte, Nat.reduceEqDiff])))
  rw [callF45, uponX_enterK]
  simp only [Array.empty_append, List.append_toArray, List.cons_append, List.nil_append]
  refine hg.runs.mono ?_
  clear hg hA
  rintro _ H6 ⟨t, L', rfl, hP6, hL⟩
  (try simp -implicitDefEqProofs (disch := first | omega | (simp only [qd] <;> omega)) only [xq, ↓xp, qc, Nat.reduceAdd, List.range, List.range.loop, fine, Nat.reduceEqDiff, ↓reduceIte, yielded, reduceCtorEq, Nat.reduceLT, Nat.reduceMul, Nat.reduceSub, one, Nat.reduceLeDiff, runX_cons, y42_45, aq, ↓ap, qe0, qe1, qe2, *, -hK]); try (refine hK _ _ ?_; clear hK K; (try simp only [nq, ↓reduceIte, Nat.reduceEqDiff])); repeat' (first
  | (refine wpX_stmtL rfl ?_; intro K hK; simp -implicitDefEqProofs (disch := first | omega | (simp only [qd] <;> omega)) only [xq, ↓xp, qc, Nat.reduceAdd, List.range, List.range.loop, fine, Nat.reduceEqDiff, ↓reduceIte, yielded, reduceCtorEq, Nat.reduceLT, Nat.reduceMul, Nat.reduceSub, one, Nat.reduceLeDiff, runX_cons, y42_45, aq, ↓ap, qe0, qe1, qe2, *, -hK]; try (refine hK _ _ ?_; clear hK K))
  | (refine wpX_lastL rfl ?_; intro K hK; simp -implicitDefEqProofs (disch := first | omega | (simp only [qd] <;> omega)) only [xq, ↓xp, qc, Nat.reduceAdd, List.range, List.range.loop, fine, Nat.reduceEqDiff, ↓reduceIte, yielded, reduceCtorEq, Nat.reduceLT, Nat.reduceMul, Nat.reduceSub, one, Nat.reduceLeDiff, runX_cons, y42_45, aq, ↓ap, qe0, qe1, qe2, *, -hK]; try (refine hK _ _ ?_; clear hK K; (try simp only [nq, ↓reduceIte, Nat.reduceEqDiff])))
  | (refine wpX_skip ?_; (try simp only [nq, ↓reduceIte, Nat.reduceEqDiff]))
  | (refine wpX_label ?_; (try simp only [nq, ↓reduceIte, Nat.reduceEqDiff]))
  | (refine wpX_exit ?_; (try simp only [nq, ↓reduceIte, Nat.reduceEqDiff]))
  | (refine wpX_goto ?_; (try simp only [nq, ↓reduceIte, Nat.reduceEqDiff]))
  | (refine wpX_condK (by simp only [act_eval, upd_get, Nat.reduceEqDiff, Nat.reduceLT, ↓reduceIte, *]; rfl) ?_ ?_ <;> (intro hc; first | (exfalso; simp -implicitDefEqProofs (disch := omega) only [*, bq, reduceCtorEq] at hc; done) | (simp only [dq, qe3, qe4, qe5, qe6] at hc) | skip))
  | (refine wpX_scope0 ?_)
  | (refine wpX_block ?_)
  | (refine wpX_seq ?_))
  ((try simp only [nq, ↓reduceIte, Nat.reduceEqDiff]); rw [bodyX_normal, results_zero Tryd.results42])
  exact ⟨t, L', _, rfl, hP6.cl, fun h => by simpa using hL h⟩
theorem plans_spec (main : Bool) (H : Hp) (hb : Nat) :
    FnX Tryd.prog main 21 #[.pointer (some ⟨hb, 0, none⟩)] H fun e H' => ∃ thisb, e = .returned (.func (.func 42) #[] #[.pointer (some ⟨thisb, 0, none⟩)]) ∧ H' thisb = some (true, .cells #[.pointer (some ⟨hb, 0, none⟩)] 64 (0, 0)) ∧ H.le H' := by
  refine FnX_start Tryd.func21 rfl Tryd.ntmps21 (by simp) ?_
  repeat' (first
  | (refine wpX_stmtL rfl ?_; intro K hK; simp -implicitDefEqProofs (disch := first | omega | (simp only [qd] <;> omega)) only [xq, ↓xp, qc, Nat.reduceAdd, List.range, List.range.loop, fine, Nat.reduceEqDiff, ↓reduceIte, yielded, reduceCtorEq, Nat.reduceLT, Nat.reduceMul, Nat.reduceSub, one, Nat.reduceLeDiff, runX_cons, aq, ↓ap, qe0, qe1, qe2, *, -hK]; try (refine hK _ _ ?_; clear hK K))
  | (refine wpX_lastL rfl ?_; intro K hK; simp -implicitDefEqProofs (disch := first | omega | (simp only [qd] <;> omega)) only [xq, ↓xp, qc, Nat.reduceAdd, List.range, List.range.loop, fine, Nat.reduceEqDiff, ↓reduceIte, yielded, reduceCtorEq, Nat.reduceLT, Nat.reduceMul, Nat.reduceSub, one, Nat.reduceLeDiff, runX_cons, aq, ↓ap, qe0, qe1, qe2, *, -hK]; try (refine hK _ _ ?_; clear hK K; (try simp only [nq, ↓reduceIte, Nat.reduceEqDiff])))
  | (refine wpX_skip ?_; (try simp only [nq, ↓reduceIte, Nat.reduceEqDiff]))
  | (refine wpX_label ?_; (try simp only [nq, ↓reduceIte, Nat.reduceEqDiff]))
  | (refine wpX_exit ?_; (try simp only [nq, ↓reduceIte, Nat.reduceEqDiff]))
  | (refine wpX_goto ?_; (try simp only [nq, ↓reduceIte, Nat.reduceEqDiff]))
  | (refine wpX_condK (by simp only [act_eval, upd_get, Nat.reduceEqDiff, Nat.reduceLT, ↓reduceIte, *]; rfl) ?_ ?_ <;> (intro hc; first | (exfalso; simp -implicitDefEqProofs (disch := omega) only [*, bq, reduceCtorEq] at hc; done) | (simp only [dq, qe3, qe4, qe5, qe6] at hc) | skip))
  | (refine wpX_scope0 ?_)
  | (refine wpX_block ?_)
  | (refine wpX_seq ?_))
  (intro thisb hthisb; generalize hG : Hp.set _ thisb _ = H1; have lH1 := le_of_set hG hthisb; have vthisb := at_of_set hG; clear hG)
  (try simp -implicitDefEqProofs (disch := first | omega | (simp only [qd] <;> omega)) only [xq, ↓xp, qc, Nat.reduceAdd, List.range, List.range.loop, fine, Nat.reduceEqDiff, ↓reduceIte, yielded, reduceCtorEq, Nat.reduceLT, Nat.reduceMul, Nat.reduceSub, one, Nat.reduceLeDiff, runX_cons, aq, ↓ap, qe0, qe1, qe2, *, -hK]); try (refine hK _ _ ?_; clear hK K; (try simp only [nq, ↓reduceIte, Nat.reduceEqDiff])); repeat' (first
  | (refine wpX_stmtL rfl ?_; intro K hK; simp -implicitDefEqProofs (disch := first | omega | (simp only [qd] <;> omega)) only [xq, ↓xp, qc, Nat.reduceAdd, List.range, List.range.loop, fine, Nat.reduceEqDiff, ↓reduceIte, yielded, reduceCtorEq, Nat.reduceLT, Nat.reduceMul, Nat.reduceSub, one, Nat.reduceLeDiff, runX_cons, aq, ↓ap, qe0, qe1, qe2, *, -hK]; try (refine hK _ _ ?_; clear hK K))
  | (refine wpX_lastL rfl ?_; intro K hK; simp -implicitDefEqProofs (disch := first | omega | (simp only [qd] <;> omega)) only [xq, ↓xp, qc, Nat.reduceAdd, List.range, List.range.loop, fine, Nat.reduceEqDiff, ↓reduceIte, yielded, reduceCtorEq, Nat.reduceLT, Nat.reduceMul, Nat.reduceSub, one, Nat.reduceLeDiff, runX_cons, aq, ↓ap, qe0, qe1, qe2, *, -hK]; try (refine hK _ _ ?_; clear hK K; (try simp only [nq, ↓reduceIte, Nat.reduceEqDiff])))
  | (refine wpX_skip ?_; (try simp only [nq, ↓reduceIte, Nat.reduceEqDiff]))
  | (refine wpX_label ?_; (try simp only [nq, ↓reduceIte, Nat.reduceEqDiff]))
  | (refine wpX_exit ?_; (try simp only [nq, ↓reduceIte, Nat.reduceEqDiff]))
  | (refine wpX_goto ?_; (try simp only [nq, ↓reduceIte, Nat.reduceEqDiff]))
  | (refine wpX_condK (by simp only [act_eval, upd_get, Nat.reduceEqDiff, Nat.reduceLT, ↓reduceIte, *]; rfl) ?_ ?_ <;> (intro hc; first | (exfalso; simp -implicitDefEqProofs (disch := omega) only [*, bq, reduceCtorEq] at hc; done) | (simp only [dq, qe3, qe4, qe5, qe6] at hc) | skip))
  | (refine wpX_scope0 ?_)
  | (refine wpX_block ?_)
  | (refine wpX_seq ?_))
  (refine wpX_ret ?_; (try simp only [nq, ↓reduceIte, Nat.reduceEqDiff]); rw [bodyX_ret, results_one Tryd.results21 (by decide)]; simp only [upd_get, Nat.reduceEqDiff, ↓reduceIte])
  exact ⟨thisb, rfl, vthisb, lH1⟩
end Go.Proofs.YtiempdpjcddgfaaDoor
end
