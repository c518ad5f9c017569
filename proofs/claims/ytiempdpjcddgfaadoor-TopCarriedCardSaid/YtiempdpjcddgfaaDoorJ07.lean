/- Texts VRun BHaul Rows2 PlanT NewHaul. -/
import Derived.Test.YtiempdpjcddgfaaDoorJ06
section
/- vault.Run. -/
set_option linter.unusedSimpArgs false
set_option maxRecDepth 100000
set_option maxHeartbeats 1000000
set_option linter.unusedVariables false
namespace Go.Proofs.YtiempdpjcddgfaaDoor
open Go Go.X
set_option linter.defProp false
def y59_33 := And.intro (fun H => loadAt_aggE (H := H) Tryd.underlying25 rfl Tryd.sizeOf25) (And.intro @callF15 (And.intro @callF70 (And.intro @eqG_iface (And.intro @eqG_nil (And.intro (fun H => bin_eql_nil (H := H) Tryd.underlying155) (And.intro (fun H => bin_eql_iface (H := H) Tryd.underlying155) (And.intro (fun H => bin_neq_nil (H := H) Tryd.underlying155) (And.intro (fun H => bin_neq_iface (H := H) Tryd.underlying155) (And.intro (fun H => len_slice (H := H) Tryd.underlying22) (And.intro @callF71 (And.intro (fun H => ex_alloc (H := H) (P := Tryd.prog) (h := Tryd.zeroValue58)) (And.intro (fun H => storeAt_agg (H := H) Tryd.sizeOf58) (And.intro (fun H => slice_arr (H := H) Tryd.underlying58 Tryd.sizeOf3) (And.intro (fun H => slice_arr_hi (H := H) Tryd.underlying58 Tryd.sizeOf3) @callF61))))))))))))))
def y61_33 := And.intro @eqG_slice (And.intro (fun H => bin_eql_slice (H := H) Tryd.underlying22) (fun H => buildSlice0 (H := H) Tryd.underlying22 Tryd.sizeOf3))

theorem TruthOk.bnd {xss : List (List Int)} {ts : List Int} {places pieces : Int} {start : List Int} (h : TruthOk xss ts) (ho : VaultOk places pieces start xss) : ∀ t ∈ ts, 0 ≤ t ∧ t < 6 := by
  intro t ht
  obtain ⟨i, hi, rfl⟩ := List.getElem_of_mem ht
  have hix : i < xss.length := by rw [← h.1]; exact hi
  have := h.2 i ts[i] xss[i] (List.getElem?_eq_getElem hi) (List.getElem?_eq_getElem hix)
  have h2 := (ho.2.2.2.2.2.2.2 _ (List.getElem_mem hix)).2.2 _ this
  have h3 := ho.2.2.2.1
  omega
theorem rrun_ok (pl r : Int) (ts start : List Int) (hs6 : ∀ t ∈ start, 0 ≤ t ∧ t < 6) (h6 : ∀ t ∈ ts, 0 ≤ t ∧ t < 6) (hl : ts.length ≤ 1000) : ∀ i, i ≤ ts.length → RSOk (rrun pl r ts (rs0 start) i) i
  | 0, _ => ⟨oOf_lt start 0 (by omega) fun x hx => ⟨(hs6 x hx).1, (hs6 x hx).2⟩, initL_len _ _, initL_len _ _, by simp [rrun, rs0], fun x hx => by simp [rrun, rs0] at hx; omega, by simp [rrun, rs0], by simp [rrun, rs0]⟩
  | i + 1, h => by
    have := rrun_ok pl r ts start hs6 h6 hl i (by omega)
    have hg : ts.getD i 0 = ts[i]'(by omega) := by simp [List.getD, List.getElem?_eq_getElem (show i < ts.length by omega)]
    have hb := h6 _ (List.getElem_mem (show i < ts.length by omega))
    unfold rrun
    rw [hg]
    exact this.step pl r ts _ (by omega) hl hb.1 hb.2

theorem clone2_spec (m : Bool) (H : Hp) (b o n cap : Nat) (xs : List Int) (hx : ∀ (j : Nat) (y : Int), xs[j]? = some y → H.cell ⟨b, o + j, none⟩ = some (.int .i64 y)) (hn : xs.length = n) (hl : n ≤ 1000000) (hb : ∃ x, H b = some x) :
    FnX Tryd.prog m 61 #[.slice (some ⟨b, o, none⟩) n cap] H fun e H' => ∃ w, e = .returned w ∧ RowX none H H' w 3 (ints xs) := by
  obtain ⟨x0, hb⟩ := hb
  refine FnX_start Tryd.func61 rfl Tryd.ntmps61 (by simp) ?_
  repeat' (first
  | (refine wpX_stmtL rfl ?_; intro K hK; simp -implicitDefEqProofs (disch := first | omega | (simp only [qd] <;> omega)) only [xq, ↓xp, qc, Nat.reduceAdd, List.range, List.range.loop, fine, Nat.reduceEqDiff, ↓reduceIte, yielded, reduceCtorEq, Nat.reduceLT, Nat.reduceMul, Nat.reduceSub, one, Nat.reduceLeDiff, runX_cons, y61_33, aq, ↓ap, qe0, qe1, qe2, *, -hK, Option.isNone_some]; try (refine hK _ _ ?_; clear hK K))
  | (refine wpX_lastL rfl ?_; intro K hK; simp -implicitDefEqProofs (disch := first | omega | (simp only [qd] <;> omega)) only [xq, ↓xp, qc, Nat.reduceAdd, List.range, List.range.loop, fine, Nat.reduceEqDiff, ↓reduceIte, yielded, reduceCtorEq, Nat.reduceLT, Nat.reduceMul, Nat.reduceSub, one, Nat.reduceLeDiff, runX_cons, y61_33, aq, ↓ap, qe0, qe1, qe2, *, -hK, Option.isNone_some]; try (refine hK _ _ ?_; clear hK K; (try simp only [nq, ↓reduceIte, Nat.reduceEqDiff])))
  | (refine wpX_skip ?_; (try simp only [nq, ↓reduceIte, Nat.reduceEqDiff]))
  | (refine wpX_label ?_; (try simp only [nq, ↓reduceIte, Nat.reduceEqDiff]))
  | (refine wpX_exit ?_; (try simp only [nq, ↓reduceIte, Nat.reduceEqDiff]))
  | (refine wpX_goto ?_; (try simp only [nq, ↓reduceIte, Nat.reduceEqDiff]))
  | (refine wpX_condK (by simp only [act_eval, upd_get, Nat.reduceEqDiff, Nat.reduceLT, ↓reduceIte, *]; rfl) ?_ ?_ <;> (intro hc; first | (exfalso; simp -implicitDefEqProofs (disch := omega) only [*, bq, reduceCtorEq] at hc; done) | (simp only [dq, qe3, qe4, qe5, qe6] at hc) | skip))
  | (refine wpX_scope0 ?_)
  | (refine wpX_block ?_)
  | (refine wpX_seq ?_))
  intro nb hnb
  have hle : H.le (H.set nb (.cells #[] 3 (0, 0))) := Hp.le_set hnb
  have hrow0 : NewRow H (H.set nb (.cells #[] 3 (0, 0))) (.slice (some ⟨nb, 0, none⟩) 0 0) 3 1 0 (ints []) := .inr ⟨nb, #[], 0, hnb, rfl, rfl, rfl, rfl, Nat.le_refl _, fun i u hi => by simp [ints] at hi⟩
  have hgne : b ≠ nb := ne_new hb hnb
  (try simp -implicitDefEqProofs (disch := first | omega | (simp only [qd] <;> omega)) only [xq, ↓xp, qc, Nat.reduceAdd, List.range, List.range.loop, fine, Nat.reduceEqDiff, ↓reduceIte, yielded, reduceCtorEq, Nat.reduceLT, Nat.reduceMul, Nat.reduceSub, one, Nat.reduceLeDiff, runX_cons, y61_33, aq, ↓ap, qe0, qe1, qe2, *, -hK]); try (refine hK _ _ ?_; clear hK K; (try simp only [nq, ↓reduceIte, Nat.reduceEqDiff])); repeat' (first
  | (refine wpX_stmtL rfl ?_; intro K hK; simp -implicitDefEqProofs (disch := first | omega | (simp only [qd] <;> omega)) only [xq, ↓xp, qc, Nat.reduceAdd, List.range, List.range.loop, fine, Nat.reduceEqDiff, ↓reduceIte, yielded, reduceCtorEq, Nat.reduceLT, Nat.reduceMul, Nat.reduceSub, one, Nat.reduceLeDiff, runX_cons, y61_33, aq, ↓ap, qe0, qe1, qe2, *, -hK]; try (refine hK _ _ ?_; clear hK K))
  | (refine wpX_lastL rfl ?_; intro K hK; simp -implicitDefEqProofs (disch := first | omega | (simp only [qd] <;> omega)) only [xq, ↓xp, qc, Nat.reduceAdd, List.range, List.range.loop, fine, Nat.reduceEqDiff, ↓reduceIte, yielded, reduceCtorEq, Nat.reduceLT, Nat.reduceMul, Nat.reduceSub, one, Nat.reduceLeDiff, runX_cons, y61_33, aq, ↓ap, qe0, qe1, qe2, *, -hK]; try (refine hK _ _ ?_; clear hK K; (try simp only [nq, ↓reduceIte, Nat.reduceEqDiff])))
  | (refine wpX_skip ?_; (try simp only [nq, ↓reduceIte, Nat.reduceEqDiff]))
  | (refine wpX_label ?_; (try simp only [nq, ↓reduceIte, Nat.reduceEqDiff]))
  | (refine wpX_exit ?_; (try simp only [nq, ↓reduceIte, Nat.reduceEqDiff]))
  | (refine wpX_goto ?_; (try simp only [nq, ↓reduceIte, Nat.reduceEqDiff]))
  | (refine wpX_condK (by simp only [act_eval, upd_get, Nat.reduceEqDiff, Nat.reduceLT, ↓reduceIte, *]; rfl) ?_ ?_ <;> (intro hc; first | (exfalso; simp -implicitDefEqProofs (disch := omega) only [*, bq, reduceCtorEq] at hc; done) | (simp only [dq, qe3, qe4, qe5, qe6] at hc) | skip))
  | (refine wpX_scope0 ?_)
  | (refine wpX_block ?_)
  | (refine wpX_seq ?_))
  refine append_ints hrow0 (Hp.le_refl _) (ys := xs) hn (fun h => absurd h (by rw [hb]; simp)) (fun j y hj => ?_) (by omega) _ _ _ _ (fun v' H1 H2 hr hl2 => ?_)
  · rw [cell_set_ne hgne]
    exact hx j y hj
  · (try simp -implicitDefEqProofs (disch := first | omega | (simp only [qd] <;> omega)) only [xq, ↓xp, qc, Nat.reduceAdd, List.range, List.range.loop, fine, Nat.reduceEqDiff, ↓reduceIte, yielded, reduceCtorEq, Nat.reduceLT, Nat.reduceMul, Nat.reduceSub, one, Nat.reduceLeDiff, runX_cons, y61_33, aq, ↓ap, qe0, qe1, qe2, *, -hK]); try (refine hK _ _ ?_; clear hK K; (try simp only [nq, ↓reduceIte, Nat.reduceEqDiff])); repeat' (first
  | (refine wpX_stmtL rfl ?_; intro K hK; simp -implicitDefEqProofs (disch := first | omega | (simp only [qd] <;> omega)) only [xq, ↓xp, qc, Nat.reduceAdd, List.range, List.range.loop, fine, Nat.reduceEqDiff, ↓reduceIte, yielded, reduceCtorEq, Nat.reduceLT, Nat.reduceMul, Nat.reduceSub, one, Nat.reduceLeDiff, runX_cons, y61_33, aq, ↓ap, qe0, qe1, qe2, *, -hK]; try (refine hK _ _ ?_; clear hK K))
  | (refine wpX_lastL rfl ?_; intro K hK; simp -implicitDefEqProofs (disch := first | omega | (simp only [qd] <;> omega)) only [xq, ↓xp, qc, Nat.reduceAdd, List.range, List.range.loop, fine, Nat.reduceEqDiff, ↓reduceIte, yielded, reduceCtorEq, Nat.reduceLT, Nat.reduceMul, Nat.reduceSub, one, Nat.reduceLeDiff, runX_cons, y61_33, aq, ↓ap, qe0, qe1, qe2, *, -hK]; try (refine hK _ _ ?_; clear hK K; (try simp only [nq, ↓reduceIte, Nat.reduceEqDiff])))
  | (refine wpX_skip ?_; (try simp only [nq, ↓reduceIte, Nat.reduceEqDiff]))
  | (refine wpX_label ?_; (try simp only [nq, ↓reduceIte, Nat.reduceEqDiff]))
  | (refine wpX_exit ?_; (try simp only [nq, ↓reduceIte, Nat.reduceEqDiff]))
  | (refine wpX_goto ?_; (try simp only [nq, ↓reduceIte, Nat.reduceEqDiff]))
  | (refine wpX_condK (by simp only [act_eval, upd_get, Nat.reduceEqDiff, Nat.reduceLT, ↓reduceIte, *]; rfl) ?_ ?_ <;> (intro hc; first | (exfalso; simp -implicitDefEqProofs (disch := omega) only [*, bq, reduceCtorEq] at hc; done) | (simp only [dq, qe3, qe4, qe5, qe6] at hc) | skip))
  | (refine wpX_scope0 ?_)
  | (refine wpX_block ?_)
  | (refine wpX_seq ?_))
    (refine wpX_ret ?_; (try simp only [nq, ↓reduceIte, Nat.reduceEqDiff]); rw [bodyX_ret, results_one Tryd.results61 (by decide)]; simp only [upd_get, Nat.reduceEqDiff, ↓reduceIte])
    refine ⟨_, rfl, ?_⟩
    rcases hr with ⟨rfl, h0, hnil, hHe⟩ | ⟨b3, c3, cap3, hb3, rfl, rfl, hs3, hl3, hn3, hg3⟩
    · simp only [List.nil_append] at hnil
      rw [hnil]
      exact ⟨Lex.of (by rw [hHe] at hl2; exact hl2), .inl ⟨rfl, rfl⟩⟩
    · refine ⟨Lex.of (Hp.le_trans (Hp.le_set hb3) hl2), .inr ⟨b3, c3, cap3, hb3, hl2 _ _ set_at, ?_, by simpa using hs3, ?_, ?_⟩⟩
      · simp [ints, hn]
      · simp [ints]; omega
      · intro i u hi; exact hg3 i u (by simpa using hi)

theorem vrun_spec (main : Bool) (H : Hp) (places pieces : Int) (sv cv tv : Value) (start : List Int) (xss : List (List Int)) (ts : List Int) (hd : DayIn H places pieces sv cv tv start xss ts) (r : Int) (hr0 : 0 ≤ r) (hr3 : r ≤ 3) :
    FnX Tryd.prog main 59 #[.agg #[.int .i64 places, .int .i64 pieces, sv, cv], tv, .int .i64 r] H fun e H' => ∃ v, e = .returned (.tuple #[v, .int .i64 (rrun places r ts (rs0 start) ts.length).f, .int .i64 0]) ∧ H.le H' ∧ SlI H' v ((rrun places r ts (rs0 start) ts.length).cl.take ts.length) := by
  obtain ⟨sa, sn, sc, rfl⟩ := hd.st.isSlice
  obtain ⟨ca, cn, cc, rfl⟩ := hd.calls.isSlice
  have htv := hd.truth
  obtain ⟨ta, tc, rfl, htc, _⟩ := htv
  have hs6 : ∀ t ∈ start, 0 ≤ t ∧ t < 6 := fun t ht => by
    have h1 := hd.ok.2.2.2.2.2.2.1 t ht
    have h2 := hd.ok.2.2.2.1
    omega
  have hsl : start.length ≤ 1000 := by
    have h1 := hd.ok.2.2.2.2.1
    have h2 := hd.ok.2.1
    omega
  have htb := hd.true.bnd hd.ok
  have htl : ts.length ≤ 8 := by have h1 := hd.true.1; have h2 := hd.few; omega
  have hOk := rrun_ok places r ts start hs6 htb (by omega) ts.length (Nat.le_refl _)
  have hnil : ruleV r ≠ .nilIface := by unfold ruleV; simp
  refine FnX_start Tryd.func59 rfl Tryd.ntmps59 (by simp) ?_
  repeat' (first
  | (refine wpX_stmtL rfl ?_; intro K hK; simp -implicitDefEqProofs (disch := first | omega | (simp only [qd] <;> omega)) only [xq, ↓xp, qc, Nat.reduceAdd, List.range, List.range.loop, fine, Nat.reduceEqDiff, ↓reduceIte, yielded, reduceCtorEq, Nat.reduceLT, Nat.reduceMul, Nat.reduceSub, one, Nat.reduceLeDiff, runX_cons, y59_33, aq, ↓ap, qe0, qe1, qe2, *, -hK]; try (refine hK _ _ ?_; clear hK K))
  | (refine wpX_lastL rfl ?_; intro K hK; simp -implicitDefEqProofs (disch := first | omega | (simp only [qd] <;> omega)) only [xq, ↓xp, qc, Nat.reduceAdd, List.range, List.range.loop, fine, Nat.reduceEqDiff, ↓reduceIte, yielded, reduceCtorEq, Nat.reduceLT, Nat.reduceMul, Nat.reduceSub, one, Nat.reduceLeDiff, runX_cons, y59_33, aq, ↓ap, qe0, qe1, qe2, *, -hK]; try (refine hK _ _ ?_; clear hK K; (try simp only [nq, ↓reduceIte, Nat.reduceEqDiff])))
  | (refine wpX_skip ?_; (try simp only [nq, ↓reduceIte, Nat.reduceEqDiff]))
  | (refine wpX_label ?_; (try simp only [nq, ↓reduceIte, Nat.reduceEqDiff]))
  | (refine wpX_exit ?_; (try simp only [nq, ↓reduceIte, Nat.reduceEqDiff]))
  | (refine wpX_goto ?_; (try simp only [nq, ↓reduceIte, Nat.reduceEqDiff]))
  | (refine wpX_condK (by simp only [act_eval, upd_get, Nat.reduceEqDiff, Nat.reduceLT, ↓reduceIte, *]; rfl) ?_ ?_ <;> (intro hc; first | (exfalso; simp -implicitDefEqProofs (disch := omega) only [*, bq, reduceCtorEq] at hc; done) | (simp only [dq, qe3, qe4, qe5, qe6] at hc) | skip))
  | (refine wpX_scope0 ?_)
  | (refine wpX_block ?_)
  | (refine wpX_seq ?_))
  (intro vb hvb; generalize hG : Hp.set _ vb _ = H1; have lH1 := le_of_set hG hvb; have vvb := at_of_set hG; clear hG)
  have hd1 := hd.le lH1
  (try simp -implicitDefEqProofs (disch := first | omega | (simp only [qd] <;> omega)) only [xq, ↓xp, qc, Nat.reduceAdd, List.range, List.range.loop, fine, Nat.reduceEqDiff, ↓reduceIte, yielded, reduceCtorEq, Nat.reduceLT, Nat.reduceMul, Nat.reduceSub, one, Nat.reduceLeDiff, runX_cons, y59_33, aq, ↓ap, qe0, qe1, qe2, *, -hK]); try (refine hK _ _ ?_; clear hK K; (try simp only [nq, ↓reduceIte, Nat.reduceEqDiff])); repeat' (first
  | (refine wpX_stmtL rfl ?_; intro K hK; simp -implicitDefEqProofs (disch := first | omega | (simp only [qd] <;> omega)) only [xq, ↓xp, qc, Nat.reduceAdd, List.range, List.range.loop, fine, Nat.reduceEqDiff, ↓reduceIte, yielded, reduceCtorEq, Nat.reduceLT, Nat.reduceMul, Nat.reduceSub, one, Nat.reduceLeDiff, runX_cons, y59_33, aq, ↓ap, qe0, qe1, qe2, *, -hK]; try (refine hK _ _ ?_; clear hK K))
  | (refine wpX_lastL rfl ?_; intro K hK; simp -implicitDefEqProofs (disch := first | omega | (simp only [qd] <;> omega)) only [xq, ↓xp, qc, Nat.reduceAdd, List.range, List.range.loop, fine, Nat.reduceEqDiff, ↓reduceIte, yielded, reduceCtorEq, Nat.reduceLT, Nat.reduceMul, Nat.reduceSub, one, Nat.reduceLeDiff, runX_cons, y59_33, aq, ↓ap, qe0, qe1, qe2, *, -hK]; try (refine hK _ _ ?_; clear hK K; (try simp only [nq, ↓reduceIte, Nat.reduceEqDiff])))
  | (refine wpX_skip ?_; (try simp only [nq, ↓reduceIte, Nat.reduceEqDiff]))
  | (refine wpX_label ?_; (try simp only [nq, ↓reduceIte, Nat.reduceEqDiff]))
  | (refine wpX_exit ?_; (try simp only [nq, ↓reduceIte, Nat.reduceEqDiff]))
  | (refine wpX_goto ?_; (try simp only [nq, ↓reduceIte, Nat.reduceEqDiff]))
  | (refine wpX_condK (by simp only [act_eval, upd_get, Nat.reduceEqDiff, Nat.reduceLT, ↓reduceIte, *]; rfl) ?_ ?_ <;> (intro hc; first | (exfalso; simp -implicitDefEqProofs (disch := omega) only [*, bq, reduceCtorEq] at hc; done) | (simp only [dq, qe3, qe4, qe5, qe6] at hc) | skip))
  | (refine wpX_scope0 ?_)
  | (refine wpX_block ?_)
  | (refine wpX_seq ?_))
  refine (begin_spec main H1 places pieces _ _ _ start xss ts hd1).runs.mono ?_
  rintro _ H2 ⟨db, mb, rfl, lH2, hdm, hdb, hmb, vdb, vmb⟩
  have hd2 := hd1.le lH2
  (try simp -implicitDefEqProofs (disch := first | omega | (simp only [qd] <;> omega)) only [xq, ↓xp, qc, Nat.reduceAdd, List.range, List.range.loop, fine, Nat.reduceEqDiff, ↓reduceIte, yielded, reduceCtorEq, Nat.reduceLT, Nat.reduceMul, Nat.reduceSub, one, Nat.reduceLeDiff, runX_cons, y59_33, aq, ↓ap, qe0, qe1, qe2, *, -hK]); try (refine hK _ _ ?_; clear hK K; (try simp only [nq, ↓reduceIte, Nat.reduceEqDiff])); repeat' (first
  | (refine wpX_stmtL rfl ?_; intro K hK; simp -implicitDefEqProofs (disch := first | omega | (simp only [qd] <;> omega)) only [xq, ↓xp, qc, Nat.reduceAdd, List.range, List.range.loop, fine, Nat.reduceEqDiff, ↓reduceIte, yielded, reduceCtorEq, Nat.reduceLT, Nat.reduceMul, Nat.reduceSub, one, Nat.reduceLeDiff, runX_cons, y59_33, aq, ↓ap, qe0, qe1, qe2, *, -hK]; try (refine hK _ _ ?_; clear hK K))
  | (refine wpX_lastL rfl ?_; intro K hK; simp -implicitDefEqProofs (disch := first | omega | (simp only [qd] <;> omega)) only [xq, ↓xp, qc, Nat.reduceAdd, List.range, List.range.loop, fine, Nat.reduceEqDiff, ↓reduceIte, yielded, reduceCtorEq, Nat.reduceLT, Nat.reduceMul, Nat.reduceSub, one, Nat.reduceLeDiff, runX_cons, y59_33, aq, ↓ap, qe0, qe1, qe2, *, -hK]; try (refine hK _ _ ?_; clear hK K; (try simp only [nq, ↓reduceIte, Nat.reduceEqDiff])))
  | (refine wpX_skip ?_; (try simp only [nq, ↓reduceIte, Nat.reduceEqDiff]))
  | (refine wpX_label ?_; (try simp only [nq, ↓reduceIte, Nat.reduceEqDiff]))
  | (refine wpX_exit ?_; (try simp only [nq, ↓reduceIte, Nat.reduceEqDiff]))
  | (refine wpX_goto ?_; (try simp only [nq, ↓reduceIte, Nat.reduceEqDiff]))
  | (refine wpX_condK (by simp only [act_eval, upd_get, Nat.reduceEqDiff, Nat.reduceLT, ↓reduceIte, *]; rfl) ?_ ?_ <;> (intro hc; first | (exfalso; simp -implicitDefEqProofs (disch := omega) only [*, bq, reduceCtorEq] at hc; done) | (simp only [dq, qe3, qe4, qe5, qe6] at hc) | skip))
  | (refine wpX_scope0 ?_)
  | (refine wpX_block ?_)
  | (refine wpX_seq ?_))
  refine (ruleOf_spec main H2 r hr0 hr3).runs.mono ?_
  rintro _ H3 ⟨rfl, hH3⟩
  rw [hH3]; clear hH3 H3
  (try simp -implicitDefEqProofs (disch := first | omega | (simp only [qd] <;> omega)) only [xq, ↓xp, qc, Nat.reduceAdd, List.range, List.range.loop, fine, Nat.reduceEqDiff, ↓reduceIte, yielded, reduceCtorEq, Nat.reduceLT, Nat.reduceMul, Nat.reduceSub, one, Nat.reduceLeDiff, runX_cons, y59_33, aq, ↓ap, qe0, qe1, qe2, *, -hK]); try (refine hK _ _ ?_; clear hK K; (try simp only [nq, ↓reduceIte, Nat.reduceEqDiff])); repeat' (first
  | (refine wpX_stmtL rfl ?_; intro K hK; simp -implicitDefEqProofs (disch := first | omega | (simp only [qd] <;> omega)) only [xq, ↓xp, qc, Nat.reduceAdd, List.range, List.range.loop, fine, Nat.reduceEqDiff, ↓reduceIte, yielded, reduceCtorEq, Nat.reduceLT, Nat.reduceMul, Nat.reduceSub, one, Nat.reduceLeDiff, runX_cons, y59_33, aq, ↓ap, qe0, qe1, qe2, *, -hK]; try (refine hK _ _ ?_; clear hK K))
  | (refine wpX_lastL rfl ?_; intro K hK; simp -implicitDefEqProofs (disch := first | omega | (simp only [qd] <;> omega)) only [xq, ↓xp, qc, Nat.reduceAdd, List.range, List.range.loop, fine, Nat.reduceEqDiff, ↓reduceIte, yielded, reduceCtorEq, Nat.reduceLT, Nat.reduceMul, Nat.reduceSub, one, Nat.reduceLeDiff, runX_cons, y59_33, aq, ↓ap, qe0, qe1, qe2, *, -hK]; try (refine hK _ _ ?_; clear hK K; (try simp only [nq, ↓reduceIte, Nat.reduceEqDiff])))
  | (refine wpX_skip ?_; (try simp only [nq, ↓reduceIte, Nat.reduceEqDiff]))
  | (refine wpX_label ?_; (try simp only [nq, ↓reduceIte, Nat.reduceEqDiff]))
  | (refine wpX_exit ?_; (try simp only [nq, ↓reduceIte, Nat.reduceEqDiff]))
  | (refine wpX_goto ?_; (try simp only [nq, ↓reduceIte, Nat.reduceEqDiff]))
  | (refine wpX_condK (by simp only [act_eval, upd_get, Nat.reduceEqDiff, Nat.reduceLT, ↓reduceIte, *]; rfl) ?_ ?_ <;> (intro hc; first | (exfalso; simp -implicitDefEqProofs (disch := omega) only [*, bq, reduceCtorEq] at hc; done) | (simp only [dq, qe3, qe4, qe5, qe6] at hc) | skip))
  | (refine wpX_scope0 ?_)
  | (refine wpX_block ?_)
  | (refine wpX_seq ?_))
  refine (run_spec main H2 db places pieces _ _ _ ts mb vdb hd2.truth start hd2.st hs6 hsl htl htb r hr0 hr3).runs.mono ?_
  rintro _ H3 ⟨rfl, lH3⟩
  have hd3 := hd2.le lH3
  generalize hC : (rrun places r ts (rs0 start) ts.length).cl = C at *
  generalize (rrun places r ts (rs0 start) ts.length).f = F at *
  have hcl8 : C.length = 8 := by rw [← hC]; exact hOk.cl
  clear hC hOk
  match C, hcl8 with
  | [c0, c1, c2, c3, c4, c5, c6, c7], _ =>
  simp only [ints, List.map_cons, List.map_nil]
  (try simp -implicitDefEqProofs (disch := first | omega | (simp only [qd] <;> omega)) only [xq, ↓xp, qc, Nat.reduceAdd, List.range, List.range.loop, fine, Nat.reduceEqDiff, ↓reduceIte, yielded, reduceCtorEq, Nat.reduceLT, Nat.reduceMul, Nat.reduceSub, one, Nat.reduceLeDiff, runX_cons, y59_33, aq, ↓ap, qe0, qe1, qe2, *, -hK]); try (refine hK _ _ ?_; clear hK K; (try simp only [nq, ↓reduceIte, Nat.reduceEqDiff])); repeat' (first
  | (refine wpX_stmtL rfl ?_; intro K hK; simp -implicitDefEqProofs (disch := first | omega | (simp only [qd] <;> omega)) only [xq, ↓xp, qc, Nat.reduceAdd, List.range, List.range.loop, fine, Nat.reduceEqDiff, ↓reduceIte, yielded, reduceCtorEq, Nat.reduceLT, Nat.reduceMul, Nat.reduceSub, one, Nat.reduceLeDiff, runX_cons, y59_33, aq, ↓ap, qe0, qe1, qe2, *, -hK]; try (refine hK _ _ ?_; clear hK K))
  | (refine wpX_lastL rfl ?_; intro K hK; simp -implicitDefEqProofs (disch := first | omega | (simp only [qd] <;> omega)) only [xq, ↓xp, qc, Nat.reduceAdd, List.range, List.range.loop, fine, Nat.reduceEqDiff, ↓reduceIte, yielded, reduceCtorEq, Nat.reduceLT, Nat.reduceMul, Nat.reduceSub, one, Nat.reduceLeDiff, runX_cons, y59_33, aq, ↓ap, qe0, qe1, qe2, *, -hK]; try (refine hK _ _ ?_; clear hK K; (try simp only [nq, ↓reduceIte, Nat.reduceEqDiff])))
  | (refine wpX_skip ?_; (try simp only [nq, ↓reduceIte, Nat.reduceEqDiff]))
  | (refine wpX_label ?_; (try simp only [nq, ↓reduceIte, Nat.reduceEqDiff]))
  | (refine wpX_exit ?_; (try simp only [nq, ↓reduceIte, Nat.reduceEqDiff]))
  | (refine wpX_goto ?_; (try simp only [nq, ↓reduceIte, Nat.reduceEqDiff]))
  | (refine wpX_condK (by simp only [act_eval, upd_get, Nat.reduceEqDiff, Nat.reduceLT, ↓reduceIte, *]; rfl) ?_ ?_ <;> (intro hc; first | (exfalso; simp -implicitDefEqProofs (disch := omega) only [*, bq, reduceCtorEq] at hc; done) | (simp only [dq, qe3, qe4, qe5, qe6] at hc) | skip))
  | (refine wpX_scope0 ?_)
  | (refine wpX_block ?_)
  | (refine wpX_seq ?_))
  (intro cb hcb; generalize hG : Hp.set _ cb _ = H4; have lH4 := le_of_set hG hcb; have vcb := at_of_set hG; clear hG)
  (try simp -implicitDefEqProofs (disch := first | omega | (simp only [qd] <;> omega)) only [xq, ↓xp, qc, Nat.reduceAdd, List.range, List.range.loop, fine, Nat.reduceEqDiff, ↓reduceIte, yielded, reduceCtorEq, Nat.reduceLT, Nat.reduceMul, Nat.reduceSub, one, Nat.reduceLeDiff, runX_cons, y59_33, aq, ↓ap, qe0, qe1, qe2, *, -hK]); try (refine hK _ _ ?_; clear hK K; (try simp only [nq, ↓reduceIte, Nat.reduceEqDiff])); repeat' (first
  | (refine wpX_stmtL rfl ?_; intro K hK; simp -implicitDefEqProofs (disch := first | omega | (simp only [qd] <;> omega)) only [xq, ↓xp, qc, Nat.reduceAdd, List.range, List.range.loop, fine, Nat.reduceEqDiff, ↓reduceIte, yielded, reduceCtorEq, Nat.reduceLT, Nat.reduceMul, Nat.reduceSub, one, Nat.reduceLeDiff, runX_cons, y59_33, aq, ↓ap, qe0, qe1, qe2, *, -hK]; try (refine hK _ _ ?_; clear hK K))
  | (refine wpX_lastL rfl ?_; intro K hK; simp -implicitDefEqProofs (disch := first | omega | (simp only [qd] <;> omega)) only [xq, ↓xp, qc, Nat.reduceAdd, List.range, List.range.loop, fine, Nat.reduceEqDiff, ↓reduceIte, yielded, reduceCtorEq, Nat.reduceLT, Nat.reduceMul, Nat.reduceSub, one, Nat.reduceLeDiff, runX_cons, y59_33, aq, ↓ap, qe0, qe1, qe2, *, -hK]; try (refine hK _ _ ?_; clear hK K; (try simp only [nq, ↓reduceIte, Nat.reduceEqDiff])))
  | (refine wpX_skip ?_; (try simp only [nq, ↓reduceIte, Nat.reduceEqDiff]))
  | (refine wpX_label ?_; (try simp only [nq, ↓reduceIte, Nat.reduceEqDiff]))
  | (refine wpX_exit ?_; (try simp only [nq, ↓reduceIte, Nat.reduceEqDiff]))
  | (refine wpX_goto ?_; (try simp only [nq, ↓reduceIte, Nat.reduceEqDiff]))
  | (refine wpX_condK (by simp only [act_eval, upd_get, Nat.reduceEqDiff, Nat.reduceLT, ↓reduceIte, *]; rfl) ?_ ?_ <;> (intro hc; first | (exfalso; simp -implicitDefEqProofs (disch := omega) only [*, bq, reduceCtorEq] at hc; done) | (simp only [dq, qe3, qe4, qe5, qe6] at hc) | skip))
  | (refine wpX_scope0 ?_)
  | (refine wpX_block ?_)
  | (refine wpX_seq ?_))
  refine (clone2_spec main H4 cb 0 ts.length 8 ([c0, c1, c2, c3, c4, c5, c6, c7].take ts.length) (fun j y hj => ?_) (by simp; omega) (by omega) ⟨_, vcb⟩).runs.mono ?_
  · have hj2 : j < ts.length := by
      have := (List.getElem?_eq_some_iff.1 hj).1
      simp at this; omega
    rw [List.getElem?_take_of_lt hj2] at hj
    rw [Nat.zero_add, cell_of vcb]
    have := ints_get hj
    simpa [ints] using this
  · rintro _ H5 ⟨w, rfl, hrow⟩
    (try simp -implicitDefEqProofs (disch := first | omega | (simp only [qd] <;> omega)) only [xq, ↓xp, qc, Nat.reduceAdd, List.range, List.range.loop, fine, Nat.reduceEqDiff, ↓reduceIte, yielded, reduceCtorEq, Nat.reduceLT, Nat.reduceMul, Nat.reduceSub, one, Nat.reduceLeDiff, runX_cons, y59_33, aq, ↓ap, qe0, qe1, qe2, *, -hK]); try (refine hK _ _ ?_; clear hK K; (try simp only [nq, ↓reduceIte, Nat.reduceEqDiff])); repeat' (first
  | (refine wpX_stmtL rfl ?_; intro K hK; simp -implicitDefEqProofs (disch := first | omega | (simp only [qd] <;> omega)) only [xq, ↓xp, qc, Nat.reduceAdd, List.range, List.range.loop, fine, Nat.reduceEqDiff, ↓reduceIte, yielded, reduceCtorEq, Nat.reduceLT, Nat.reduceMul, Nat.reduceSub, one, Nat.reduceLeDiff, runX_cons, y59_33, aq, ↓ap, qe0, qe1, qe2, *, -hK]; try (refine hK _ _ ?_; clear hK K))
  | (refine wpX_lastL rfl ?_; intro K hK; simp -implicitDefEqProofs (disch := first | omega | (simp only [qd] <;> omega)) only [xq, ↓xp, qc, Nat.reduceAdd, List.range, List.range.loop, fine, Nat.reduceEqDiff, ↓reduceIte, yielded, reduceCtorEq, Nat.reduceLT, Nat.reduceMul, Nat.reduceSub, one, Nat.reduceLeDiff, runX_cons, y59_33, aq, ↓ap, qe0, qe1, qe2, *, -hK]; try (refine hK _ _ ?_; clear hK K; (try simp only [nq, ↓reduceIte, Nat.reduceEqDiff])))
  | (refine wpX_skip ?_; (try simp only [nq, ↓reduceIte, Nat.reduceEqDiff]))
  | (refine wpX_label ?_; (try simp only [nq, ↓reduceIte, Nat.reduceEqDiff]))
  | (refine wpX_exit ?_; (try simp only [nq, ↓reduceIte, Nat.reduceEqDiff]))
  | (refine wpX_goto ?_; (try simp only [nq, ↓reduceIte, Nat.reduceEqDiff]))
  | (refine wpX_condK (by simp only [act_eval, upd_get, Nat.reduceEqDiff, Nat.reduceLT, ↓reduceIte, *]; rfl) ?_ ?_ <;> (intro hc; first | (exfalso; simp -implicitDefEqProofs (disch := omega) only [*, bq, reduceCtorEq] at hc; done) | (simp only [dq, qe3, qe4, qe5, qe6] at hc) | skip))
  | (refine wpX_scope0 ?_)
  | (refine wpX_block ?_)
  | (refine wpX_seq ?_))
    (refine wpX_ret ?_; (try simp only [nq, ↓reduceIte, Nat.reduceEqDiff]); rw [bodyX_ret, results_three Tryd.results59 (by decide) (by decide) (by decide)]; simp only [upd_get, Nat.reduceEqDiff, ↓reduceIte])
    exact ⟨w, rfl, Hp.le_trans lH1 (Hp.le_trans lH2 (Hp.le_trans lH3 (Hp.le_trans lH4 hrow.1.toLe))), hrow.ints⟩
end Go.Proofs.YtiempdpjcddgfaaDoor
end
section
/- Hauls at work. -/
set_option linter.unusedSimpArgs false
set_option maxRecDepth 100000
set_option maxHeartbeats 1000000
set_option linter.unusedVariables false
namespace Go.Proofs.YtiempdpjcddgfaaDoor
open Go Go.X
set_option linter.defProp false
def y39_34 := And.intro (fun H => fieldAt_eq (H := H) Tryd.underlying29 (i := 0) rfl (off := 0) rfl Tryd.sizeOf25) (And.intro (fun H => loadAt_aggE (H := H) Tryd.underlying25 rfl Tryd.sizeOf25) (And.intro (fun H => fieldAt_eq (H := H) Tryd.underlying29 (i := 1) rfl (off := 4) rfl Tryd.sizeOf22) (And.intro (fun H => loadAt_one (H := H) Tryd.underlying22 rfl) (And.intro (fun H => fieldAt_eq (H := H) Tryd.underlying29 (i := 2) rfl (off := 5) rfl Tryd.sizeOf3) (And.intro (fun H => loadAt_one (H := H) Tryd.underlying3 rfl) (And.intro @callF59 (And.intro (fun H => fieldAt_eq (H := H) Tryd.underlying29 (i := 3) rfl (off := 6) rfl Tryd.sizeOf22) (And.intro (fun H => len_slice (H := H) Tryd.underlying22) (And.intro @callF60 (And.intro (fun H => fieldAt_eq (H := H) Tryd.underlying29 (i := 4) rfl (off := 7) rfl Tryd.sizeOf3) (And.intro @callF41 (And.intro (fun H => fieldAt_eq (H := H) Tryd.underlying29 (i := 5) rfl (off := 8) rfl Tryd.sizeOf3) (And.intro (fun H => fieldAt_eq (H := H) Tryd.underlying29 (i := 6) rfl (off := 9) rfl Tryd.sizeOf3) (And.intro (fun H => fieldAt_eq (H := H) Tryd.underlying29 (i := 7) rfl (off := 10) rfl Tryd.sizeOf27) (And.intro (fun H => fieldAt_eq (H := H) Tryd.underlying27 (i := 0) rfl (off := 0) rfl Tryd.sizeOf3) (fun H => fieldAt_eq (H := H) Tryd.underlying27 (i := 1) rfl (off := 1) rfl Tryd.sizeOf3))))))))))))))))

/-- A haul's numbers. -/
structure HN where
  places : Int
  pieces : Int
  rule : Int
  notice : Int
  load : Int
  barrows : Int
  lo : Int
  hi : Int
  start : List Int
  xss : List (List Int)
  ts : List Int
  xs : List Int
/-- A haul's slices. -/
structure HV where
  sv : Value
  cv : Value
  tv : Value
  xv : Value
def HN.agg (n : HN) (v : HV) : Value := .agg #[.int .i64 n.places, .int .i64 n.pieces, v.sv, v.cv, v.tv, .int .i64 n.rule, v.xv, .int .i64 n.notice, .int .i64 n.load, .int .i64 n.barrows, .int .i64 n.lo, .int .i64 n.hi]
structure HaulIn (H : Hp) (n : HN) (v : HV) : Prop where
  day : DayIn H n.places n.pieces v.sv v.cv v.tv n.start n.xss n.ts
  times : SlI H v.xv n.xs
  ok : TimesOk n.xss.length n.xs
  r0 : 0 ≤ n.rule
  r3 : n.rule ≤ 3
  n0 : 0 ≤ n.notice
  n30 : n.notice ≤ 30
  l1 : 1 ≤ n.load
  l3 : n.load ≤ 3
  b1 : 1 ≤ n.barrows
  b4 : n.barrows ≤ 4
  t1 : 1 ≤ n.lo
  t2 : n.lo ≤ n.hi
  t20 : n.hi ≤ 20
theorem HaulIn.le {H H' : Hp} {n : HN} {v : HV} (h : HaulIn H n v) (hl : H.le H') : HaulIn H' n v := { h with day := h.day.le hl, times := h.times.le hl }
theorem HaulIn.xlen {H : Hp} {n : HN} {v : HV} (h : HaulIn H n v) : n.xs.length = n.ts.length := by
  rw [h.ok.1, h.day.true.1]

theorem binside_spec (m : Bool) (H : Hp) (n lo hi : Int) (h0 : lo ≤ n) (h1 : n ≤ hi) :
    FnX Tryd.prog m 41 #[.int .i64 n, .int .i64 lo, .int .i64 hi] H fun e H' => e = .returned (.bool true) ∧ H' = H :=
  (bwithin_spec m H n lo hi).mono fun e H' ⟨he, hH⟩ => ⟨by rw [he, decide_eq_true h0, decide_eq_true h1]; rfl, hH⟩
theorem checkTimes2 (m : Bool) (H : Hp) (v : Value) (xs : List Int) (k : Nat) (hk : k = xs.length) (hv : SlI H v xs) {n : Nat} (hok : TimesOk n xs) (hl : xs.length ≤ 1000) :
    FnX Tryd.prog m 60 #[v, .int .i64 k] H fun e H' => e = .returned (.int .i64 0) ∧ H' = H := by
  subst hk
  exact checkTimes_spec m H v xs hv hok hl
theorem bcheck_spec (main : Bool) (H : Hp) (n : HN) (v : HV) (hd : HaulIn H n v) :
    FnX Tryd.prog main 39 #[n.agg v] H fun e H' => e = .returned (.int .i64 0) ∧ H.le H' := by
  obtain ⟨sv, cv, tv, xv⟩ := v
  obtain ⟨places, pieces, rule, notice, load, barrows, lo, hi, start, xss, ts, xs⟩ := n
  have hxl := hd.xlen
  replace hxl : xs.length ≤ ts.length ∧ ts.length ≤ xs.length := by simp only [] at hxl; omega
  obtain ⟨hday, htimes, hok, r0, r3, n0, n30, l1, l3, b1, b4, t1, t2, t20⟩ := hd
  simp only [] at hday htimes hok r0 r3 n0 n30 l1 l3 b1 b4 t1 t2 t20
  obtain ⟨sa, sn, sc, rfl⟩ := hday.st.isSlice
  obtain ⟨ca, cn, cc, rfl⟩ := hday.calls.isSlice
  have htv := hday.truth
  obtain ⟨ta, tc, rfl, htc, _⟩ := htv
  have hxv := htimes
  obtain ⟨xa, xc, rfl, hxc, _⟩ := hxv
  simp only [HN.agg]
  have hxl' : xs.length ≤ 1000 := by have := hday.true.1; have := hday.few; omega
  refine FnX_start Tryd.func39 rfl Tryd.ntmps39 (by simp) ?_
  repeat' (first
  | (refine wpX_stmtL rfl ?_; intro K hK; simp -implicitDefEqProofs (disch := first | omega | (simp only [qd] <;> omega)) only [xq, ↓xp, qc, Nat.reduceAdd, List.range, List.range.loop, fine, Nat.reduceEqDiff, ↓reduceIte, yielded, reduceCtorEq, Nat.reduceLT, Nat.reduceMul, Nat.reduceSub, one, Nat.reduceLeDiff, runX_cons, y39_34, aq, ↓ap, qe0, qe1, qe2, *, -hK]; try (refine hK _ _ ?_; clear hK K))
  | (refine wpX_lastL rfl ?_; intro K hK; simp -implicitDefEqProofs (disch := first | omega | (simp only [qd] <;> omega)) only [xq, ↓xp, qc, Nat.reduceAdd, List.range, List.range.loop, fine, Nat.reduceEqDiff, ↓reduceIte, yielded, reduceCtorEq, Nat.reduceLT, Nat.reduceMul, Nat.reduceSub, one, Nat.reduceLeDiff, runX_cons, y39_34, aq, ↓ap, qe0, qe1, qe2, *, -hK]; try (refine hK _ _ ?_; clear hK K; (try simp only [nq, ↓reduceIte, Nat.reduceEqDiff])))
  | (refine wpX_skip ?_; (try simp only [nq, ↓reduceIte, Nat.reduceEqDiff]))
  | (refine wpX_label ?_; (try simp only [nq, ↓reduceIte, Nat.reduceEqDiff]))
  | (refine wpX_exit ?_; (try simp only [nq, ↓reduceIte, Nat.reduceEqDiff]))
  | (refine wpX_goto ?_; (try simp only [nq, ↓reduceIte, Nat.reduceEqDiff]))
  | (refine wpX_condK (by simp only [act_eval, upd_get, Nat.reduceEqDiff, Nat.reduceLT, ↓reduceIte, *]; rfl) ?_ ?_ <;> (intro hc; first | (exfalso; simp -implicitDefEqProofs (disch := omega) only [*, bq, reduceCtorEq] at hc; done) | (simp only [dq, qe3, qe4, qe5, qe6] at hc) | skip))
  | (refine wpX_scope0 ?_)
  | (refine wpX_block ?_)
  | (refine wpX_seq ?_))
  (intro vb hvb; generalize hG : Hp.set _ vb _ = H1; have lH1 := le_of_set hG hvb; have vvb := at_of_set hG; clear hG)
  have hday1 := hday.le lH1
  have htimes1 := htimes.le lH1
  (try simp -implicitDefEqProofs (disch := first | omega | (simp only [qd] <;> omega)) only [xq, ↓xp, qc, Nat.reduceAdd, List.range, List.range.loop, fine, Nat.reduceEqDiff, ↓reduceIte, yielded, reduceCtorEq, Nat.reduceLT, Nat.reduceMul, Nat.reduceSub, one, Nat.reduceLeDiff, runX_cons, y39_34, aq, ↓ap, qe0, qe1, qe2, *, -hK]); try (refine hK _ _ ?_; clear hK K; (try simp only [nq, ↓reduceIte, Nat.reduceEqDiff])); repeat' (first
  | (refine wpX_stmtL rfl ?_; intro K hK; simp -implicitDefEqProofs (disch := first | omega | (simp only [qd] <;> omega)) only [xq, ↓xp, qc, Nat.reduceAdd, List.range, List.range.loop, fine, Nat.reduceEqDiff, ↓reduceIte, yielded, reduceCtorEq, Nat.reduceLT, Nat.reduceMul, Nat.reduceSub, one, Nat.reduceLeDiff, runX_cons, y39_34, aq, ↓ap, qe0, qe1, qe2, *, -hK]; try (refine hK _ _ ?_; clear hK K))
  | (refine wpX_lastL rfl ?_; intro K hK; simp -implicitDefEqProofs (disch := first | omega | (simp only [qd] <;> omega)) only [xq, ↓xp, qc, Nat.reduceAdd, List.range, List.range.loop, fine, Nat.reduceEqDiff, ↓reduceIte, yielded, reduceCtorEq, Nat.reduceLT, Nat.reduceMul, Nat.reduceSub, one, Nat.reduceLeDiff, runX_cons, y39_34, aq, ↓ap, qe0, qe1, qe2, *, -hK]; try (refine hK _ _ ?_; clear hK K; (try simp only [nq, ↓reduceIte, Nat.reduceEqDiff])))
  | (refine wpX_skip ?_; (try simp only [nq, ↓reduceIte, Nat.reduceEqDiff]))
  | (refine wpX_label ?_; (try simp only [nq, ↓reduceIte, Nat.reduceEqDiff]))
  | (refine wpX_exit ?_; (try simp only [nq, ↓reduceIte, Nat.reduceEqDiff]))
  | (refine wpX_goto ?_; (try simp only [nq, ↓reduceIte, Nat.reduceEqDiff]))
  | (refine wpX_condK (by simp only [act_eval, upd_get, Nat.reduceEqDiff, Nat.reduceLT, ↓reduceIte, *]; rfl) ?_ ?_ <;> (intro hc; first | (exfalso; simp -implicitDefEqProofs (disch := omega) only [*, bq, reduceCtorEq] at hc; done) | (simp only [dq, qe3, qe4, qe5, qe6] at hc) | skip))
  | (refine wpX_scope0 ?_)
  | (refine wpX_block ?_)
  | (refine wpX_seq ?_))
  refine (vrun_spec main H1 places pieces _ _ _ start xss ts hday1 rule r0 r3).runs.mono ?_
  rintro _ H2 ⟨w, rfl, lH2, _⟩
  have hday2 := hday1.le lH2
  have htimes2 := htimes1.le lH2
  have vvb2 := lH2 _ _ vvb
  (try simp -implicitDefEqProofs (disch := first | omega | (simp only [qd] <;> omega)) only [xq, ↓xp, qc, Nat.reduceAdd, List.range, List.range.loop, fine, Nat.reduceEqDiff, ↓reduceIte, yielded, reduceCtorEq, Nat.reduceLT, Nat.reduceMul, Nat.reduceSub, one, Nat.reduceLeDiff, runX_cons, y39_34, aq, ↓ap, qe0, qe1, qe2, *, -hK]); try (refine hK _ _ ?_; clear hK K; (try simp only [nq, ↓reduceIte, Nat.reduceEqDiff])); repeat' (first
  | (refine wpX_stmtL rfl ?_; intro K hK; simp -implicitDefEqProofs (disch := first | omega | (simp only [qd] <;> omega)) only [xq, ↓xp, qc, Nat.reduceAdd, List.range, List.range.loop, fine, Nat.reduceEqDiff, ↓reduceIte, yielded, reduceCtorEq, Nat.reduceLT, Nat.reduceMul, Nat.reduceSub, one, Nat.reduceLeDiff, runX_cons, y39_34, aq, ↓ap, qe0, qe1, qe2, *, -hK]; try (refine hK _ _ ?_; clear hK K))
  | (refine wpX_lastL rfl ?_; intro K hK; simp -implicitDefEqProofs (disch := first | omega | (simp only [qd] <;> omega)) only [xq, ↓xp, qc, Nat.reduceAdd, List.range, List.range.loop, fine, Nat.reduceEqDiff, ↓reduceIte, yielded, reduceCtorEq, Nat.reduceLT, Nat.reduceMul, Nat.reduceSub, one, Nat.reduceLeDiff, runX_cons, y39_34, aq, ↓ap, qe0, qe1, qe2, *, -hK]; try (refine hK _ _ ?_; clear hK K; (try simp only [nq, ↓reduceIte, Nat.reduceEqDiff])))
  | (refine wpX_skip ?_; (try simp only [nq, ↓reduceIte, Nat.reduceEqDiff]))
  | (refine wpX_label ?_; (try simp only [nq, ↓reduceIte, Nat.reduceEqDiff]))
  | (refine wpX_exit ?_; (try simp only [nq, ↓reduceIte, Nat.reduceEqDiff]))
  | (refine wpX_goto ?_; (try simp only [nq, ↓reduceIte, Nat.reduceEqDiff]))
  | (refine wpX_condK (by simp only [act_eval, upd_get, Nat.reduceEqDiff, Nat.reduceLT, ↓reduceIte, *]; rfl) ?_ ?_ <;> (intro hc; first | (exfalso; simp -implicitDefEqProofs (disch := omega) only [*, bq, reduceCtorEq] at hc; done) | (simp only [dq, qe3, qe4, qe5, qe6] at hc) | skip))
  | (refine wpX_scope0 ?_)
  | (refine wpX_block ?_)
  | (refine wpX_seq ?_))
  refine (checkTimes2 main H2 _ xs _ (by omega) htimes2 hok hxl').runs.mono ?_
  rintro _ H3 ⟨rfl, hH3⟩
  rw [hH3]; clear hH3 H3
  (try simp -implicitDefEqProofs (disch := first | omega | (simp only [qd] <;> omega)) only [xq, ↓xp, qc, Nat.reduceAdd, List.range, List.range.loop, fine, Nat.reduceEqDiff, ↓reduceIte, yielded, reduceCtorEq, Nat.reduceLT, Nat.reduceMul, Nat.reduceSub, one, Nat.reduceLeDiff, runX_cons, y39_34, aq, ↓ap, qe0, qe1, qe2, *, -hK]); try (refine hK _ _ ?_; clear hK K; (try simp only [nq, ↓reduceIte, Nat.reduceEqDiff])); repeat' (first
  | (refine wpX_stmtL rfl ?_; intro K hK; simp -implicitDefEqProofs (disch := first | omega | (simp only [qd] <;> omega)) only [xq, ↓xp, qc, Nat.reduceAdd, List.range, List.range.loop, fine, Nat.reduceEqDiff, ↓reduceIte, yielded, reduceCtorEq, Nat.reduceLT, Nat.reduceMul, Nat.reduceSub, one, Nat.reduceLeDiff, runX_cons, y39_34, aq, ↓ap, qe0, qe1, qe2, *, -hK]; try (refine hK _ _ ?_; clear hK K))
  | (refine wpX_lastL rfl ?_; intro K hK; simp -implicitDefEqProofs (disch := first | omega | (simp only [qd] <;> omega)) only [xq, ↓xp, qc, Nat.reduceAdd, List.range, List.range.loop, fine, Nat.reduceEqDiff, ↓reduceIte, yielded, reduceCtorEq, Nat.reduceLT, Nat.reduceMul, Nat.reduceSub, one, Nat.reduceLeDiff, runX_cons, y39_34, aq, ↓ap, qe0, qe1, qe2, *, -hK]; try (refine hK _ _ ?_; clear hK K; (try simp only [nq, ↓reduceIte, Nat.reduceEqDiff])))
  | (refine wpX_skip ?_; (try simp only [nq, ↓reduceIte, Nat.reduceEqDiff]))
  | (refine wpX_label ?_; (try simp only [nq, ↓reduceIte, Nat.reduceEqDiff]))
  | (refine wpX_exit ?_; (try simp only [nq, ↓reduceIte, Nat.reduceEqDiff]))
  | (refine wpX_goto ?_; (try simp only [nq, ↓reduceIte, Nat.reduceEqDiff]))
  | (refine wpX_condK (by simp only [act_eval, upd_get, Nat.reduceEqDiff, Nat.reduceLT, ↓reduceIte, *]; rfl) ?_ ?_ <;> (intro hc; first | (exfalso; simp -implicitDefEqProofs (disch := omega) only [*, bq, reduceCtorEq] at hc; done) | (simp only [dq, qe3, qe4, qe5, qe6] at hc) | skip))
  | (refine wpX_scope0 ?_)
  | (refine wpX_block ?_)
  | (refine wpX_seq ?_))
  refine (binside_spec main H2 notice 0 30 n0 n30).runs.mono ?_; rintro _ HQ ⟨rfl, hHQ⟩; rw [hHQ]; clear hHQ HQ; (try simp -implicitDefEqProofs (disch := first | omega | (simp only [qd] <;> omega)) only [xq, ↓xp, qc, Nat.reduceAdd, List.range, List.range.loop, fine, Nat.reduceEqDiff, ↓reduceIte, yielded, reduceCtorEq, Nat.reduceLT, Nat.reduceMul, Nat.reduceSub, one, Nat.reduceLeDiff, runX_cons, y39_34, aq, ↓ap, qe0, qe1, qe2, *, -hK]); try (refine hK _ _ ?_; clear hK K; (try simp only [nq, ↓reduceIte, Nat.reduceEqDiff])); repeat' (first
  | (refine wpX_stmtL rfl ?_; intro K hK; simp -implicitDefEqProofs (disch := first | omega | (simp only [qd] <;> omega)) only [xq, ↓xp, qc, Nat.reduceAdd, List.range, List.range.loop, fine, Nat.reduceEqDiff, ↓reduceIte, yielded, reduceCtorEq, Nat.reduceLT, Nat.reduceMul, Nat.reduceSub, one, Nat.reduceLeDiff, runX_cons, y39_34, aq, ↓ap, qe0, qe1, qe2, *, -hK]; try (refine hK _ _ ?_; clear hK K))
  | (refine wpX_lastL rfl ?_; intro K hK; simp -implicitDefEqProofs (disch := first | omega | (simp only [qd] <;> omega)) only [xq, ↓xp, qc, Nat.reduceAdd, List.range, List.range.loop, fine, Nat.reduceEqDiff, ↓reduceIte, yielded, reduceCtorEq, Nat.reduceLT, Nat.reduceMul, Nat.reduceSub, one, Nat.reduceLeDiff, runX_cons, y39_34, aq, ↓ap, qe0, qe1, qe2, *, -hK]; try (refine hK _ _ ?_; clear hK K; (try simp only [nq, ↓reduceIte, Nat.reduceEqDiff])))
  | (refine wpX_skip ?_; (try simp only [nq, ↓reduceIte, Nat.reduceEqDiff]))
  | (refine wpX_label ?_; (try simp only [nq, ↓reduceIte, Nat.reduceEqDiff]))
  | (refine wpX_exit ?_; (try simp only [nq, ↓reduceIte, Nat.reduceEqDiff]))
  | (refine wpX_goto ?_; (try simp only [nq, ↓reduceIte, Nat.reduceEqDiff]))
  | (refine wpX_condK (by simp only [act_eval, upd_get, Nat.reduceEqDiff, Nat.reduceLT, ↓reduceIte, *]; rfl) ?_ ?_ <;> (intro hc; first | (exfalso; simp -implicitDefEqProofs (disch := omega) only [*, bq, reduceCtorEq] at hc; done) | (simp only [dq, qe3, qe4, qe5, qe6] at hc) | skip))
  | (refine wpX_scope0 ?_)
  | (refine wpX_block ?_)
  | (refine wpX_seq ?_))
  refine (binside_spec main H2 load 1 3 l1 l3).runs.mono ?_; rintro _ HQ ⟨rfl, hHQ⟩; rw [hHQ]; clear hHQ HQ; (try simp -implicitDefEqProofs (disch := first | omega | (simp only [qd] <;> omega)) only [xq, ↓xp, qc, Nat.reduceAdd, List.range, List.range.loop, fine, Nat.reduceEqDiff, ↓reduceIte, yielded, reduceCtorEq, Nat.reduceLT, Nat.reduceMul, Nat.reduceSub, one, Nat.reduceLeDiff, runX_cons, y39_34, aq, ↓ap, qe0, qe1, qe2, *, -hK]); try (refine hK _ _ ?_; clear hK K; (try simp only [nq, ↓reduceIte, Nat.reduceEqDiff])); repeat' (first
  | (refine wpX_stmtL rfl ?_; intro K hK; simp -implicitDefEqProofs (disch := first | omega | (simp only [qd] <;> omega)) only [xq, ↓xp, qc, Nat.reduceAdd, List.range, List.range.loop, fine, Nat.reduceEqDiff, ↓reduceIte, yielded, reduceCtorEq, Nat.reduceLT, Nat.reduceMul, Nat.reduceSub, one, Nat.reduceLeDiff, runX_cons, y39_34, aq, ↓ap, qe0, qe1, qe2, *, -hK]; try (refine hK _ _ ?_; clear hK K))
  | (refine wpX_lastL rfl ?_; intro K hK; simp -implicitDefEqProofs (disch := first | omega | (simp only [qd] <;> omega)) only [xq, ↓xp, qc, Nat.reduceAdd, List.range, List.range.loop, fine, Nat.reduceEqDiff, ↓reduceIte, yielded, reduceCtorEq, Nat.reduceLT, Nat.reduceMul, Nat.reduceSub, one, Nat.reduceLeDiff, runX_cons, y39_34, aq, ↓ap, qe0, qe1, qe2, *, -hK]; try (refine hK _ _ ?_; clear hK K; (try simp only [nq, ↓reduceIte, Nat.reduceEqDiff])))
  | (refine wpX_skip ?_; (try simp only [nq, ↓reduceIte, Nat.reduceEqDiff]))
  | (refine wpX_label ?_; (try simp only [nq, ↓reduceIte, Nat.reduceEqDiff]))
  | (refine wpX_exit ?_; (try simp only [nq, ↓reduceIte, Nat.reduceEqDiff]))
  | (refine wpX_goto ?_; (try simp only [nq, ↓reduceIte, Nat.reduceEqDiff]))
  | (refine wpX_condK (by simp only [act_eval, upd_get, Nat.reduceEqDiff, Nat.reduceLT, ↓reduceIte, *]; rfl) ?_ ?_ <;> (intro hc; first | (exfalso; simp -implicitDefEqProofs (disch := omega) only [*, bq, reduceCtorEq] at hc; done) | (simp only [dq, qe3, qe4, qe5, qe6] at hc) | skip))
  | (refine wpX_scope0 ?_)
  | (refine wpX_block ?_)
  | (refine wpX_seq ?_))
  refine (binside_spec main H2 barrows 1 4 b1 b4).runs.mono ?_; rintro _ HQ ⟨rfl, hHQ⟩; rw [hHQ]; clear hHQ HQ; (try simp -implicitDefEqProofs (disch := first | omega | (simp only [qd] <;> omega)) only [xq, ↓xp, qc, Nat.reduceAdd, List.range, List.range.loop, fine, Nat.reduceEqDiff, ↓reduceIte, yielded, reduceCtorEq, Nat.reduceLT, Nat.reduceMul, Nat.reduceSub, one, Nat.reduceLeDiff, runX_cons, y39_34, aq, ↓ap, qe0, qe1, qe2, *, -hK]); try (refine hK _ _ ?_; clear hK K; (try simp only [nq, ↓reduceIte, Nat.reduceEqDiff])); repeat' (first
  | (refine wpX_stmtL rfl ?_; intro K hK; simp -implicitDefEqProofs (disch := first | omega | (simp only [qd] <;> omega)) only [xq, ↓xp, qc, Nat.reduceAdd, List.range, List.range.loop, fine, Nat.reduceEqDiff, ↓reduceIte, yielded, reduceCtorEq, Nat.reduceLT, Nat.reduceMul, Nat.reduceSub, one, Nat.reduceLeDiff, runX_cons, y39_34, aq, ↓ap, qe0, qe1, qe2, *, -hK]; try (refine hK _ _ ?_; clear hK K))
  | (refine wpX_lastL rfl ?_; intro K hK; simp -implicitDefEqProofs (disch := first | omega | (simp only [qd] <;> omega)) only [xq, ↓xp, qc, Nat.reduceAdd, List.range, List.range.loop, fine, Nat.reduceEqDiff, ↓reduceIte, yielded, reduceCtorEq, Nat.reduceLT, Nat.reduceMul, Nat.reduceSub, one, Nat.reduceLeDiff, runX_cons, y39_34, aq, ↓ap, qe0, qe1, qe2, *, -hK]; try (refine hK _ _ ?_; clear hK K; (try simp only [nq, ↓reduceIte, Nat.reduceEqDiff])))
  | (refine wpX_skip ?_; (try simp only [nq, ↓reduceIte, Nat.reduceEqDiff]))
  | (refine wpX_label ?_; (try simp only [nq, ↓reduceIte, Nat.reduceEqDiff]))
  | (refine wpX_exit ?_; (try simp only [nq, ↓reduceIte, Nat.reduceEqDiff]))
  | (refine wpX_goto ?_; (try simp only [nq, ↓reduceIte, Nat.reduceEqDiff]))
  | (refine wpX_condK (by simp only [act_eval, upd_get, Nat.reduceEqDiff, Nat.reduceLT, ↓reduceIte, *]; rfl) ?_ ?_ <;> (intro hc; first | (exfalso; simp -implicitDefEqProofs (disch := omega) only [*, bq, reduceCtorEq] at hc; done) | (simp only [dq, qe3, qe4, qe5, qe6] at hc) | skip))
  | (refine wpX_scope0 ?_)
  | (refine wpX_block ?_)
  | (refine wpX_seq ?_))
  refine (binside_spec main H2 lo 1 20 t1 (by omega)).runs.mono ?_; rintro _ HQ ⟨rfl, hHQ⟩; rw [hHQ]; clear hHQ HQ; (try simp -implicitDefEqProofs (disch := first | omega | (simp only [qd] <;> omega)) only [xq, ↓xp, qc, Nat.reduceAdd, List.range, List.range.loop, fine, Nat.reduceEqDiff, ↓reduceIte, yielded, reduceCtorEq, Nat.reduceLT, Nat.reduceMul, Nat.reduceSub, one, Nat.reduceLeDiff, runX_cons, y39_34, aq, ↓ap, qe0, qe1, qe2, *, -hK]); try (refine hK _ _ ?_; clear hK K; (try simp only [nq, ↓reduceIte, Nat.reduceEqDiff])); repeat' (first
  | (refine wpX_stmtL rfl ?_; intro K hK; simp -implicitDefEqProofs (disch := first | omega | (simp only [qd] <;> omega)) only [xq, ↓xp, qc, Nat.reduceAdd, List.range, List.range.loop, fine, Nat.reduceEqDiff, ↓reduceIte, yielded, reduceCtorEq, Nat.reduceLT, Nat.reduceMul, Nat.reduceSub, one, Nat.reduceLeDiff, runX_cons, y39_34, aq, ↓ap, qe0, qe1, qe2, *, -hK]; try (refine hK _ _ ?_; clear hK K))
  | (refine wpX_lastL rfl ?_; intro K hK; simp -implicitDefEqProofs (disch := first | omega | (simp only [qd] <;> omega)) only [xq, ↓xp, qc, Nat.reduceAdd, List.range, List.range.loop, fine, Nat.reduceEqDiff, ↓reduceIte, yielded, reduceCtorEq, Nat.reduceLT, Nat.reduceMul, Nat.reduceSub, one, Nat.reduceLeDiff, runX_cons, y39_34, aq, ↓ap, qe0, qe1, qe2, *, -hK]; try (refine hK _ _ ?_; clear hK K; (try simp only [nq, ↓reduceIte, Nat.reduceEqDiff])))
  | (refine wpX_skip ?_; (try simp only [nq, ↓reduceIte, Nat.reduceEqDiff]))
  | (refine wpX_label ?_; (try simp only [nq, ↓reduceIte, Nat.reduceEqDiff]))
  | (refine wpX_exit ?_; (try simp only [nq, ↓reduceIte, Nat.reduceEqDiff]))
  | (refine wpX_goto ?_; (try simp only [nq, ↓reduceIte, Nat.reduceEqDiff]))
  | (refine wpX_condK (by simp only [act_eval, upd_get, Nat.reduceEqDiff, Nat.reduceLT, ↓reduceIte, *]; rfl) ?_ ?_ <;> (intro hc; first | (exfalso; simp -implicitDefEqProofs (disch := omega) only [*, bq, reduceCtorEq] at hc; done) | (simp only [dq, qe3, qe4, qe5, qe6] at hc) | skip))
  | (refine wpX_scope0 ?_)
  | (refine wpX_block ?_)
  | (refine wpX_seq ?_))
  refine (binside_spec main H2 hi 1 20 (by omega) t20).runs.mono ?_; rintro _ HQ ⟨rfl, hHQ⟩; rw [hHQ]; clear hHQ HQ; (try simp -implicitDefEqProofs (disch := first | omega | (simp only [qd] <;> omega)) only [xq, ↓xp, qc, Nat.reduceAdd, List.range, List.range.loop, fine, Nat.reduceEqDiff, ↓reduceIte, yielded, reduceCtorEq, Nat.reduceLT, Nat.reduceMul, Nat.reduceSub, one, Nat.reduceLeDiff, runX_cons, y39_34, aq, ↓ap, qe0, qe1, qe2, *, -hK]); try (refine hK _ _ ?_; clear hK K; (try simp only [nq, ↓reduceIte, Nat.reduceEqDiff])); repeat' (first
  | (refine wpX_stmtL rfl ?_; intro K hK; simp -implicitDefEqProofs (disch := first | omega | (simp only [qd] <;> omega)) only [xq, ↓xp, qc, Nat.reduceAdd, List.range, List.range.loop, fine, Nat.reduceEqDiff, ↓reduceIte, yielded, reduceCtorEq, Nat.reduceLT, Nat.reduceMul, Nat.reduceSub, one, Nat.reduceLeDiff, runX_cons, y39_34, aq, ↓ap, qe0, qe1, qe2, *, -hK]; try (refine hK _ _ ?_; clear hK K))
  | (refine wpX_lastL rfl ?_; intro K hK; simp -implicitDefEqProofs (disch := first | omega | (simp only [qd] <;> omega)) only [xq, ↓xp, qc, Nat.reduceAdd, List.range, List.range.loop, fine, Nat.reduceEqDiff, ↓reduceIte, yielded, reduceCtorEq, Nat.reduceLT, Nat.reduceMul, Nat.reduceSub, one, Nat.reduceLeDiff, runX_cons, y39_34, aq, ↓ap, qe0, qe1, qe2, *, -hK]; try (refine hK _ _ ?_; clear hK K; (try simp only [nq, ↓reduceIte, Nat.reduceEqDiff])))
  | (refine wpX_skip ?_; (try simp only [nq, ↓reduceIte, Nat.reduceEqDiff]))
  | (refine wpX_label ?_; (try simp only [nq, ↓reduceIte, Nat.reduceEqDiff]))
  | (refine wpX_exit ?_; (try simp only [nq, ↓reduceIte, Nat.reduceEqDiff]))
  | (refine wpX_goto ?_; (try simp only [nq, ↓reduceIte, Nat.reduceEqDiff]))
  | (refine wpX_condK (by simp only [act_eval, upd_get, Nat.reduceEqDiff, Nat.reduceLT, ↓reduceIte, *]; rfl) ?_ ?_ <;> (intro hc; first | (exfalso; simp -implicitDefEqProofs (disch := omega) only [*, bq, reduceCtorEq] at hc; done) | (simp only [dq, qe3, qe4, qe5, qe6] at hc) | skip))
  | (refine wpX_scope0 ?_)
  | (refine wpX_block ?_)
  | (refine wpX_seq ?_))
  (refine wpX_ret ?_; (try simp only [nq, ↓reduceIte, Nat.reduceEqDiff]); rw [bodyX_ret, results_one Tryd.results39 (by decide)]; simp only [upd_get, Nat.reduceEqDiff, ↓reduceIte])
  exact ⟨by trivial, Hp.le_trans lH1 lH2⟩
end Go.Proofs.YtiempdpjcddgfaaDoor
end
section
/- Rows side by side. -/
set_option linter.unusedSimpArgs false
set_option maxRecDepth 100000
set_option maxHeartbeats 1000000
set_option linter.unusedVariables false
namespace Go.X
open Go
theorem plan_takeS {P : Program} {main : Bool} {lp : Option Nat} {Q : Exit → Act → Hp → Prop} {a : Act} {H : Hp} {S : Hp → Prop} {t i : Nat} {ops : List Oper} {o : Oper} {rest : List (Bool × Nat)} {v : Value} (ho : ops[i]? = some o) (hw : Region.wanted o (yielded ops.toArray a.tmps) = true) (hf : fine lp o = true)
    (hS : S H) (h : ∀ H', S H' → wpS P (execOp a.eval o) H' (YN P main v H') fun _ _ => False) (hk : planX P main lp ops.toArray Q S t rest (a.put o.dst v) H) : planX P main lp ops.toArray Q S t ((true, i) :: rest) a H :=
  ⟨hS, o, by simpa using ho, v, .inl ⟨hw, hf, h⟩, hk⟩
end Go.X
namespace Go.Proofs.YtiempdpjcddgfaaDoor
open Go Go.X
set_option linter.defProp false
def y63_35 := And.intro @callF73 (And.intro (fun H => len_slice (H := H) Tryd.underlying22) (And.intro (fun H => indexAt_slice (H := H) Tryd.underlying22 Tryd.sizeOf3) (And.intro (fun H => loadAt_one (H := H) Tryd.underlying3 rfl) (And.intro (fun H => storeAt_int (H := H) Tryd.sizeOf3) (And.intro (fun H => slice_hi (H := H) Tryd.underlying22 Tryd.sizeOf3) (And.intro (fun H => slice_lo (H := H) Tryd.underlying22 Tryd.sizeOf3) (fun H => slice_lohi (H := H) Tryd.underlying22 Tryd.sizeOf3)))))))
def y73_35 := And.intro (fun H => len_slice (H := H) Tryd.underlying22) (And.intro (fun H => indexAt_slice (H := H) Tryd.underlying22 Tryd.sizeOf3) (fun H => loadAt_one (H := H) Tryd.underlying3 rfl))

/-- The block in which a slice of one's own lies. -/
def rowB : Value → Option Nat
  | .slice (some a) _ _ => some a.block
  | _ => none

/-- One value more; all blocks but the row's stay. -/
theorem append_row2 {P : Program} {tt e : TypeId} {z : Value} {inf : TypeInfo} (hu : P.underlying tt = some (.slice e)) (hs : ∀ w, (sizeOf e).run P w = .ok 1 w) (hz : ∀ w, (zeroValue e).run P w = .ok z w) (hzc : z.cells.size = 1)
    (hi : ∀ w, (typeInfo e).run P w = .ok inf w) (hby : inf.bytes ≤ 1024) (hby0 : 0 < inf.bytes)
    {t : Option Nat} {H₀ H : Hp} {v : Value} {cs : List Value} (h : RowX t H₀ H v e cs) {g : Nat} {w : Value} (hg : H g = none) (hw : one w = true) (hn : cs.length ≤ 1000000) (ty : TypeId) (cb : Array Bool) (K : Next → Hp → Prop) (E : Value → Hp → Prop)
    (h' : ∀ v' H', RowX t H₀ H' v' e (cs ++ [w]) → (∀ x u, H x = some u → rowB v ≠ some x → H' x = some u) → (∀ x, rowB v' = some x → rowB v = some x ∨ H x = none) → K (.value v') H') :
    wpS P (builtin .append #[tt, tt] ty cb #[v, .slice (some ⟨g, 0, none⟩) 1 1]) (H.set g (.cells #[w] e (0, 0))) K E := by
  obtain ⟨hlex, hrow⟩ := h
  have hws : ∀ (j : Nat) (u : Value), [w][j]? = some u → (H.set g (.cells #[w] e (0, 0))).cell ⟨g, 0 + j, none⟩ = some u := by
    intro j u hj
    rw [Nat.zero_add, cell_of (b := g) (p := true) (c := #[w]) (e := e) (f := (0, 0)) (by rw [get_set, if_pos rfl])]
    simpa using hj
  have h1w : ∀ u ∈ [w], one u = true := by simp [hw]
  rcases hrow with ⟨rfl, rfl⟩ | ⟨b, c, cap, hb0, hb, rfl, hcs, hcap, hget⟩
  · refine append_law (P := P) hu hs hz hzc hi hby hby0 (NewRow.nil H e 1) (Hp.le_set hg) (by simp) id hws h1w (by omega) ty cb K E (fun v' H1 H2 hr hl => ?_)
    have hle : H.le H2 := fun x u hx => hl _ _ (hr.le _ _ hx)
    refine h' v' H2 ⟨hlex.le hle, ?_⟩ (fun x u hx _ => hle _ _ hx) ?_
    · rcases hr with ⟨_, hn0, _⟩ | ⟨b', c', cap', hb', rfl, rfl, hs', hl', hn', hg'⟩
      · simp at hn0
      · refine .inr ⟨b', c', cap', hlex.gone hb', hl _ _ (by rw [get_set, if_pos rfl]), by simp, by omega, by simpa using hn', fun i u hi => hg' i u hi⟩
    · intro x hx
      rcases hr with ⟨_, hn0, _⟩ | ⟨b', c', cap', hb', rfl, rfl, hs', hl', hn', hg'⟩
      · simp at hn0
      · simp only [rowB, Option.some.injEq] at hx
        subst hx
        exact .inr hb'
  · have hgb : g ≠ b := fun e => by rw [e, hb] at hg; cases hg
    have hD : (fun x => if x = b then none else H x : Hp) b = none := by simp
    have hH : H = Hp.set (fun x => if x = b then none else H x) b (.cells c e (0, 0)) := by
      funext x
      unfold Hp.set
      by_cases e : x = b
      · subst e; simp [hb]
      · simp [e]
    refine append_law (P := P) hu hs hz hzc hi hby hby0 (H₀ := fun x => if x = b then none else H x) (H := H) (n := cs.length) (cs := cs) (.inr ⟨b, c, cap, hD, hH, rfl, by omega, by omega, hcap, hget⟩) (Hp.le_set hg) (by simp) (fun _ => hg) hws h1w (by omega) ty cb K E (fun v' H1 H2 hr hl => ?_)
    have hkeep : ∀ x u, x ≠ b → H x = some u → H2 x = some u := fun x u hn hx => hl _ _ (hr.le _ _ (by simp only [hn, if_false]; exact hx))
    rcases hr with ⟨_, hn0, _⟩ | ⟨b', c', cap', hb', rfl, rfl, hs', hl', hn', hg'⟩
    · simp at hn0
    · have hb2 : H2 b' = some (true, .cells c' e (0, 0)) := hl _ _ (by rw [get_set, if_pos rfl])
      have hb'0 : H₀ b' = none := by
        by_cases e : b' = b
        · rw [e]; exact hb0
        · simp only [e, if_false] at hb'; exact hlex.gone hb'
      refine h' _ H2 ⟨fun x u hx => ?_, .inr ⟨b', c', cap', hb'0, hb2, by simp, by omega, by simpa using hn', hg'⟩⟩ (fun x u hx ho => hkeep x _ (fun e => ho (by rw [e]; rfl)) hx) (fun x hx => ?_)
      · obtain ⟨u', hu', e'⟩ := hlex x u hx
        exact ⟨u', hkeep x u' (fun e => by rw [e, hb0] at hx; cases hx) hu', e'⟩
      · simp only [rowB, Option.some.injEq] at hx
        subst hx
        by_cases e : b' = b
        · exact .inl (by rw [e]; rfl)
        · simp only [e, if_false] at hb'; exact .inr hb'

theorem SlI.lexO {H H' : Hp} {v : Value} {xs : List Int} (h : SlI H v xs) {b : Nat} (hl : Lex (some b) H H') (hb : ∀ p c fr, H b ≠ some (p, .cells c 3 fr)) : SlI H' v xs :=
  h.move fun x p c fr hx => hl.keeps hx fun e => hb p c fr (e ▸ hx)

theorem row_own0 {t : Option Nat} {H₀ H : Hp} {xs : List Int} {b : Nat} {n cap : Nat} (h : RowX t H₀ H (.slice (some ⟨b, 0, none⟩) n cap) 3 (ints xs)) : n = xs.length ∧ H₀ b = none ∧ Own0 H b cap xs := by
  rcases h.2 with ⟨h1, _⟩ | ⟨b', c, cap', h0, hb, he, hc, hle, hget⟩
  · cases h1
  · simp only [Value.slice.injEq, Option.some.injEq, Addr.mk.injEq] at he
    obtain ⟨⟨rfl, _, _⟩, rfl, rfl⟩ := he
    rw [ints_len] at hle ⊢
    exact ⟨rfl, h0, c, hb, hc, hle, fun i x hi => hget i _ (ints_get hi)⟩

theorem deleteNil_spec (m : Bool) (H : Hp) (f : FuncId) (capt : Array Value) :
    FnX Tryd.prog m 63 #[.slice none 0 0, .func (.func f) #[] capt] H fun e H' => e = .returned (.slice none 0 0) ∧ H' = H := by
  have hix : FnX Tryd.prog m 73 #[.slice none 0 0, .func (.func f) #[] capt] H fun e H' => e = .returned (.int .i64 (-1)) ∧ H' = H := by
    refine FnX_start Tryd.func73 rfl Tryd.ntmps73 (by simp) ?_
    repeat' (first
  | (refine wpX_stmtL rfl ?_; intro K hK; simp -implicitDefEqProofs (disch := first | omega | (simp only [qd] <;> omega)) only [xq, ↓xp, qc, Nat.reduceAdd, List.range, List.range.loop, fine, Nat.reduceEqDiff, ↓reduceIte, yielded, reduceCtorEq, Nat.reduceLT, Nat.reduceMul, Nat.reduceSub, one, Nat.reduceLeDiff, runX_cons, y73_35, aq, ↓ap, qe0, qe1, qe2, *, -hK]; try (refine hK _ _ ?_; clear hK K))
  | (refine wpX_lastL rfl ?_; intro K hK; simp -implicitDefEqProofs (disch := first | omega | (simp only [qd] <;> omega)) only [xq, ↓xp, qc, Nat.reduceAdd, List.range, List.range.loop, fine, Nat.reduceEqDiff, ↓reduceIte, yielded, reduceCtorEq, Nat.reduceLT, Nat.reduceMul, Nat.reduceSub, one, Nat.reduceLeDiff, runX_cons, y73_35, aq, ↓ap, qe0, qe1, qe2, *, -hK]; try (refine hK _ _ ?_; clear hK K; (try simp only [nq, ↓reduceIte, Nat.reduceEqDiff])))
  | (refine wpX_skip ?_; (try simp only [nq, ↓reduceIte, Nat.reduceEqDiff]))
  | (refine wpX_label ?_; (try simp only [nq, ↓reduceIte, Nat.reduceEqDiff]))
  | (refine wpX_exit ?_; (try simp only [nq, ↓reduceIte, Nat.reduceEqDiff]))
  | (refine wpX_goto ?_; (try simp only [nq, ↓reduceIte, Nat.reduceEqDiff]))
  | (refine wpX_condK (by simp only [act_eval, upd_get, Nat.reduceEqDiff, Nat.reduceLT, ↓reduceIte, *]; rfl) ?_ ?_ <;> (intro hc; first | (exfalso; simp -implicitDefEqProofs (disch := omega) only [*, bq, reduceCtorEq] at hc; done) | (simp only [dq, qe3, qe4, qe5, qe6] at hc) | skip))
  | (refine wpX_scope0 ?_)
  | (refine wpX_block ?_)
  | (refine wpX_seq ?_))
    refine wpX_loop (fun w a' H' => ∃ e, a' = act 19 e [] ∧ e 7 = .int .i64 (0 : Nat) ∧ e 8 = .int .i64 (0 : Nat) ∧ H' = H) (n := 0) ?_ ?_
    · exact ⟨_, rfl, rfl, rfl, by trivial⟩
    · rintro w a' H' ⟨e, rfl, e7, e8, hH⟩
      rw [hH]; clear hH H'
      repeat' (first
  | (refine wpX_stmtL rfl ?_; intro K hK; simp -implicitDefEqProofs (disch := first | omega | (simp only [qd] <;> omega)) only [xq, ↓xp, qc, Nat.reduceAdd, List.range, List.range.loop, fine, Nat.reduceEqDiff, ↓reduceIte, yielded, reduceCtorEq, Nat.reduceLT, Nat.reduceMul, Nat.reduceSub, one, Nat.reduceLeDiff, runX_cons, y73_35, aq, ↓ap, qe0, qe1, qe2, *, -hK]; try (refine hK _ _ ?_; clear hK K))
  | (refine wpX_lastL rfl ?_; intro K hK; simp -implicitDefEqProofs (disch := first | omega | (simp only [qd] <;> omega)) only [xq, ↓xp, qc, Nat.reduceAdd, List.range, List.range.loop, fine, Nat.reduceEqDiff, ↓reduceIte, yielded, reduceCtorEq, Nat.reduceLT, Nat.reduceMul, Nat.reduceSub, one, Nat.reduceLeDiff, runX_cons, y73_35, aq, ↓ap, qe0, qe1, qe2, *, -hK]; try (refine hK _ _ ?_; clear hK K; (try simp only [nq, ↓reduceIte, Nat.reduceEqDiff])))
  | (refine wpX_skip ?_; (try simp only [nq, ↓reduceIte, Nat.reduceEqDiff]))
  | (refine wpX_label ?_; (try simp only [nq, ↓reduceIte, Nat.reduceEqDiff]))
  | (refine wpX_exit ?_; (try simp only [nq, ↓reduceIte, Nat.reduceEqDiff]))
  | (refine wpX_goto ?_; (try simp only [nq, ↓reduceIte, Nat.reduceEqDiff]))
  | (refine wpX_condK (by simp only [act_eval, upd_get, Nat.reduceEqDiff, Nat.reduceLT, ↓reduceIte, *]; rfl) ?_ ?_ <;> (intro hc; first | (exfalso; simp -implicitDefEqProofs (disch := omega) only [*, bq, reduceCtorEq] at hc; done) | (simp only [dq, qe3, qe4, qe5, qe6] at hc) | skip))
  | (refine wpX_scope0 ?_)
  | (refine wpX_block ?_)
  | (refine wpX_seq ?_))
      (refine wpX_ret ?_; (try simp only [nq, ↓reduceIte, Nat.reduceEqDiff]); rw [bodyX_ret, results_one Tryd.results73 (by decide)]; simp only [upd_get, Nat.reduceEqDiff, ↓reduceIte])
      (refine ⟨?_, ?_⟩ <;> first | rfl | trivial | assumption)
  refine FnX_start Tryd.func63 rfl Tryd.ntmps63 (by simp) ?_
  repeat' (first
  | (refine wpX_stmtL rfl ?_; intro K hK; simp -implicitDefEqProofs (disch := first | omega | (simp only [qd] <;> omega)) only [xq, ↓xp, qc, Nat.reduceAdd, List.range, List.range.loop, fine, Nat.reduceEqDiff, ↓reduceIte, yielded, reduceCtorEq, Nat.reduceLT, Nat.reduceMul, Nat.reduceSub, one, Nat.reduceLeDiff, runX_cons, y63_35, aq, ↓ap, qe0, qe1, qe2, *, -hK]; try (refine hK _ _ ?_; clear hK K))
  | (refine wpX_lastL rfl ?_; intro K hK; simp -implicitDefEqProofs (disch := first | omega | (simp only [qd] <;> omega)) only [xq, ↓xp, qc, Nat.reduceAdd, List.range, List.range.loop, fine, Nat.reduceEqDiff, ↓reduceIte, yielded, reduceCtorEq, Nat.reduceLT, Nat.reduceMul, Nat.reduceSub, one, Nat.reduceLeDiff, runX_cons, y63_35, aq, ↓ap, qe0, qe1, qe2, *, -hK]; try (refine hK _ _ ?_; clear hK K; (try simp only [nq, ↓reduceIte, Nat.reduceEqDiff])))
  | (refine wpX_skip ?_; (try simp only [nq, ↓reduceIte, Nat.reduceEqDiff]))
  | (refine wpX_label ?_; (try simp only [nq, ↓reduceIte, Nat.reduceEqDiff]))
  | (refine wpX_exit ?_; (try simp only [nq, ↓reduceIte, Nat.reduceEqDiff]))
  | (refine wpX_goto ?_; (try simp only [nq, ↓reduceIte, Nat.reduceEqDiff]))
  | (refine wpX_condK (by simp only [act_eval, upd_get, Nat.reduceEqDiff, Nat.reduceLT, ↓reduceIte, *]; rfl) ?_ ?_ <;> (intro hc; first | (exfalso; simp -implicitDefEqProofs (disch := omega) only [*, bq, reduceCtorEq] at hc; done) | (simp only [dq, qe3, qe4, qe5, qe6] at hc) | skip))
  | (refine wpX_scope0 ?_)
  | (refine wpX_block ?_)
  | (refine wpX_seq ?_))
  refine (hix).runs.mono ?_; rintro _ HQ ⟨rfl, hHQ⟩; rw [hHQ]; clear hHQ HQ; (try simp -implicitDefEqProofs (disch := first | omega | (simp only [qd] <;> omega)) only [xq, ↓xp, qc, Nat.reduceAdd, List.range, List.range.loop, fine, Nat.reduceEqDiff, ↓reduceIte, yielded, reduceCtorEq, Nat.reduceLT, Nat.reduceMul, Nat.reduceSub, one, Nat.reduceLeDiff, runX_cons, y63_35, aq, ↓ap, qe0, qe1, qe2, *, -hK]); try (refine hK _ _ ?_; clear hK K; (try simp only [nq, ↓reduceIte, Nat.reduceEqDiff])); repeat' (first
  | (refine wpX_stmtL rfl ?_; intro K hK; simp -implicitDefEqProofs (disch := first | omega | (simp only [qd] <;> omega)) only [xq, ↓xp, qc, Nat.reduceAdd, List.range, List.range.loop, fine, Nat.reduceEqDiff, ↓reduceIte, yielded, reduceCtorEq, Nat.reduceLT, Nat.reduceMul, Nat.reduceSub, one, Nat.reduceLeDiff, runX_cons, y63_35, aq, ↓ap, qe0, qe1, qe2, *, -hK]; try (refine hK _ _ ?_; clear hK K))
  | (refine wpX_lastL rfl ?_; intro K hK; simp -implicitDefEqProofs (disch := first | omega | (simp only [qd] <;> omega)) only [xq, ↓xp, qc, Nat.reduceAdd, List.range, List.range.loop, fine, Nat.reduceEqDiff, ↓reduceIte, yielded, reduceCtorEq, Nat.reduceLT, Nat.reduceMul, Nat.reduceSub, one, Nat.reduceLeDiff, runX_cons, y63_35, aq, ↓ap, qe0, qe1, qe2, *, -hK]; try (refine hK _ _ ?_; clear hK K; (try simp only [nq, ↓reduceIte, Nat.reduceEqDiff])))
  | (refine wpX_skip ?_; (try simp only [nq, ↓reduceIte, Nat.reduceEqDiff]))
  | (refine wpX_label ?_; (try simp only [nq, ↓reduceIte, Nat.reduceEqDiff]))
  | (refine wpX_exit ?_; (try simp only [nq, ↓reduceIte, Nat.reduceEqDiff]))
  | (refine wpX_goto ?_; (try simp only [nq, ↓reduceIte, Nat.reduceEqDiff]))
  | (refine wpX_condK (by simp only [act_eval, upd_get, Nat.reduceEqDiff, Nat.reduceLT, ↓reduceIte, *]; rfl) ?_ ?_ <;> (intro hc; first | (exfalso; simp -implicitDefEqProofs (disch := omega) only [*, bq, reduceCtorEq] at hc; done) | (simp only [dq, qe3, qe4, qe5, qe6] at hc) | skip))
  | (refine wpX_scope0 ?_)
  | (refine wpX_block ?_)
  | (refine wpX_seq ?_))
  (refine wpX_ret ?_; (try simp only [nq, ↓reduceIte, Nat.reduceEqDiff]); rw [bodyX_ret, results_one Tryd.results63 (by decide)]; simp only [upd_get, Nat.reduceEqDiff, ↓reduceIte])
  (refine ⟨?_, ?_⟩ <;> first | rfl | trivial | assumption)

/-- What is so of some numbers is struck from a row of one's own. -/
theorem deleteRow_spec (m : Bool) (t : Option Nat) (H₀ H : Hp) (v : Value) (xs : List Int) (f : FuncId) (capt : List Value) (p : Int → Bool) (hcall : ∀ (args : Array Value) (H : Hp) (K : Next → Hp → Prop) (E : Value → Hp → Prop), wpS Tryd.prog (callFunc f args) H K E = K (.enter f args) H)
    (hr : RowX t H₀ H v 3 (ints xs)) (hf : ∀ b, rowB v = some b → H₀ b = none → Tells m b H f capt p) (hl : xs.length ≤ 1000000) :
    FnX Tryd.prog m 63 #[v, .func (.func f) #[] capt.toArray] H fun e H' => ∃ v', e = .returned v' ∧ RowX t H₀ H' v' 3 (ints (xs.filter fun x => !p x)) ∧ rowB v' = rowB v ∧ ∀ x u, H x = some u → rowB v ≠ some x → H' x = some u := by
  have hrr := hr
  rcases hr.2 with ⟨rfl, hx⟩ | ⟨b, c, cap, h0, hb, rfl, hc, hle, hget⟩
  · have : xs = [] := by simpa [ints] using hx
    subst this
    exact (deleteNil_spec m H f _).mono fun e H' ⟨he, hH⟩ => ⟨_, he, by rw [hH]; exact hrr, rfl, fun x u hx _ => by rw [hH]; exact hx⟩
  · obtain ⟨_, _, hown⟩ := row_own0 hrr
    rw [ints_len]
    refine (deleteFunc_spec m H b cap xs f capt p hcall hown (hf b rfl h0) hl).mono fun e H' ⟨he, ho, o, hH⟩ => ⟨_, he, ?_, rfl, fun x u hx hn => ?_⟩
    · obtain ⟨c', hb', hc', hle', hget'⟩ := ho
      refine ⟨by rw [hH]; exact hr.1.own h0, .inr ⟨b, c', cap, h0, hb', by rw [ints_len], hc', by rw [ints_len]; exact hle', fun i u hi => ?_⟩⟩
      simp only [ints, List.getElem?_map, Option.map_eq_some_iff] at hi
      obtain ⟨y, hy, rfl⟩ := hi
      exact hget' i y hy
    · rw [hH, set_ne (fun e => hn (by rw [e]; rfl))]
      exact hx
end Go.Proofs.YtiempdpjcddgfaaDoor
end
section
/- Plans with two ways. -/
set_option linter.unusedSimpArgs false
namespace Go.X
open Go
/-- A plan: take a quiet one first; one that alone may come up; two that may come up, in either order. -/
inductive PT where
  | nil
  | take (i : Nat) (p : PT)
  | one (i : Nat) (p : PT)
  | two (i : Nat) (p : PT) (j : Nat) (q : PT)
def PT.depth : PT → Nat
  | .nil => 0
  | .take _ p => p.depth + 1
  | .one _ p => p.depth + 1
  | .two _ p _ q => max p.depth q.depth + 1
section
variable {P : Program} {main : Bool} {lp : Option Nat} {Q : Exit → Act → Hp → Prop} {ops : Array Oper} {S : Hp → Prop}
def planT (P : Program) (main : Bool) (lp : Option Nat) (ops : Array Oper) (Q : Exit → Act → Hp → Prop) (S : Hp → Prop) : PT → Act → Hp → Prop
  | .nil, a, H => Q .normal a H
  | .take i p, a, H => S H ∧ ∃ o, ops[i]? = some o ∧ ∃ v, YieldsX P main lp ops S o v a ∧ planT P main lp ops Q S p (a.put o.dst v) H
  | .one i p, a, H => numX P main lp ops i Q (fun a' H' => S H' ∧ planT P main lp ops Q S p a' H') a H
  | .two i p j q, a, H => numX P main lp ops i Q (fun a' H' => S H' ∧ planT P main lp ops Q S p a' H') a H ∧ numX P main lp ops j Q (fun a' H' => S H' ∧ planT P main lp ops Q S q a' H') a H
def planTOK (ops : Array Oper) : PT → Array Bool → Bool
  | .nil, listed => (Region.ready .any ops listed).isEmpty
  | .take i p, listed => Region.free .any ops listed i && (Region.ready .any ops listed).contains i && planTOK ops p (listed.setIfInBounds i true)
  | .one i p, listed => (Region.ready .any ops listed == [i]) && planTOK ops p (listed.setIfInBounds i true)
  | .two i p j q, listed => (Region.ready .any ops listed == [i, j]) && planTOK ops p (listed.setIfInBounds i true) && planTOK ops q (listed.setIfInBounds j true)
theorem planT_sound (hsel : Region.noSelect ops = true) (hQ : ∀ c a H d v, Q (.panic c) (a.put d v) H → Q (.panic c) a H) :
    ∀ (plan : PT) (fuel : Nat) (listed : Array Bool) (a : Act) (H : Hp), plan.depth ≤ fuel → Closed ops listed → planTOK ops plan listed = true →
      planT P main lp ops Q S plan a H → anyS P main lp ops Q S ops.size fuel listed a H
  | .nil, fuel, listed, a, H, _, _, hok, h => by
    have hr : Region.ready .any ops listed = [] := by simpa [planTOK] using hok
    cases fuel with
    | zero => exact ⟨hr, h⟩
    | succ n => exact ⟨fun _ => h, by rw [hr]; simp⟩
  | .take i p, 0, _, _, _, hl, _, _, _ => by simp [PT.depth] at hl
  | .one i p, 0, _, _, _, hl, _, _, _ => by simp [PT.depth] at hl
  | .two i p j q, 0, _, _, _, hl, _, _, _ => by simp [PT.depth] at hl
  | .take i p, fuel + 1, listed, a, H, hl, hcl, hok, h => by
    simp only [planTOK, Bool.and_eq_true] at hok
    obtain ⟨⟨hf, hr⟩, hok⟩ := hok
    obtain ⟨hS, o, ho, v, hy, h⟩ := h
    have hr' : i ∈ Region.ready .any ops listed := by simpa using hr
    have hlt : i < ops.size := (Array.getElem?_eq_some_iff.1 ho).1
    exact anyS_first ho (Region.noSelect_spec hsel) (by omega) (fun hlt => absurd hlt (Nat.lt_irrefl _)) (fun c a H => hQ c a H _ _) fuel listed a H hcl (Region.free_spec ho hf) hr' hy hS
      (planT_sound hsel hQ p fuel _ _ _ (by simp [PT.depth] at hl; omega) (hcl.set hr') hok h)
  | .one i p, fuel + 1, listed, a, H, hl, hcl, hok, h => by
    simp only [planTOK, Bool.and_eq_true, beq_iff_eq] at hok
    obtain ⟨hr, hok⟩ := hok
    refine ⟨fun h0 => (by rw [hr] at h0; cases h0), fun j hj => ?_⟩
    have hji : j = i := by rw [hr] at hj; simpa using hj
    subst hji
    exact numX_mono (fun a' H' h' => ⟨.inr h'.1, planT_sound hsel hQ p fuel _ _ _ (by simp [PT.depth] at hl; omega) (hcl.set hj) hok h'.2⟩) h
  | .two i p j q, fuel + 1, listed, a, H, hl, hcl, hok, h => by
    simp only [planTOK, Bool.and_eq_true, beq_iff_eq] at hok
    obtain ⟨⟨hr, hok1⟩, hok2⟩ := hok
    refine ⟨fun h0 => (by rw [hr] at h0; cases h0), fun k hk => ?_⟩
    have hkk : k = i ∨ k = j := by rw [hr] at hk; simpa using hk
    rcases hkk with rfl | rfl
    · exact numX_mono (fun a' H' h' => ⟨.inr h'.1, planT_sound hsel hQ p fuel _ _ _ (by simp [PT.depth] at hl; omega) (hcl.set hk) hok1 h'.2⟩) h.1
    · exact numX_mono (fun a' H' h' => ⟨.inr h'.1, planT_sound hsel hQ q fuel _ _ _ (by simp [PT.depth] at hl; omega) (hcl.set hk) hok2 h'.2⟩) h.2
theorem wpX_planT {id : Nat} {a : Act} {H : Hp} (S : Hp → Prop) (plan : PT) (hm : P.follows .mixedOrders = true) (hsel : Region.noSelect ops = true) (hlen : plan.depth ≤ ops.size)
    (hok : planTOK ops plan (Array.replicate ops.size false) = true)
    (hQ : ∀ c a H d v, Q (.panic c) (a.put d v) H → Q (.panic c) a H) (h : planT P main lp ops Q S plan a H) : wpX P main lp (.region id ops true) Q a H :=
  wpX_draw (fun _ => True) hm (anyX_of_anyS _ _ _ _ (planT_sound hsel hQ plan _ _ _ _ hlen .start hok h))
theorem wpX_tlast {id : Nat} {ops : Array Oper} {a : Act} {H : Hp} (S : Hp → Prop) (plan : PT) (hm : P.follows .mixedOrders = true) (hsel : Region.noSelect ops = true) (hlen : plan.depth ≤ ops.size)
    (hok : planTOK ops plan (Array.replicate ops.size false) = true)
    (h : ∀ K : Act → Hp → Prop, (∀ a' H', Q .normal a' H' → K a' H') → planT P main lp ops (only K) S plan a H) :
    wpX P main lp (.region id ops true) Q a H := by
  refine wpX_mono (Q := only fun a' H' => Q .normal a' H') (wpX_planT S plan hm hsel hlen hok (fun c a H d v h => h) (h _ fun _ _ h => h)) fun e a H q => ?_
  cases e <;> first | exact q | exact q.elim
theorem wpX_tstmt {id : Nat} {ops : Array Oper} {y : Code} {a : Act} {H : Hp} (S : Hp → Prop) (plan : PT) (hm : P.follows .mixedOrders = true) (hsel : Region.noSelect ops = true) (hlen : plan.depth ≤ ops.size)
    (hok : planTOK ops plan (Array.replicate ops.size false) = true)
    (h : ∀ K : Act → Hp → Prop, (∀ a' H', wpX P main lp y Q a' H' → K a' H') → planT P main lp ops (only K) S plan a H) :
    wpX P main lp (.seq (.region id ops true) y) Q a H := by
  refine wpX_seq ?_
  refine wpX_mono (Q := only fun a' H' => wpX P main lp y Q a' H') (wpX_planT S plan hm hsel hlen hok (fun c a H d v h => h) (h _ fun _ _ h => h)) fun e a H q => ?_
  cases e <;> first | exact q | exact q.elim
theorem planT_take {S : Hp → Prop} {a : Act} {H : Hp} {i : Nat} {ops : List Oper} {o : Oper} {p : PT} {v : Value} (ho : ops[i]? = some o) (hw : Region.wanted o (yielded ops.toArray a.tmps) = true) (hf : fine lp o = true)
    (hS : S H) (h : ∀ H', S H' → wpS P (execOp a.eval o) H' (YN P main v H') fun _ _ => False) (hk : planT P main lp ops.toArray Q S p (a.put o.dst v) H) : planT P main lp ops.toArray Q S (.take i p) a H :=
  ⟨hS, o, by simpa using ho, v, .inl ⟨hw, hf, h⟩, hk⟩
theorem planT_one {S : Hp → Prop} {a : Act} {H : Hp} {i : Nat} {ops : Array Oper} {p : PT} (h : numX P main lp ops i Q (fun a' H' => S H' ∧ planT P main lp ops Q S p a' H') a H) : planT P main lp ops Q S (.one i p) a H := h
theorem planT_two {S : Hp → Prop} {a : Act} {H : Hp} {i j : Nat} {ops : Array Oper} {p q : PT} (h : numX P main lp ops i Q (fun a' H' => S H' ∧ planT P main lp ops Q S p a' H') a H) (h' : numX P main lp ops j Q (fun a' H' => S H' ∧ planT P main lp ops Q S q a' H') a H) : planT P main lp ops Q S (.two i p j q) a H := ⟨h, h'⟩
theorem planT_nil {S : Hp → Prop} {a : Act} {H : Hp} {ops : Array Oper} (h : Q .normal a H) : planT P main lp ops Q S .nil a H := h
@[congr] theorem planT_congr {S : Hp → Prop} {ops : Array Oper} {p : PT} {a a' : Act} {H H' : Hp} (ha : a = a') (hH : H = H') : planT P main lp ops Q S p a H = planT P main lp ops Q S p a' H' := by subst ha hH; rfl
end
end Go.X
end
section
/- A haul's jobs. -/
set_option linter.unusedSimpArgs false
set_option maxRecDepth 100000
set_option maxHeartbeats 1000000
set_option linter.unusedVariables false
namespace Go.Proofs.YtiempdpjcddgfaaDoor
open Go Go.X
set_option linter.defProp false
def y40_37 := And.intro (fun H => loadAt_aggE (H := H) Tryd.underlying29 rfl Tryd.sizeOf29) (And.intro @bld_68_0_0 (And.intro (fun H => fieldAt_eq (H := H) Tryd.underlying68 (i := 0) rfl (off := 0) rfl Tryd.sizeOf29) (And.intro (fun H => fieldAt_eq (H := H) Tryd.underlying29 (i := 0) rfl (off := 0) rfl Tryd.sizeOf25) (And.intro (fun H => loadAt_aggE (H := H) Tryd.underlying25 rfl Tryd.sizeOf25) (And.intro (fun H => fieldAt_eq (H := H) Tryd.underlying29 (i := 1) rfl (off := 4) rfl Tryd.sizeOf22) (And.intro (fun H => loadAt_one (H := H) Tryd.underlying22 rfl) (And.intro (fun H => fieldAt_eq (H := H) Tryd.underlying29 (i := 2) rfl (off := 5) rfl Tryd.sizeOf3) (And.intro (fun H => loadAt_one (H := H) Tryd.underlying3 rfl) (And.intro @callF59 (And.intro (fun H => ex_alloc (H := H) (P := Tryd.prog) (h := Tryd.zeroValue22)) (And.intro (fun H => storeAt_slice (H := H) Tryd.sizeOf22) (And.intro (fun H => fieldAt_eq (H := H) Tryd.underlying25 (i := 2) rfl (off := 2) rfl Tryd.sizeOf22) (And.intro @callF61 (And.intro (fun H => len_slice (H := H) Tryd.underlying22) (And.intro (fun H => indexAt_slice (H := H) Tryd.underlying22 Tryd.sizeOf3) (And.intro (fun H => ex_alloc (H := H) (P := Tryd.prog) (h := Tryd.zeroValue3)) (And.intro (fun H => storeAt_int (H := H) Tryd.sizeOf3) (And.intro @callF62 (And.intro (fun H => fieldAt_eq (H := H) Tryd.underlying68 (i := 1) rfl (off := 12) rfl Tryd.sizeOf22) (And.intro @lit_22_1_0_0 @callF63))))))))))))))))))))
def y64_37 := And.intro (fun H => loadAt_one (H := H) Tryd.underlying22 rfl) (And.intro (fun H => loadAt_one (H := H) Tryd.underlying3 rfl) (fun H => indexAt_slice (H := H) Tryd.underlying22 Tryd.sizeOf3))

theorem sentIs_spec (m : Bool) (H : Hp) (x : Int) (tb ib i : Nat) (w : Value) (ss : List Int) (ht : H tb = some (true, .cells #[w] 22 (0, 0))) (hi : H ib = some (true, .cells #[.int .i64 i] 3 (0, 0))) (hw : SlI H w ss) (hil : i < ss.length) (hl : ss.length ≤ 1000) :
    FnX Tryd.prog m 64 #[.int .i64 x, .pointer (some ⟨tb, 0, none⟩), .pointer (some ⟨ib, 0, none⟩)] H fun e H' => e = .returned (.bool (x == ss.getD i 0)) ∧ H' = H := by
  obtain ⟨b, o, cap, p, c, fr, rfl, _, hb, hx⟩ := hw.cons (fun h => absurd (congrArg List.length h) (by simp only [List.length_nil]; omega))
  have hxi := hx i ss[i] (List.getElem?_eq_getElem hil)
  have hg : ss.getD i 0 = ss[i] := by simp [List.getD, List.getElem?_eq_getElem hil]
  rw [hg]
  generalize ss[i] = y at hxi
  refine FnX_start Tryd.func64 rfl Tryd.ntmps64 (by simp) ?_
  repeat' (first
  | (refine wpX_stmtL rfl ?_; intro K hK; simp -implicitDefEqProofs (disch := first | omega | (simp only [qd] <;> omega)) only [xq, ↓xp, qc, Nat.reduceAdd, List.range, List.range.loop, fine, Nat.reduceEqDiff, ↓reduceIte, yielded, reduceCtorEq, Nat.reduceLT, Nat.reduceMul, Nat.reduceSub, one, Nat.reduceLeDiff, runX_cons, y64_37, aq, ↓ap, qe0, qe1, qe2, *, -hK]; try (refine hK _ _ ?_; clear hK K))
  | (refine wpX_lastL rfl ?_; intro K hK; simp -implicitDefEqProofs (disch := first | omega | (simp only [qd] <;> omega)) only [xq, ↓xp, qc, Nat.reduceAdd, List.range, List.range.loop, fine, Nat.reduceEqDiff, ↓reduceIte, yielded, reduceCtorEq, Nat.reduceLT, Nat.reduceMul, Nat.reduceSub, one, Nat.reduceLeDiff, runX_cons, y64_37, aq, ↓ap, qe0, qe1, qe2, *, -hK]; try (refine hK _ _ ?_; clear hK K; (try simp only [nq, ↓reduceIte, Nat.reduceEqDiff])))
  | (refine wpX_skip ?_; (try simp only [nq, ↓reduceIte, Nat.reduceEqDiff]))
  | (refine wpX_label ?_; (try simp only [nq, ↓reduceIte, Nat.reduceEqDiff]))
  | (refine wpX_exit ?_; (try simp only [nq, ↓reduceIte, Nat.reduceEqDiff]))
  | (refine wpX_goto ?_; (try simp only [nq, ↓reduceIte, Nat.reduceEqDiff]))
  | (refine wpX_condK (by simp only [act_eval, upd_get, Nat.reduceEqDiff, Nat.reduceLT, ↓reduceIte, *]; rfl) ?_ ?_ <;> (intro hc; first | (exfalso; simp -implicitDefEqProofs (disch := omega) only [*, bq, reduceCtorEq] at hc; done) | (simp only [dq, qe3, qe4, qe5, qe6] at hc) | skip))
  | (refine wpX_scope0 ?_)
  | (refine wpX_block ?_)
  | (refine wpX_seq ?_))
  (refine wpX_ret ?_; (try simp only [nq, ↓reduceIte, Nat.reduceEqDiff]); rw [bodyX_ret, results_one Tryd.results64 (by decide)]; simp only [upd_get, Nat.reduceEqDiff, ↓reduceIte])
  (refine ⟨?_, ?_⟩ <;> first | rfl | trivial | assumption)

/-- What is in the office, and which calls are jobs. -/
def nhS (ts ss start : List Int) : Nat → List Int × List Int
  | 0 => (start, [])
  | i + 1 => if ts.getD i 0 ∈ (nhS ts ss start i).1 then nhS ts ss start i else
    (((nhS ts ss start i).1.filter fun x => !(x == ss.getD i 0)) ++ [ts.getD i 0], (nhS ts ss start i).2 ++ [(i : Int)])
theorem nhS_len (ts ss start : List Int) : ∀ i, (nhS ts ss start i).1.length ≤ start.length + i ∧ (nhS ts ss start i).2.length ≤ i
  | 0 => by simp [nhS]
  | i + 1 => by
    have ih := nhS_len ts ss start i
    unfold nhS
    split
    · omega
    · have := List.length_filter_le (fun x => !(x == ss.getD i 0)) (nhS ts ss start i).1
      simp only [List.length_append, List.length_cons, List.length_nil]
      omega
/-- A haul at work, in memory. -/
def HN.obj (n : HN) (v : HV) (jv : Value) : Obj := .cells #[.int .i64 n.places, .int .i64 n.pieces, v.sv, v.cv, v.tv, .int .i64 n.rule, v.xv, .int .i64 n.notice, .int .i64 n.load, .int .i64 n.barrows, .int .i64 n.lo, .int .i64 n.hi, jv] 68 (0, 0)
/-- What a rule sends at each call. -/
def HN.sents (n : HN) : List Int := (rrun n.places n.rule n.ts (rs0 n.start) n.ts.length).cl.take n.ts.length
def HN.jobs (n : HN) : List Int := (nhS n.ts n.sents n.start n.ts.length).2

theorem row_keep {t : Option Nat} {H₀ H H' : Hp} {v w : Value} {e : TypeId} {cs : List Value} (h : RowX t H₀ H v e cs) (hk : ∀ x u, H x = some u → rowB w ≠ some x → H' x = some u) (hn : ∀ x, rowB v = some x → rowB w ≠ some x) (hl : Lex t H₀ H') : RowX t H₀ H' v e cs := by
  refine ⟨hl, h.2.imp id ?_⟩
  rintro ⟨b, c, cap, h0, hb, rfl, h3⟩
  exact ⟨b, c, cap, h0, hk _ _ hb (hn b rfl), rfl, h3⟩
theorem row_new {t : Option Nat} {H₀ H : Hp} {v : Value} {e : TypeId} {cs : List Value} (h : RowX t H₀ H v e cs) {x : Nat} (hx : rowB v = some x) : H₀ x = none ∧ ∃ u, H x = some u := by
  rcases h.2 with ⟨rfl, _⟩ | ⟨b, c, cap, h0, hb, rfl, _⟩
  · cases hx
  · simp only [rowB, Option.some.injEq] at hx
    subst hx
    exact ⟨h0, _, hb⟩
theorem row_sep {t : Option Nat} {H₀ H : Hp} {v : Value} {e : TypeId} {cs : List Value} (h : RowX t H₀ H v e cs) {x : Nat} {u : Bool × Obj} (hx : H₀ x = some u) : rowB v ≠ some x := fun e' => by
  have := (row_new h e').1
  rw [hx] at this; cases this
theorem row_set {t : Option Nat} {H₀ H : Hp} {v : Value} {e : TypeId} {cs : List Value} {b : Nat} {o : Obj} (h : RowX t H₀ H v e cs) (hb : rowB v ≠ some b) (hl : Lex t H₀ (H.set b o)) : RowX t H₀ (H.set b o) v e cs := by
  refine ⟨hl, h.2.imp id ?_⟩
  rintro ⟨b', c, cap, h0, hb', rfl, h3⟩
  exact ⟨b', c, cap, h0, by rw [set_ne (fun e => hb (by rw [← e]; rfl))]; exact hb', rfl, h3⟩

theorem newHaul_spec (main : Bool) (H : Hp) (n : HN) (v : HV) (hd : HaulIn H n v) :
    FnX Tryd.prog main 40 #[n.agg v] H fun e H' => ∃ hb jv, e = .returned (.pointer (some ⟨hb, 0, none⟩)) ∧ H.le H' ∧ H' hb = some (true, n.obj v jv) ∧ SlI H' jv n.jobs := by
  obtain ⟨sv, cv, tv, xv⟩ := v
  have hsents : n.sents = (rrun n.places n.rule n.ts (rs0 n.start) n.ts.length).cl.take n.ts.length := rfl
  have hjobs : n.jobs = (nhS n.ts n.sents n.start n.ts.length).2 := rfl
  generalize n.sents = ss at hsents hjobs
  generalize hjj : n.jobs = jj at hjobs ⊢
  clear hjj
  obtain ⟨places, pieces, rule, notice, load, barrows, lo, hi, start, xss, ts, xs⟩ := n
  obtain ⟨hday, htimes, hok, r0, r3, n0, n30, l1, l3, b1, b4, t1, t2, t20⟩ := hd
  simp only [] at hday htimes hok r0 r3 n0 n30 l1 l3 b1 b4 t1 t2 t20 hsents hjobs
  have hday0 := hday
  obtain ⟨sa, sc, rfl, hsc, _⟩ := hday.st
  obtain ⟨ca, cn, cc, rfl⟩ := hday0.calls.isSlice
  have htv := hday0.truth
  obtain ⟨ta, tc, rfl, htc, _⟩ := htv
  obtain ⟨xa, xn, xc, rfl⟩ := htimes.isSlice
  simp only [HN.agg, HN.obj]
  have htl : ts.length ≤ 8 := by have h1 := hday0.true.1; have h2 := hday0.few; omega
  refine FnX_start Tryd.func40 rfl Tryd.ntmps40 (by simp) ?_
  repeat' (first
  | (refine wpX_stmtL rfl ?_; intro K hK; simp -implicitDefEqProofs (disch := first | omega | (simp only [qd] <;> omega)) only [xq, ↓xp, qc, Nat.reduceAdd, List.range, List.range.loop, fine, Nat.reduceEqDiff, ↓reduceIte, yielded, reduceCtorEq, Nat.reduceLT, Nat.reduceMul, Nat.reduceSub, one, Nat.reduceLeDiff, runX_cons, y40_37, aq, ↓ap, qe0, qe1, qe2, *, -hK]; try (refine hK _ _ ?_; clear hK K))
  | (refine wpX_lastL rfl ?_; intro K hK; simp -implicitDefEqProofs (disch := first | omega | (simp only [qd] <;> omega)) only [xq, ↓xp, qc, Nat.reduceAdd, List.range, List.range.loop, fine, Nat.reduceEqDiff, ↓reduceIte, yielded, reduceCtorEq, Nat.reduceLT, Nat.reduceMul, Nat.reduceSub, one, Nat.reduceLeDiff, runX_cons, y40_37, aq, ↓ap, qe0, qe1, qe2, *, -hK]; try (refine hK _ _ ?_; clear hK K; (try simp only [nq, ↓reduceIte, Nat.reduceEqDiff])))
  | (refine wpX_skip ?_; (try simp only [nq, ↓reduceIte, Nat.reduceEqDiff]))
  | (refine wpX_label ?_; (try simp only [nq, ↓reduceIte, Nat.reduceEqDiff]))
  | (refine wpX_exit ?_; (try simp only [nq, ↓reduceIte, Nat.reduceEqDiff]))
  | (refine wpX_goto ?_; (try simp only [nq, ↓reduceIte, Nat.reduceEqDiff]))
  | (refine wpX_condK (by simp only [act_eval, upd_get, Nat.reduceEqDiff, Nat.reduceLT, ↓reduceIte, *]; rfl) ?_ ?_ <;> (intro hc; first | (exfalso; simp -implicitDefEqProofs (disch := omega) only [*, bq, reduceCtorEq] at hc; done) | (simp only [dq, qe3, qe4, qe5, qe6] at hc) | skip))
  | (refine wpX_scope0 ?_)
  | (refine wpX_block ?_)
  | (refine wpX_seq ?_))
  (intro ab hab; generalize hG : Hp.set _ ab _ = H1; have lH1 := le_of_set hG hab; have vab := at_of_set hG; clear hG)
  (try simp -implicitDefEqProofs (disch := first | omega | (simp only [qd] <;> omega)) only [xq, ↓xp, qc, Nat.reduceAdd, List.range, List.range.loop, fine, Nat.reduceEqDiff, ↓reduceIte, yielded, reduceCtorEq, Nat.reduceLT, Nat.reduceMul, Nat.reduceSub, one, Nat.reduceLeDiff, runX_cons, y40_37, aq, ↓ap, qe0, qe1, qe2, *, -hK]); try (refine hK _ _ ?_; clear hK K; (try simp only [nq, ↓reduceIte, Nat.reduceEqDiff])); repeat' (first
  | (refine wpX_stmtL rfl ?_; intro K hK; simp -implicitDefEqProofs (disch := first | omega | (simp only [qd] <;> omega)) only [xq, ↓xp, qc, Nat.reduceAdd, List.range, List.range.loop, fine, Nat.reduceEqDiff, ↓reduceIte, yielded, reduceCtorEq, Nat.reduceLT, Nat.reduceMul, Nat.reduceSub, one, Nat.reduceLeDiff, runX_cons, y40_37, aq, ↓ap, qe0, qe1, qe2, *, -hK]; try (refine hK _ _ ?_; clear hK K))
  | (refine wpX_lastL rfl ?_; intro K hK; simp -implicitDefEqProofs (disch := first | omega | (simp only [qd] <;> omega)) only [xq, ↓xp, qc, Nat.reduceAdd, List.range, List.range.loop, fine, Nat.reduceEqDiff, ↓reduceIte, yielded, reduceCtorEq, Nat.reduceLT, Nat.reduceMul, Nat.reduceSub, one, Nat.reduceLeDiff, runX_cons, y40_37, aq, ↓ap, qe0, qe1, qe2, *, -hK]; try (refine hK _ _ ?_; clear hK K; (try simp only [nq, ↓reduceIte, Nat.reduceEqDiff])))
  | (refine wpX_skip ?_; (try simp only [nq, ↓reduceIte, Nat.reduceEqDiff]))
  | (refine wpX_label ?_; (try simp only [nq, ↓reduceIte, Nat.reduceEqDiff]))
  | (refine wpX_exit ?_; (try simp only [nq, ↓reduceIte, Nat.reduceEqDiff]))
  | (refine wpX_goto ?_; (try simp only [nq, ↓reduceIte, Nat.reduceEqDiff]))
  | (refine wpX_condK (by simp only [act_eval, upd_get, Nat.reduceEqDiff, Nat.reduceLT, ↓reduceIte, *]; rfl) ?_ ?_ <;> (intro hc; first | (exfalso; simp -implicitDefEqProofs (disch := omega) only [*, bq, reduceCtorEq] at hc; done) | (simp only [dq, qe3, qe4, qe5, qe6] at hc) | skip))
  | (refine wpX_scope0 ?_)
  | (refine wpX_block ?_)
  | (refine wpX_seq ?_))
  (intro hb hhb; generalize hG : Hp.set _ hb _ = H2; have lH2 := le_of_set hG hhb; have vhb := at_of_set hG; clear hG)
  have lH12 := Hp.le_trans lH1 lH2
  have h0b : H hb = none := Hp.le_none lH1 hhb
  have hday2 := hday.le lH12
  clear vab lH1 lH2 hab hhb
  (try simp -implicitDefEqProofs (disch := first | omega | (simp only [qd] <;> omega)) only [xq, ↓xp, qc, Nat.reduceAdd, List.range, List.range.loop, fine, Nat.reduceEqDiff, ↓reduceIte, yielded, reduceCtorEq, Nat.reduceLT, Nat.reduceMul, Nat.reduceSub, one, Nat.reduceLeDiff, runX_cons, y40_37, aq, ↓ap, qe0, qe1, qe2, *, -hK]); try (refine hK _ _ ?_; clear hK K; (try simp only [nq, ↓reduceIte, Nat.reduceEqDiff])); repeat' (first
  | (refine wpX_stmtL rfl ?_; intro K hK; simp -implicitDefEqProofs (disch := first | omega | (simp only [qd] <;> omega)) only [xq, ↓xp, qc, Nat.reduceAdd, List.range, List.range.loop, fine, Nat.reduceEqDiff, ↓reduceIte, yielded, reduceCtorEq, Nat.reduceLT, Nat.reduceMul, Nat.reduceSub, one, Nat.reduceLeDiff, runX_cons, y40_37, aq, ↓ap, qe0, qe1, qe2, *, -hK]; try (refine hK _ _ ?_; clear hK K))
  | (refine wpX_lastL rfl ?_; intro K hK; simp -implicitDefEqProofs (disch := first | omega | (simp only [qd] <;> omega)) only [xq, ↓xp, qc, Nat.reduceAdd, List.range, List.range.loop, fine, Nat.reduceEqDiff, ↓reduceIte, yielded, reduceCtorEq, Nat.reduceLT, Nat.reduceMul, Nat.reduceSub, one, Nat.reduceLeDiff, runX_cons, y40_37, aq, ↓ap, qe0, qe1, qe2, *, -hK]; try (refine hK _ _ ?_; clear hK K; (try simp only [nq, ↓reduceIte, Nat.reduceEqDiff])))
  | (refine wpX_skip ?_; (try simp only [nq, ↓reduceIte, Nat.reduceEqDiff]))
  | (refine wpX_label ?_; (try simp only [nq, ↓reduceIte, Nat.reduceEqDiff]))
  | (refine wpX_exit ?_; (try simp only [nq, ↓reduceIte, Nat.reduceEqDiff]))
  | (refine wpX_goto ?_; (try simp only [nq, ↓reduceIte, Nat.reduceEqDiff]))
  | (refine wpX_condK (by simp only [act_eval, upd_get, Nat.reduceEqDiff, Nat.reduceLT, ↓reduceIte, *]; rfl) ?_ ?_ <;> (intro hc; first | (exfalso; simp -implicitDefEqProofs (disch := omega) only [*, bq, reduceCtorEq] at hc; done) | (simp only [dq, qe3, qe4, qe5, qe6] at hc) | skip)))
  refine wpX_cut (fun a' H' => ∃ e w tb, a' = act 73 e [] ∧ e 3 = .pointer (some ⟨hb, 0, none⟩) ∧ e 4 = .pointer (some ⟨tb, 0, none⟩) ∧ H' tb = some (true, .cells #[w] 22 (0, 0)) ∧ SlI H' w ss ∧ H2.le H') ?_ ?_
  · refine wpX_tlast (fun HX => HX hb = some (true, .cells #[.int .i64 places, .int .i64 pieces, .slice sa start.length sc, .slice ca cn cc, .slice ta ts.length tc, .int .i64 rule, .slice xa xn xc, .int .i64 notice, .int .i64 load, .int .i64 barrows, .int .i64 lo, .int .i64 hi, .slice none 0 0] 68 (0, 0))) (.take 0 (.take 1 (.take 2 (.take 3 (.take 4 (.take 5 (.take 6 (.take 7 (.take 8 (.take 9 (.take 10 (.take 11 (.take 12 (.take 13 (.take 14 (.two 15 (.take 16 (.take 17 (.take 18 (.take 19 (.one 20 (.one 21 (.take 22 (.take 23 .nil)))))))) 20 (.one 15 (.take 16 (.take 17 (.take 18 (.take 19 (.one 21 (.take 22 (.take 23 .nil)))))))))))))))))))))))) (by kernel_rfl) (by kernel_rfl) (by decide) (by kernel_rfl) ?_; intro K hK
    (iterate 15 (apply planT_take rfl rfl rfl ‹_›; (focus (intro HX hHX; simp -implicitDefEqProofs (disch := first | omega | (simp only [qd] <;> omega)) only [xq, ↓xp, qc, Nat.reduceAdd, List.range, List.range.loop, fine, Nat.reduceEqDiff, ↓reduceIte, yielded, reduceCtorEq, Nat.reduceLT, Nat.reduceMul, Nat.reduceSub, one, Nat.reduceLeDiff, runX_cons, y40_37, aq, ↓ap, qe0, qe1, qe2, *, -hK, YN_value] <;> (first | exact rfl | exact ⟨rfl, rfl⟩ | exact ⟨rfl, trivial⟩))); simp -implicitDefEqProofs (disch := first | omega | (simp only [qd] <;> omega)) only [act_put, act_put_none]))
    refine planT_two ?_ ?_
    · simp -implicitDefEqProofs (disch := first | omega | (simp only [qd] <;> omega)) only [xq, ↓xp, qc, Nat.reduceAdd, List.range, List.range.loop, fine, Nat.reduceEqDiff, ↓reduceIte, yielded, reduceCtorEq, Nat.reduceLT, Nat.reduceMul, Nat.reduceSub, one, Nat.reduceLeDiff, runX_cons, y40_37, aq, ↓ap, qe0, qe1, qe2, *, -hK]
      refine (vrun_spec main H2 places pieces _ _ _ start xss ts hday2 rule r0 r3).runs.mono ?_
      rintro _ H3 ⟨w, rfl, lH3, hw⟩
      rw [← hsents] at hw
      have vhb3 := lH3 _ _ vhb
      simp -implicitDefEqProofs (disch := first | omega | (simp only [qd] <;> omega)) only [xq, ↓xp, qc, Nat.reduceAdd, List.range, List.range.loop, fine, Nat.reduceEqDiff, ↓reduceIte, yielded, reduceCtorEq, Nat.reduceLT, Nat.reduceMul, Nat.reduceSub, one, Nat.reduceLeDiff, runX_cons, y40_37, aq, ↓ap, qe0, qe1, qe2, *, -hK]
      (iterate 4 (apply planT_take rfl rfl rfl ‹_›; (focus (intro HX hHX; simp -implicitDefEqProofs (disch := first | omega | (simp only [qd] <;> omega)) only [xq, ↓xp, qc, Nat.reduceAdd, List.range, List.range.loop, fine, Nat.reduceEqDiff, ↓reduceIte, yielded, reduceCtorEq, Nat.reduceLT, Nat.reduceMul, Nat.reduceSub, one, Nat.reduceLeDiff, runX_cons, y40_37, aq, ↓ap, qe0, qe1, qe2, *, -hK, YN_value] <;> (first | exact rfl | exact ⟨rfl, rfl⟩ | exact ⟨rfl, trivial⟩))); simp -implicitDefEqProofs (disch := first | omega | (simp only [qd] <;> omega)) only [act_put, act_put_none]))
      refine planT_one ?_
      simp -implicitDefEqProofs (disch := first | omega | (simp only [qd] <;> omega)) only [xq, ↓xp, qc, Nat.reduceAdd, List.range, List.range.loop, fine, Nat.reduceEqDiff, ↓reduceIte, yielded, reduceCtorEq, Nat.reduceLT, Nat.reduceMul, Nat.reduceSub, one, Nat.reduceLeDiff, runX_cons, y40_37, aq, ↓ap, qe0, qe1, qe2, *, -hK]
      intro tb htb
      have nht : hb ≠ tb := ne_new vhb3 htb
      simp -implicitDefEqProofs (disch := first | omega | (simp only [qd] <;> omega)) only [xq, ↓xp, qc, Nat.reduceAdd, List.range, List.range.loop, fine, Nat.reduceEqDiff, ↓reduceIte, yielded, reduceCtorEq, Nat.reduceLT, Nat.reduceMul, Nat.reduceSub, one, Nat.reduceLeDiff, runX_cons, y40_37, aq, ↓ap, qe0, qe1, qe2, *, -hK]
      refine planT_one ?_
      have vhb4 : (H3.set tb (.cells #[.slice none 0 0] 22 (0, 0))) hb = _ := (set_ne nht).trans vhb3
      have lH4 : H3.le (H3.set tb (.cells #[w] 22 (0, 0))) := Hp.le_set htb
      obtain ⟨wa, wn, wc, rfl⟩ := hw.isSlice
      simp -implicitDefEqProofs (disch := first | omega | (simp only [qd] <;> omega)) only [xq, ↓xp, qc, Nat.reduceAdd, List.range, List.range.loop, fine, Nat.reduceEqDiff, ↓reduceIte, yielded, reduceCtorEq, Nat.reduceLT, Nat.reduceMul, Nat.reduceSub, one, Nat.reduceLeDiff, runX_cons, y40_37, aq, ↓ap, qe0, qe1, qe2, *, -hK]
      have vhb5 : (H3.set tb (.cells #[.slice wa wn wc] 22 (0, 0))) hb = _ := (set_ne nht).trans vhb3
      (iterate 2 (apply planT_take rfl rfl rfl ‹_›; (focus (intro HX hHX; simp -implicitDefEqProofs (disch := first | omega | (simp only [qd] <;> omega)) only [xq, ↓xp, qc, Nat.reduceAdd, List.range, List.range.loop, fine, Nat.reduceEqDiff, ↓reduceIte, yielded, reduceCtorEq, Nat.reduceLT, Nat.reduceMul, Nat.reduceSub, one, Nat.reduceLeDiff, runX_cons, y40_37, aq, ↓ap, qe0, qe1, qe2, *, -hK, YN_value] <;> (first | exact rfl | exact ⟨rfl, rfl⟩ | exact ⟨rfl, trivial⟩))); simp -implicitDefEqProofs (disch := first | omega | (simp only [qd] <;> omega)) only [act_put, act_put_none]))
      refine planT_nil (hK _ _ ?_); clear hK K
      (try simp only [nq, ↓reduceIte, Nat.reduceEqDiff])
      exact ⟨_, _, tb, rfl, rfl, rfl, set_at, hw.le lH4, Hp.le_trans lH3 lH4⟩
    · simp -implicitDefEqProofs (disch := first | omega | (simp only [qd] <;> omega)) only [xq, ↓xp, qc, Nat.reduceAdd, List.range, List.range.loop, fine, Nat.reduceEqDiff, ↓reduceIte, yielded, reduceCtorEq, Nat.reduceLT, Nat.reduceMul, Nat.reduceSub, one, Nat.reduceLeDiff, runX_cons, y40_37, aq, ↓ap, qe0, qe1, qe2, *, -hK]
      intro tb htb
      have nht : hb ≠ tb := ne_new vhb htb
      have lH3 : H2.le (H2.set tb (.cells #[.slice none 0 0] 22 (0, 0))) := Hp.le_set htb
      have vtb3 : (H2.set tb (.cells #[.slice none 0 0] 22 (0, 0))) tb = _ := set_at
      have vhb3 : (H2.set tb (.cells #[.slice none 0 0] 22 (0, 0))) hb = _ := (set_ne nht).trans vhb
      generalize H2.set tb (.cells #[.slice none 0 0] 22 (0, 0)) = H3 at *
      have hday3 := hday2.le lH3
      simp -implicitDefEqProofs (disch := first | omega | (simp only [qd] <;> omega)) only [xq, ↓xp, qc, Nat.reduceAdd, List.range, List.range.loop, fine, Nat.reduceEqDiff, ↓reduceIte, yielded, reduceCtorEq, Nat.reduceLT, Nat.reduceMul, Nat.reduceSub, one, Nat.reduceLeDiff, runX_cons, y40_37, aq, ↓ap, qe0, qe1, qe2, *, -hK]
      refine planT_one ?_
      simp -implicitDefEqProofs (disch := first | omega | (simp only [qd] <;> omega)) only [xq, ↓xp, qc, Nat.reduceAdd, List.range, List.range.loop, fine, Nat.reduceEqDiff, ↓reduceIte, yielded, reduceCtorEq, Nat.reduceLT, Nat.reduceMul, Nat.reduceSub, one, Nat.reduceLeDiff, runX_cons, y40_37, aq, ↓ap, qe0, qe1, qe2, *, -hK]
      refine (vrun_spec main H3 places pieces _ _ _ start xss ts hday3 rule r0 r3).runs.mono ?_
      rintro _ H4 ⟨w, rfl, lH4, hw⟩
      rw [← hsents] at hw
      have vhb4 := lH4 _ _ vhb3
      have vtb4 := lH4 _ _ vtb3
      obtain ⟨wa, wn, wc, rfl⟩ := hw.isSlice
      simp -implicitDefEqProofs (disch := first | omega | (simp only [qd] <;> omega)) only [xq, ↓xp, qc, Nat.reduceAdd, List.range, List.range.loop, fine, Nat.reduceEqDiff, ↓reduceIte, yielded, reduceCtorEq, Nat.reduceLT, Nat.reduceMul, Nat.reduceSub, one, Nat.reduceLeDiff, runX_cons, y40_37, aq, ↓ap, qe0, qe1, qe2, *, -hK]
      (iterate 4 (apply planT_take rfl rfl rfl ‹_›; (focus (intro HX hHX; simp -implicitDefEqProofs (disch := first | omega | (simp only [qd] <;> omega)) only [xq, ↓xp, qc, Nat.reduceAdd, List.range, List.range.loop, fine, Nat.reduceEqDiff, ↓reduceIte, yielded, reduceCtorEq, Nat.reduceLT, Nat.reduceMul, Nat.reduceSub, one, Nat.reduceLeDiff, runX_cons, y40_37, aq, ↓ap, qe0, qe1, qe2, *, -hK, YN_value] <;> (first | exact rfl | exact ⟨rfl, rfl⟩ | exact ⟨rfl, trivial⟩))); simp -implicitDefEqProofs (disch := first | omega | (simp only [qd] <;> omega)) only [act_put, act_put_none]))
      refine planT_one ?_
      simp -implicitDefEqProofs (disch := first | omega | (simp only [qd] <;> omega)) only [xq, ↓xp, qc, Nat.reduceAdd, List.range, List.range.loop, fine, Nat.reduceEqDiff, ↓reduceIte, yielded, reduceCtorEq, Nat.reduceLT, Nat.reduceMul, Nat.reduceSub, one, Nat.reduceLeDiff, runX_cons, y40_37, aq, ↓ap, qe0, qe1, qe2, *, -hK]
      have vhb5 : (H4.set tb (.cells #[.slice wa wn wc] 22 (0, 0))) hb = _ := (set_ne nht).trans vhb4
      (iterate 2 (apply planT_take rfl rfl rfl ‹_›; (focus (intro HX hHX; simp -implicitDefEqProofs (disch := first | omega | (simp only [qd] <;> omega)) only [xq, ↓xp, qc, Nat.reduceAdd, List.range, List.range.loop, fine, Nat.reduceEqDiff, ↓reduceIte, yielded, reduceCtorEq, Nat.reduceLT, Nat.reduceMul, Nat.reduceSub, one, Nat.reduceLeDiff, runX_cons, y40_37, aq, ↓ap, qe0, qe1, qe2, *, -hK, YN_value] <;> (first | exact rfl | exact ⟨rfl, rfl⟩ | exact ⟨rfl, trivial⟩))); simp -implicitDefEqProofs (disch := first | omega | (simp only [qd] <;> omega)) only [act_put, act_put_none]))
      refine planT_nil (hK _ _ ?_); clear hK K
      (try simp only [nq, ↓reduceIte, Nat.reduceEqDiff])
      refine ⟨_, _, tb, rfl, rfl, rfl, set_at, hw.set (fun p c fr h => by rw [vtb4] at h; cases h), ?_⟩
      intro x u hx
      rw [set_ne (fun e => by rw [e, htb] at hx; cases hx)]
      exact lH4 _ _ (lH3 _ _ hx)
  · rintro a' H5 ⟨e, w, tb, rfl, e3, e4, vtb, hw, lH5⟩
    have vhb5 := lH5 _ _ vhb
    have lHH5 : H.le H5 := Hp.le_trans lH12 lH5
    have hday5 := hday2.le lH5
    have ntb : tb ≠ hb := fun e => by rw [e, vhb5] at vtb; cases vtb
    clear hday2 vhb
    repeat' (first
  | (refine wpX_stmtL rfl ?_; intro K hK; simp -implicitDefEqProofs (disch := first | omega | (simp only [qd] <;> omega)) only [xq, ↓xp, qc, Nat.reduceAdd, List.range, List.range.loop, fine, Nat.reduceEqDiff, ↓reduceIte, yielded, reduceCtorEq, Nat.reduceLT, Nat.reduceMul, Nat.reduceSub, one, Nat.reduceLeDiff, runX_cons, y40_37, aq, ↓ap, qe0, qe1, qe2, *, -hK]; try (refine hK _ _ ?_; clear hK K))
  | (refine wpX_lastL rfl ?_; intro K hK; simp -implicitDefEqProofs (disch := first | omega | (simp only [qd] <;> omega)) only [xq, ↓xp, qc, Nat.reduceAdd, List.range, List.range.loop, fine, Nat.reduceEqDiff, ↓reduceIte, yielded, reduceCtorEq, Nat.reduceLT, Nat.reduceMul, Nat.reduceSub, one, Nat.reduceLeDiff, runX_cons, y40_37, aq, ↓ap, qe0, qe1, qe2, *, -hK]; try (refine hK _ _ ?_; clear hK K; (try simp only [nq, ↓reduceIte, Nat.reduceEqDiff])))
  | (refine wpX_skip ?_; (try simp only [nq, ↓reduceIte, Nat.reduceEqDiff]))
  | (refine wpX_label ?_; (try simp only [nq, ↓reduceIte, Nat.reduceEqDiff]))
  | (refine wpX_exit ?_; (try simp only [nq, ↓reduceIte, Nat.reduceEqDiff]))
  | (refine wpX_goto ?_; (try simp only [nq, ↓reduceIte, Nat.reduceEqDiff]))
  | (refine wpX_condK (by simp only [act_eval, upd_get, Nat.reduceEqDiff, Nat.reduceLT, ↓reduceIte, *]; rfl) ?_ ?_ <;> (intro hc; first | (exfalso; simp -implicitDefEqProofs (disch := omega) only [*, bq, reduceCtorEq] at hc; done) | (simp only [dq, qe3, qe4, qe5, qe6] at hc) | skip))
  | (refine wpX_scope0 ?_)
  | (refine wpX_block ?_)
  | (refine wpX_seq ?_))
    refine (clone_spec main H5 _ start hday5.st (by have := hday5.ok.2.2.2.2.1; have := hday5.ok.2.1; omega)).runs.mono ?_
    rintro _ H6 ⟨ov, rfl, hov⟩
    have vhb6 := hov.1.toLe _ _ vhb5
    have vtb6 := hov.1.toLe _ _ vtb
    have hday6 := hday5.le hov.1.toLe
    (try simp -implicitDefEqProofs (disch := first | omega | (simp only [qd] <;> omega)) only [xq, ↓xp, qc, Nat.reduceAdd, List.range, List.range.loop, fine, Nat.reduceEqDiff, ↓reduceIte, yielded, reduceCtorEq, Nat.reduceLT, Nat.reduceMul, Nat.reduceSub, one, Nat.reduceLeDiff, runX_cons, y40_37, aq, ↓ap, qe0, qe1, qe2, *, -hK]); try (refine hK _ _ ?_; clear hK K; (try simp only [nq, ↓reduceIte, Nat.reduceEqDiff])); repeat' (first
  | (refine wpX_stmtL rfl ?_; intro K hK; simp -implicitDefEqProofs (disch := first | omega | (simp only [qd] <;> omega)) only [xq, ↓xp, qc, Nat.reduceAdd, List.range, List.range.loop, fine, Nat.reduceEqDiff, ↓reduceIte, yielded, reduceCtorEq, Nat.reduceLT, Nat.reduceMul, Nat.reduceSub, one, Nat.reduceLeDiff, runX_cons, y40_37, aq, ↓ap, qe0, qe1, qe2, *, -hK]; try (refine hK _ _ ?_; clear hK K))
  | (refine wpX_lastL rfl ?_; intro K hK; simp -implicitDefEqProofs (disch := first | omega | (simp only [qd] <;> omega)) only [xq, ↓xp, qc, Nat.reduceAdd, List.range, List.range.loop, fine, Nat.reduceEqDiff, ↓reduceIte, yielded, reduceCtorEq, Nat.reduceLT, Nat.reduceMul, Nat.reduceSub, one, Nat.reduceLeDiff, runX_cons, y40_37, aq, ↓ap, qe0, qe1, qe2, *, -hK]; try (refine hK _ _ ?_; clear hK K; (try simp only [nq, ↓reduceIte, Nat.reduceEqDiff])))
  | (refine wpX_skip ?_; (try simp only [nq, ↓reduceIte, Nat.reduceEqDiff]))
  | (refine wpX_label ?_; (try simp only [nq, ↓reduceIte, Nat.reduceEqDiff]))
  | (refine wpX_exit ?_; (try simp only [nq, ↓reduceIte, Nat.reduceEqDiff]))
  | (refine wpX_goto ?_; (try simp only [nq, ↓reduceIte, Nat.reduceEqDiff]))
  | (refine wpX_condK (by simp only [act_eval, upd_get, Nat.reduceEqDiff, Nat.reduceLT, ↓reduceIte, *]; rfl) ?_ ?_ <;> (intro hc; first | (exfalso; simp -implicitDefEqProofs (disch := omega) only [*, bq, reduceCtorEq] at hc; done) | (simp only [dq, qe3, qe4, qe5, qe6] at hc) | skip))
  | (refine wpX_scope0 ?_)
  | (refine wpX_block ?_)
  | (refine wpX_seq ?_))
    have hw5 := hw
    have htv5 := hday5.truth
    have hss : ss.length = ts.length := by
      rw [hsents, List.length_take, (rrun_ok places rule ts start (fun t ht => by
        have h1 := hday5.ok.2.2.2.2.2.2.1 t ht
        have h2 := hday5.ok.2.2.2.1
        omega) (hday5.true.bnd hday5.ok) (by omega) ts.length (Nat.le_refl _)).cl]
      omega
    have hstl : start.length ≤ 1000 := by have := hday5.ok.2.2.2.2.1; have := hday5.ok.2.1; omega
    have htyp : ∀ p c fr, H5 hb ≠ some (p, .cells c 3 fr) := fun p c fr h => by rw [vhb5] at h; cases h
    refine wpX_loop (fun w' a' H' => ∃ e i ov jv off jobs, w' = ts.length - i ∧ i ≤ ts.length ∧ nhS ts ss start i = (off, jobs) ∧ a' = act 73 e [] ∧ e 3 = .pointer (some ⟨hb, 0, none⟩) ∧ e 4 = .pointer (some ⟨tb, 0, none⟩) ∧ e 7 = ov ∧ e 44 = .slice ta ts.length tc ∧ e 45 = .int .i64 ts.length ∧ e 46 = .int .i64 (i : Nat) ∧
      RowX (some hb) H5 H' ov 3 (ints off) ∧ RowX (some hb) H5 H' jv 3 (ints jobs) ∧ (∀ x, rowB jv = some x → rowB ov ≠ some x) ∧ H' hb = some (true, .cells #[.int .i64 places, .int .i64 pieces, .slice sa start.length sc, .slice ca cn cc, .slice ta ts.length tc, .int .i64 rule, .slice xa xn xc, .int .i64 notice, .int .i64 load, .int .i64 barrows, .int .i64 lo, .int .i64 hi, jv] 68 (0, 0))) (n := ts.length) ?_ ?_
    · exact ⟨_, 0, ov, .slice none 0 0, start, [], rfl, by omega, rfl, rfl, e3, e4, rfl, rfl, rfl, rfl, ⟨Lex.of hov.1.toLe, hov.2⟩, ⟨Lex.of hov.1.toLe, .inl ⟨rfl, rfl⟩⟩, (fun x hx => by cases hx), vhb6⟩
    · clear hov vhb6 vtb6 hday6 e3 e4 hday hday0 htimes lH12 hday5
      rename_i eold
      clear eold
      rintro w' a' H7 ⟨e, i, ov, jv, off, jobs, rfl, hile, hnh, rfl, e3, e4, e7, e44, e45, e46, hov, hjv, hsep, vhb7⟩
      have vtb7 := hov.1.keeps vtb ntb
      have htv7 := htv5.lexO hov.1 htyp
      have hw7 := hw5.lexO hov.1 htyp
      have hlen := nhS_len ts ss start i
      rw [hnh] at hlen
      simp only [] at hlen
      by_cases hlt : i < ts.length
      · have hsucc : nhS ts ss start (i + 1) = if ts[i] ∈ off then (off, jobs) else ((off.filter fun x => !(x == ss.getD i 0)) ++ [ts[i]], jobs ++ [(i : Int)]) := by
          have hg : ts.getD i 0 = ts[i] := by simp [List.getD, List.getElem?_eq_getElem hlt]
          simp only [nhS, hnh, hg]
        obtain ⟨b, o, cap', p, c, fr, hve, _, hb', hx⟩ := htv7.cons (fun h => absurd (congrArg List.length h) (by simp only [List.length_nil]; omega))
        cases hve
        have hxi := hx i ts[i] (List.getElem?_eq_getElem hlt)
        generalize ts[i] = t at hsucc hxi
        generalize hn1 : nhS ts ss start (i + 1) = N1 at hsucc
        repeat' (first
  | (refine wpX_stmtL rfl ?_; intro K hK; simp -implicitDefEqProofs (disch := first | omega | (simp only [qd] <;> omega)) only [xq, ↓xp, qc, Nat.reduceAdd, List.range, List.range.loop, fine, Nat.reduceEqDiff, ↓reduceIte, yielded, reduceCtorEq, Nat.reduceLT, Nat.reduceMul, Nat.reduceSub, one, Nat.reduceLeDiff, runX_cons, y40_37, aq, ↓ap, qe0, qe1, qe2, *, -hK]; try (refine hK _ _ ?_; clear hK K))
  | (refine wpX_lastL rfl ?_; intro K hK; simp -implicitDefEqProofs (disch := first | omega | (simp only [qd] <;> omega)) only [xq, ↓xp, qc, Nat.reduceAdd, List.range, List.range.loop, fine, Nat.reduceEqDiff, ↓reduceIte, yielded, reduceCtorEq, Nat.reduceLT, Nat.reduceMul, Nat.reduceSub, one, Nat.reduceLeDiff, runX_cons, y40_37, aq, ↓ap, qe0, qe1, qe2, *, -hK]; try (refine hK _ _ ?_; clear hK K; (try simp only [nq, ↓reduceIte, Nat.reduceEqDiff])))
  | (refine wpX_skip ?_; (try simp only [nq, ↓reduceIte, Nat.reduceEqDiff]))
  | (refine wpX_label ?_; (try simp only [nq, ↓reduceIte, Nat.reduceEqDiff]))
  | (refine wpX_exit ?_; (try simp only [nq, ↓reduceIte, Nat.reduceEqDiff]))
  | (refine wpX_goto ?_; (try simp only [nq, ↓reduceIte, Nat.reduceEqDiff]))
  | (refine wpX_condK (by simp only [act_eval, upd_get, Nat.reduceEqDiff, Nat.reduceLT, ↓reduceIte, *]; rfl) ?_ ?_ <;> (intro hc; first | (exfalso; simp -implicitDefEqProofs (disch := omega) only [*, bq, reduceCtorEq] at hc; done) | (simp only [dq, qe3, qe4, qe5, qe6] at hc) | skip))
  | (refine wpX_scope0 ?_)
  | (refine wpX_block ?_)
  | (refine wpX_seq ?_))
        (intro ib hib; generalize hG : Hp.set _ ib _ = H8; have lH8 := le_of_set hG hib; have vib := at_of_set hG; clear hG)
        have vhb8 := lH8 _ _ vhb7
        have vtb8 := lH8 _ _ vtb7
        have hov8 := hov.le lH8
        have hjv8 := hjv.le lH8
        have nbi : ib ≠ hb := fun e => by rw [e, vhb7] at hib; cases hib
        have nti : ib ≠ tb := fun e => by rw [e, vtb7] at hib; cases hib
        have noi : rowB ov ≠ some ib := fun e => by obtain ⟨_, u, hu⟩ := row_new hov e; rw [hib] at hu; cases hu
        have nji : rowB jv ≠ some ib := fun e => by obtain ⟨_, u, hu⟩ := row_new hjv e; rw [hib] at hu; cases hu
        clear vhb7 vtb7 hb' hxi hx htv7 hw7
        obtain ⟨oa, oc, rfl⟩ := hov.len
        (try simp -implicitDefEqProofs (disch := first | omega | (simp only [qd] <;> omega)) only [xq, ↓xp, qc, Nat.reduceAdd, List.range, List.range.loop, fine, Nat.reduceEqDiff, ↓reduceIte, yielded, reduceCtorEq, Nat.reduceLT, Nat.reduceMul, Nat.reduceSub, one, Nat.reduceLeDiff, runX_cons, y40_37, aq, ↓ap, qe0, qe1, qe2, *, -hK]); try (refine hK _ _ ?_; clear hK K; (try simp only [nq, ↓reduceIte, Nat.reduceEqDiff])); repeat' (first
  | (refine wpX_stmtL rfl ?_; intro K hK; simp -implicitDefEqProofs (disch := first | omega | (simp only [qd] <;> omega)) only [xq, ↓xp, qc, Nat.reduceAdd, List.range, List.range.loop, fine, Nat.reduceEqDiff, ↓reduceIte, yielded, reduceCtorEq, Nat.reduceLT, Nat.reduceMul, Nat.reduceSub, one, Nat.reduceLeDiff, runX_cons, y40_37, aq, ↓ap, qe0, qe1, qe2, *, -hK]; try (refine hK _ _ ?_; clear hK K))
  | (refine wpX_lastL rfl ?_; intro K hK; simp -implicitDefEqProofs (disch := first | omega | (simp only [qd] <;> omega)) only [xq, ↓xp, qc, Nat.reduceAdd, List.range, List.range.loop, fine, Nat.reduceEqDiff, ↓reduceIte, yielded, reduceCtorEq, Nat.reduceLT, Nat.reduceMul, Nat.reduceSub, one, Nat.reduceLeDiff, runX_cons, y40_37, aq, ↓ap, qe0, qe1, qe2, *, -hK]; try (refine hK _ _ ?_; clear hK K; (try simp only [nq, ↓reduceIte, Nat.reduceEqDiff])))
  | (refine wpX_skip ?_; (try simp only [nq, ↓reduceIte, Nat.reduceEqDiff]))
  | (refine wpX_label ?_; (try simp only [nq, ↓reduceIte, Nat.reduceEqDiff]))
  | (refine wpX_exit ?_; (try simp only [nq, ↓reduceIte, Nat.reduceEqDiff]))
  | (refine wpX_goto ?_; (try simp only [nq, ↓reduceIte, Nat.reduceEqDiff]))
  | (refine wpX_condK (by simp only [act_eval, upd_get, Nat.reduceEqDiff, Nat.reduceLT, ↓reduceIte, *]; rfl) ?_ ?_ <;> (intro hc; first | (exfalso; simp -implicitDefEqProofs (disch := omega) only [*, bq, reduceCtorEq] at hc; done) | (simp only [dq, qe3, qe4, qe5, qe6] at hc) | skip))
  | (refine wpX_scope0 ?_)
  | (refine wpX_block ?_)
  | (refine wpX_seq ?_))
        refine (contains_spec main H8 _ off t hov8.ints (by omega)).runs.mono ?_
        rintro _ HQ ⟨rfl, hHQ⟩; rw [hHQ]; clear hHQ HQ
        by_cases hmem : t ∈ off
        · rw [if_pos hmem] at hsucc
          (try simp -implicitDefEqProofs (disch := first | omega | (simp only [qd] <;> omega)) only [xq, ↓xp, qc, Nat.reduceAdd, List.range, List.range.loop, fine, Nat.reduceEqDiff, ↓reduceIte, yielded, reduceCtorEq, Nat.reduceLT, Nat.reduceMul, Nat.reduceSub, one, Nat.reduceLeDiff, runX_cons, y40_37, aq, ↓ap, qe0, qe1, qe2, *, -hK]); try (refine hK _ _ ?_; clear hK K; (try simp only [nq, ↓reduceIte, Nat.reduceEqDiff])); repeat' (first
  | (refine wpX_stmtL rfl ?_; intro K hK; simp -implicitDefEqProofs (disch := first | omega | (simp only [qd] <;> omega)) only [xq, ↓xp, qc, Nat.reduceAdd, List.range, List.range.loop, fine, Nat.reduceEqDiff, ↓reduceIte, yielded, reduceCtorEq, Nat.reduceLT, Nat.reduceMul, Nat.reduceSub, one, Nat.reduceLeDiff, runX_cons, y40_37, aq, ↓ap, qe0, qe1, qe2, *, -hK]; try (refine hK _ _ ?_; clear hK K))
  | (refine wpX_lastL rfl ?_; intro K hK; simp -implicitDefEqProofs (disch := first | omega | (simp only [qd] <;> omega)) only [xq, ↓xp, qc, Nat.reduceAdd, List.range, List.range.loop, fine, Nat.reduceEqDiff, ↓reduceIte, yielded, reduceCtorEq, Nat.reduceLT, Nat.reduceMul, Nat.reduceSub, one, Nat.reduceLeDiff, runX_cons, y40_37, aq, ↓ap, qe0, qe1, qe2, *, -hK]; try (refine hK _ _ ?_; clear hK K; (try simp only [nq, ↓reduceIte, Nat.reduceEqDiff])))
  | (refine wpX_skip ?_; (try simp only [nq, ↓reduceIte, Nat.reduceEqDiff]))
  | (refine wpX_label ?_; (try simp only [nq, ↓reduceIte, Nat.reduceEqDiff]))
  | (refine wpX_exit ?_; (try simp only [nq, ↓reduceIte, Nat.reduceEqDiff]))
  | (refine wpX_goto ?_; (try simp only [nq, ↓reduceIte, Nat.reduceEqDiff]))
  | (refine wpX_condK (by simp only [act_eval, upd_get, Nat.reduceEqDiff, Nat.reduceLT, ↓reduceIte, *]; rfl) ?_ ?_ <;> (intro hc; first | (exfalso; simp -implicitDefEqProofs (disch := omega) only [*, bq, reduceCtorEq] at hc; done) | (simp only [dq, qe3, qe4, qe5, qe6] at hc) | skip))
  | (refine wpX_scope0 ?_)
  | (refine wpX_block ?_)
  | (refine wpX_seq ?_))
          exact ⟨_, by omega, _, i + 1, _, jv, off, jobs, rfl, hlt, by rw [hn1, hsucc], rfl, e3, e4, e7, e44, e45, rfl, hov8, hjv8, hsep, vhb8⟩
        · rw [if_neg hmem] at hsucc
          (try simp -implicitDefEqProofs (disch := first | omega | (simp only [qd] <;> omega)) only [xq, ↓xp, qc, Nat.reduceAdd, List.range, List.range.loop, fine, Nat.reduceEqDiff, ↓reduceIte, yielded, reduceCtorEq, Nat.reduceLT, Nat.reduceMul, Nat.reduceSub, one, Nat.reduceLeDiff, runX_cons, y40_37, aq, ↓ap, qe0, qe1, qe2, *, -hK]); try (refine hK _ _ ?_; clear hK K; (try simp only [nq, ↓reduceIte, Nat.reduceEqDiff])); repeat' (first
  | (refine wpX_stmtL rfl ?_; intro K hK; simp -implicitDefEqProofs (disch := first | omega | (simp only [qd] <;> omega)) only [xq, ↓xp, qc, Nat.reduceAdd, List.range, List.range.loop, fine, Nat.reduceEqDiff, ↓reduceIte, yielded, reduceCtorEq, Nat.reduceLT, Nat.reduceMul, Nat.reduceSub, one, Nat.reduceLeDiff, runX_cons, y40_37, aq, ↓ap, qe0, qe1, qe2, *, -hK]; try (refine hK _ _ ?_; clear hK K))
  | (refine wpX_lastL rfl ?_; intro K hK; simp -implicitDefEqProofs (disch := first | omega | (simp only [qd] <;> omega)) only [xq, ↓xp, qc, Nat.reduceAdd, List.range, List.range.loop, fine, Nat.reduceEqDiff, ↓reduceIte, yielded, reduceCtorEq, Nat.reduceLT, Nat.reduceMul, Nat.reduceSub, one, Nat.reduceLeDiff, runX_cons, y40_37, aq, ↓ap, qe0, qe1, qe2, *, -hK]; try (refine hK _ _ ?_; clear hK K; (try simp only [nq, ↓reduceIte, Nat.reduceEqDiff])))
  | (refine wpX_skip ?_; (try simp only [nq, ↓reduceIte, Nat.reduceEqDiff]))
  | (refine wpX_label ?_; (try simp only [nq, ↓reduceIte, Nat.reduceEqDiff]))
  | (refine wpX_exit ?_; (try simp only [nq, ↓reduceIte, Nat.reduceEqDiff]))
  | (refine wpX_goto ?_; (try simp only [nq, ↓reduceIte, Nat.reduceEqDiff]))
  | (refine wpX_condK (by simp only [act_eval, upd_get, Nat.reduceEqDiff, Nat.reduceLT, ↓reduceIte, *]; rfl) ?_ ?_ <;> (intro hc; first | (exfalso; simp -implicitDefEqProofs (disch := omega) only [*, bq, reduceCtorEq] at hc; done) | (simp only [dq, qe3, qe4, qe5, qe6] at hc) | skip))
  | (refine wpX_scope0 ?_)
  | (refine wpX_block ?_)
  | (refine wpX_seq ?_))
          refine wpX_dlast (fun HX => HX hb = some (true, .cells #[.int .i64 places, .int .i64 pieces, .slice sa start.length sc, .slice ca cn cc, .slice (some ⟨b, o, none⟩) ts.length tc, .int .i64 rule, .slice xa xn xc, .int .i64 notice, .int .i64 load, .int .i64 barrows, .int .i64 lo, .int .i64 hi, jv] 68 (0, 0)) ∧ HX ib = some (true, .cells #[.int .i64 i] 3 (0, 0))) 10 [(true, 0), (true, 1), (true, 2), (true, 3), (true, 4), (true, 5), (false, 6), (false, 7), (true, 8), (true, 9), (false, 10)] (by kernel_rfl) (by kernel_rfl) (by simp) (by kernel_rfl) ?_; intro K hK
          (iterate 6 (apply plan_takeS rfl rfl rfl (by exact ⟨vhb8, vib⟩); (focus (intro HX hHX; have hX1 := hHX.1; have hX2 := hHX.2; clear hHX; simp -implicitDefEqProofs (disch := first | omega | (simp only [qd] <;> omega)) only [xq, ↓xp, qc, Nat.reduceAdd, List.range, List.range.loop, fine, Nat.reduceEqDiff, ↓reduceIte, yielded, reduceCtorEq, Nat.reduceLT, Nat.reduceMul, Nat.reduceSub, one, Nat.reduceLeDiff, runX_cons, y40_37, aq, ↓ap, qe0, qe1, qe2, *, -hK, YN_value] <;> (first | exact rfl | exact ⟨rfl, rfl⟩ | exact ⟨rfl, trivial⟩))); simp -implicitDefEqProofs (disch := first | omega | (simp only [qd] <;> omega)) only [act_put, act_put_none]))
          refine planX_act ?_
          simp -implicitDefEqProofs (disch := first | omega | (simp only [qd] <;> omega)) only [xq, ↓xp, qc, Nat.reduceAdd, List.range, List.range.loop, fine, Nat.reduceEqDiff, ↓reduceIte, yielded, reduceCtorEq, Nat.reduceLT, Nat.reduceMul, Nat.reduceSub, one, Nat.reduceLeDiff, runX_cons, y40_37, aq, ↓ap, qe0, qe1, qe2, *, -hK]
          intro g hg
          have ngb : hb ≠ g := ne_new vhb8 hg
          have ngi : ib ≠ g := ne_new vib hg
          refine ⟨.inr ⟨by rw [if_neg ngb], by rw [if_neg ngi]⟩, ?_⟩
          refine planX_act ?_
          obtain ⟨ja, jc, rfl⟩ := hjv8.len
          simp -implicitDefEqProofs (disch := first | omega | (simp only [qd] <;> omega)) only [xq, ↓xp, qc, Nat.reduceAdd, List.range, List.range.loop, fine, Nat.reduceEqDiff, ↓reduceIte, yielded, reduceCtorEq, Nat.reduceLT, Nat.reduceMul, Nat.reduceSub, one, Nat.reduceLeDiff, runX_cons, y40_37, aq, ↓ap, qe0, qe1, qe2, *, -hK]
          have hjl : (ints jobs).length ≤ 1000000 := by rw [ints_len]; omega
          refine append_row2 Tryd.underlying22 Tryd.sizeOf3 Tryd.zeroValue3 rfl Tryd.typeInfo3 (by decide) (by decide) hjv8 hg rfl hjl _ _ _ _ (fun jv' H9 hjv9 hkeep hnew => ?_)
          have vhb9 := hkeep hb _ vhb8 (row_sep hjv8 vhb5)
          have vib9 := hkeep ib _ vib nji
          have vtb9 := hkeep tb _ vtb8 (row_sep hjv8 vtb)
          have hov9 := row_keep hov8 hkeep (fun x h1 h2 => hsep x h2 h1) hjv9.1
          have hsep9 : ∀ x, rowB jv' = some x → rowB (.slice oa (ints off).length oc) ≠ some x := fun x h1 h2 => by
            rcases hnew x h1 with h | h
            · exact hsep x h h2
            · obtain ⟨_, u, hu⟩ := row_new hov8 h2
              rw [h] at hu; cases hu
          have nji9 : rowB jv' ≠ some ib := fun h1 => by
            rcases hnew ib h1 with h | h
            · exact nji h
            · rw [vib] at h; cases h
          have hj1 : ints jobs ++ [Value.int .i64 (i : Int)] = ints (jobs ++ [(i : Int)]) := by rw [ints_app]; rfl
          rw [hj1] at hjv9
          clear vhb8 vtb8 hov8 hjv8 hkeep hnew hsep nji hg ngb ngi vib lH8 hib hjl
          obtain ⟨ja', jc', rfl⟩ := hjv9.len
          refine ⟨.inr ⟨vhb9, vib9⟩, ?_⟩
          simp (disch := omega) only [act_put]
          (iterate 2 (apply plan_takeS rfl rfl rfl (by exact ⟨vhb9, vib9⟩); (focus (intro HX hHX; have hX1 := hHX.1; have hX2 := hHX.2; clear hHX; simp -implicitDefEqProofs (disch := first | omega | (simp only [qd] <;> omega)) only [xq, ↓xp, qc, Nat.reduceAdd, List.range, List.range.loop, fine, Nat.reduceEqDiff, ↓reduceIte, yielded, reduceCtorEq, Nat.reduceLT, Nat.reduceMul, Nat.reduceSub, one, Nat.reduceLeDiff, runX_cons, y40_37, aq, ↓ap, qe0, qe1, qe2, *, -hK, YN_value] <;> (first | exact rfl | exact ⟨rfl, rfl⟩ | exact ⟨rfl, trivial⟩))); simp -implicitDefEqProofs (disch := first | omega | (simp only [qd] <;> omega)) only [act_put, act_put_none]))
          refine planX_act ?_
          simp -implicitDefEqProofs (disch := first | omega | (simp only [qd] <;> omega)) only [xq, ↓xp, qc, Nat.reduceAdd, List.range, List.range.loop, fine, Nat.reduceEqDiff, ↓reduceIte, yielded, reduceCtorEq, Nat.reduceLT, Nat.reduceMul, Nat.reduceSub, one, Nat.reduceLeDiff, runX_cons, y40_37, aq, ↓ap, qe0, qe1, qe2, *, -hK]
          refine ⟨by simp, plan_nil (hK _ _ ?_)⟩
          clear hK K
          (try simp only [nq, ↓reduceIte, Nat.reduceEqDiff])
          have vhb10 : (H9.set hb (.cells #[.int .i64 places, .int .i64 pieces, .slice sa start.length sc, .slice ca cn cc, .slice (some ⟨b, o, none⟩) ts.length tc, .int .i64 rule, .slice xa xn xc, .int .i64 notice, .int .i64 load, .int .i64 barrows, .int .i64 lo, .int .i64 hi, .slice ja' (ints (jobs ++ [(i : Int)])).length jc'] 68 (0, 0))) hb = _ := set_at
          have lex10 : Lex (some hb) H5 (H9.set hb (.cells #[.int .i64 places, .int .i64 pieces, .slice sa start.length sc, .slice ca cn cc, .slice (some ⟨b, o, none⟩) ts.length tc, .int .i64 rule, .slice xa xn xc, .int .i64 notice, .int .i64 load, .int .i64 barrows, .int .i64 lo, .int .i64 hi, .slice ja' (ints (jobs ++ [(i : Int)])).length jc'] 68 (0, 0))) := hjv9.1.set
          have vtb10 : (H9.set hb (.cells #[.int .i64 places, .int .i64 pieces, .slice sa start.length sc, .slice ca cn cc, .slice (some ⟨b, o, none⟩) ts.length tc, .int .i64 rule, .slice xa xn xc, .int .i64 notice, .int .i64 load, .int .i64 barrows, .int .i64 lo, .int .i64 hi, .slice ja' (ints (jobs ++ [(i : Int)])).length jc'] 68 (0, 0))) tb = _ := (set_ne ntb).trans vtb9
          have vib10 : (H9.set hb (.cells #[.int .i64 places, .int .i64 pieces, .slice sa start.length sc, .slice ca cn cc, .slice (some ⟨b, o, none⟩) ts.length tc, .int .i64 rule, .slice xa xn xc, .int .i64 notice, .int .i64 load, .int .i64 barrows, .int .i64 lo, .int .i64 hi, .slice ja' (ints (jobs ++ [(i : Int)])).length jc'] 68 (0, 0))) ib = _ := (set_ne nbi).trans vib9
          have hov10 := row_set hov9 (row_sep hov9 vhb5) lex10
          have hjv10 := row_set hjv9 (row_sep hjv9 vhb5) lex10
          generalize H9.set hb (.cells #[.int .i64 places, .int .i64 pieces, .slice sa start.length sc, .slice ca cn cc, .slice (some ⟨b, o, none⟩) ts.length tc, .int .i64 rule, .slice xa xn xc, .int .i64 notice, .int .i64 load, .int .i64 barrows, .int .i64 lo, .int .i64 hi, .slice ja' (ints (jobs ++ [(i : Int)])).length jc'] 68 (0, 0)) = H10 at *
          clear vhb9 vib9 vtb9 hov9 hjv9
          repeat' (first
  | (refine wpX_stmtL rfl ?_; intro K hK; simp -implicitDefEqProofs (disch := first | omega | (simp only [qd] <;> omega)) only [xq, ↓xp, qc, Nat.reduceAdd, List.range, List.range.loop, fine, Nat.reduceEqDiff, ↓reduceIte, yielded, reduceCtorEq, Nat.reduceLT, Nat.reduceMul, Nat.reduceSub, one, Nat.reduceLeDiff, runX_cons, y40_37, aq, ↓ap, qe0, qe1, qe2, *, -hK]; try (refine hK _ _ ?_; clear hK K))
  | (refine wpX_lastL rfl ?_; intro K hK; simp -implicitDefEqProofs (disch := first | omega | (simp only [qd] <;> omega)) only [xq, ↓xp, qc, Nat.reduceAdd, List.range, List.range.loop, fine, Nat.reduceEqDiff, ↓reduceIte, yielded, reduceCtorEq, Nat.reduceLT, Nat.reduceMul, Nat.reduceSub, one, Nat.reduceLeDiff, runX_cons, y40_37, aq, ↓ap, qe0, qe1, qe2, *, -hK]; try (refine hK _ _ ?_; clear hK K; (try simp only [nq, ↓reduceIte, Nat.reduceEqDiff])))
  | (refine wpX_skip ?_; (try simp only [nq, ↓reduceIte, Nat.reduceEqDiff]))
  | (refine wpX_label ?_; (try simp only [nq, ↓reduceIte, Nat.reduceEqDiff]))
  | (refine wpX_exit ?_; (try simp only [nq, ↓reduceIte, Nat.reduceEqDiff]))
  | (refine wpX_goto ?_; (try simp only [nq, ↓reduceIte, Nat.reduceEqDiff]))
  | (refine wpX_condK (by simp only [act_eval, upd_get, Nat.reduceEqDiff, Nat.reduceLT, ↓reduceIte, *]; rfl) ?_ ?_ <;> (intro hc; first | (exfalso; simp -implicitDefEqProofs (disch := omega) only [*, bq, reduceCtorEq] at hc; done) | (simp only [dq, qe3, qe4, qe5, qe6] at hc) | skip))
  | (refine wpX_scope0 ?_)
  | (refine wpX_block ?_)
  | (refine wpX_seq ?_))
          have htells : ∀ b', rowB (.slice oa (ints off).length oc) = some b' → H5 b' = none → Tells main b' H10 64 [.pointer (some ⟨tb, 0, none⟩), .pointer (some ⟨ib, 0, none⟩)] (fun x => x == ss.getD i 0) := fun b' hrb hb0 H' x hl => by
            refine sentIs_spec main H' x tb ib i _ ss (hl.keeps vtb10 (ne_new vtb hb0)) (hl.keeps vib10 (fun h9 => noi (by rw [h9]; exact hrb))) (hw5.move fun x p c fr hx => hl.keeps (lex10.keeps hx (fun h9 => htyp p c fr (by rw [← h9]; exact hx))) (ne_new hx hb0)) (by omega) (by omega)
          refine (deleteRow_spec main (some hb) H5 H10 _ off _ [.pointer (some ⟨tb, 0, none⟩), .pointer (some ⟨ib, 0, none⟩)] (fun x => x == ss.getD i 0) (fun a H K E => callF64 a K E) hov10 htells (by omega)).runs.mono ?_
          rintro _ H11 ⟨ov', rfl, hov11, hrB, hkeep⟩
          have vhb11 := hkeep hb _ vhb10 (row_sep hov10 vhb5)
          have hjv11 := row_keep hjv10 hkeep hsep9 hov11.1
          rw [← hrB] at hsep9 hkeep
          have hfl := List.length_filter_le (fun x => !(x == ss.getD i 0)) off
          generalize hoff : off.filter (fun x => !(x == ss.getD i 0)) = off' at *
          clear htells hov10 hjv10 vib10 vtb10 vhb10 lex10 hkeep
          obtain ⟨oa', oc', rfl⟩ := hov11.len
          (try simp -implicitDefEqProofs (disch := first | omega | (simp only [qd] <;> omega)) only [xq, ↓xp, qc, Nat.reduceAdd, List.range, List.range.loop, fine, Nat.reduceEqDiff, ↓reduceIte, yielded, reduceCtorEq, Nat.reduceLT, Nat.reduceMul, Nat.reduceSub, one, Nat.reduceLeDiff, runX_cons, y40_37, aq, ↓ap, qe0, qe1, qe2, *, -hK]); try (refine hK _ _ ?_; clear hK K; (try simp only [nq, ↓reduceIte, Nat.reduceEqDiff])); repeat' (first
  | (refine wpX_stmtL rfl ?_; intro K hK; simp -implicitDefEqProofs (disch := first | omega | (simp only [qd] <;> omega)) only [xq, ↓xp, qc, Nat.reduceAdd, List.range, List.range.loop, fine, Nat.reduceEqDiff, ↓reduceIte, yielded, reduceCtorEq, Nat.reduceLT, Nat.reduceMul, Nat.reduceSub, one, Nat.reduceLeDiff, runX_cons, y40_37, aq, ↓ap, qe0, qe1, qe2, *, -hK]; try (refine hK _ _ ?_; clear hK K))
  | (refine wpX_lastL rfl ?_; intro K hK; simp -implicitDefEqProofs (disch := first | omega | (simp only [qd] <;> omega)) only [xq, ↓xp, qc, Nat.reduceAdd, List.range, List.range.loop, fine, Nat.reduceEqDiff, ↓reduceIte, yielded, reduceCtorEq, Nat.reduceLT, Nat.reduceMul, Nat.reduceSub, one, Nat.reduceLeDiff, runX_cons, y40_37, aq, ↓ap, qe0, qe1, qe2, *, -hK]; try (refine hK _ _ ?_; clear hK K; (try simp only [nq, ↓reduceIte, Nat.reduceEqDiff])))
  | (refine wpX_skip ?_; (try simp only [nq, ↓reduceIte, Nat.reduceEqDiff]))
  | (refine wpX_label ?_; (try simp only [nq, ↓reduceIte, Nat.reduceEqDiff]))
  | (refine wpX_exit ?_; (try simp only [nq, ↓reduceIte, Nat.reduceEqDiff]))
  | (refine wpX_goto ?_; (try simp only [nq, ↓reduceIte, Nat.reduceEqDiff]))
  | (refine wpX_condK (by simp only [act_eval, upd_get, Nat.reduceEqDiff, Nat.reduceLT, ↓reduceIte, *]; rfl) ?_ ?_ <;> (intro hc; first | (exfalso; simp -implicitDefEqProofs (disch := omega) only [*, bq, reduceCtorEq] at hc; done) | (simp only [dq, qe3, qe4, qe5, qe6] at hc) | skip))
  | (refine wpX_scope0 ?_)
  | (refine wpX_block ?_)
  | (refine wpX_seq ?_))
          intro g hg
          have hol : (ints off').length ≤ 1000000 := by rw [ints_len]; omega
          have ngb : hb ≠ g := ne_new vhb11 hg
          (try simp -implicitDefEqProofs (disch := first | omega | (simp only [qd] <;> omega)) only [xq, ↓xp, qc, Nat.reduceAdd, List.range, List.range.loop, fine, Nat.reduceEqDiff, ↓reduceIte, yielded, reduceCtorEq, Nat.reduceLT, Nat.reduceMul, Nat.reduceSub, one, Nat.reduceLeDiff, runX_cons, y40_37, aq, ↓ap, qe0, qe1, qe2, *, -hK]); try (refine hK _ _ ?_; clear hK K; (try simp only [nq, ↓reduceIte, Nat.reduceEqDiff])); repeat' (first
  | (refine wpX_stmtL rfl ?_; intro K hK; simp -implicitDefEqProofs (disch := first | omega | (simp only [qd] <;> omega)) only [xq, ↓xp, qc, Nat.reduceAdd, List.range, List.range.loop, fine, Nat.reduceEqDiff, ↓reduceIte, yielded, reduceCtorEq, Nat.reduceLT, Nat.reduceMul, Nat.reduceSub, one, Nat.reduceLeDiff, runX_cons, y40_37, aq, ↓ap, qe0, qe1, qe2, *, -hK]; try (refine hK _ _ ?_; clear hK K))
  | (refine wpX_lastL rfl ?_; intro K hK; simp -implicitDefEqProofs (disch := first | omega | (simp only [qd] <;> omega)) only [xq, ↓xp, qc, Nat.reduceAdd, List.range, List.range.loop, fine, Nat.reduceEqDiff, ↓reduceIte, yielded, reduceCtorEq, Nat.reduceLT, Nat.reduceMul, Nat.reduceSub, one, Nat.reduceLeDiff, runX_cons, y40_37, aq, ↓ap, qe0, qe1, qe2, *, -hK]; try (refine hK _ _ ?_; clear hK K; (try simp only [nq, ↓reduceIte, Nat.reduceEqDiff])))
  | (refine wpX_skip ?_; (try simp only [nq, ↓reduceIte, Nat.reduceEqDiff]))
  | (refine wpX_label ?_; (try simp only [nq, ↓reduceIte, Nat.reduceEqDiff]))
  | (refine wpX_exit ?_; (try simp only [nq, ↓reduceIte, Nat.reduceEqDiff]))
  | (refine wpX_goto ?_; (try simp only [nq, ↓reduceIte, Nat.reduceEqDiff]))
  | (refine wpX_condK (by simp only [act_eval, upd_get, Nat.reduceEqDiff, Nat.reduceLT, ↓reduceIte, *]; rfl) ?_ ?_ <;> (intro hc; first | (exfalso; simp -implicitDefEqProofs (disch := omega) only [*, bq, reduceCtorEq] at hc; done) | (simp only [dq, qe3, qe4, qe5, qe6] at hc) | skip))
  | (refine wpX_scope0 ?_)
  | (refine wpX_block ?_)
  | (refine wpX_seq ?_))
          refine append_row2 Tryd.underlying22 Tryd.sizeOf3 Tryd.zeroValue3 rfl Tryd.typeInfo3 (by decide) (by decide) hov11 hg rfl hol _ _ _ _ (fun ov'' H12 hov12 hkeep hnew => ?_)
          have vhb12 := hkeep hb _ vhb11 (row_sep hov11 vhb5)
          have hjv12 := row_keep hjv11 hkeep hsep9 hov12.1
          have ho1 : ints off' ++ [Value.int .i64 t] = ints (off' ++ [t]) := by rw [ints_app]; rfl
          rw [ho1] at hov12
          have hsep12 : ∀ x, rowB (.slice ja' (ints (jobs ++ [(i : Int)])).length jc') = some x → rowB ov'' ≠ some x := fun x h1 h2 => by
            rcases hnew x h2 with h | h
            · exact hsep9 x h1 h
            · obtain ⟨_, u, hu⟩ := row_new hjv11 h1
              rw [h] at hu; cases hu
          (try simp -implicitDefEqProofs (disch := first | omega | (simp only [qd] <;> omega)) only [xq, ↓xp, qc, Nat.reduceAdd, List.range, List.range.loop, fine, Nat.reduceEqDiff, ↓reduceIte, yielded, reduceCtorEq, Nat.reduceLT, Nat.reduceMul, Nat.reduceSub, one, Nat.reduceLeDiff, runX_cons, y40_37, aq, ↓ap, qe0, qe1, qe2, *, -hK]); try (refine hK _ _ ?_; clear hK K; (try simp only [nq, ↓reduceIte, Nat.reduceEqDiff])); repeat' (first
  | (refine wpX_stmtL rfl ?_; intro K hK; simp -implicitDefEqProofs (disch := first | omega | (simp only [qd] <;> omega)) only [xq, ↓xp, qc, Nat.reduceAdd, List.range, List.range.loop, fine, Nat.reduceEqDiff, ↓reduceIte, yielded, reduceCtorEq, Nat.reduceLT, Nat.reduceMul, Nat.reduceSub, one, Nat.reduceLeDiff, runX_cons, y40_37, aq, ↓ap, qe0, qe1, qe2, *, -hK]; try (refine hK _ _ ?_; clear hK K))
  | (refine wpX_lastL rfl ?_; intro K hK; simp -implicitDefEqProofs (disch := first | omega | (simp only [qd] <;> omega)) only [xq, ↓xp, qc, Nat.reduceAdd, List.range, List.range.loop, fine, Nat.reduceEqDiff, ↓reduceIte, yielded, reduceCtorEq, Nat.reduceLT, Nat.reduceMul, Nat.reduceSub, one, Nat.reduceLeDiff, runX_cons, y40_37, aq, ↓ap, qe0, qe1, qe2, *, -hK]; try (refine hK _ _ ?_; clear hK K; (try simp only [nq, ↓reduceIte, Nat.reduceEqDiff])))
  | (refine wpX_skip ?_; (try simp only [nq, ↓reduceIte, Nat.reduceEqDiff]))
  | (refine wpX_label ?_; (try simp only [nq, ↓reduceIte, Nat.reduceEqDiff]))
  | (refine wpX_exit ?_; (try simp only [nq, ↓reduceIte, Nat.reduceEqDiff]))
  | (refine wpX_goto ?_; (try simp only [nq, ↓reduceIte, Nat.reduceEqDiff]))
  | (refine wpX_condK (by simp only [act_eval, upd_get, Nat.reduceEqDiff, Nat.reduceLT, ↓reduceIte, *]; rfl) ?_ ?_ <;> (intro hc; first | (exfalso; simp -implicitDefEqProofs (disch := omega) only [*, bq, reduceCtorEq] at hc; done) | (simp only [dq, qe3, qe4, qe5, qe6] at hc) | skip))
  | (refine wpX_scope0 ?_)
  | (refine wpX_block ?_)
  | (refine wpX_seq ?_))
          exact ⟨_, by omega, _, i + 1, ov'', _, off' ++ [t], jobs ++ [(i : Int)], rfl, hlt, by rw [hn1, hsucc], rfl, e3, e4, rfl, e44, e45, rfl, hov12, hjv12, hsep12, vhb12⟩
      · obtain rfl : i = ts.length := by omega
        repeat' (first
  | (refine wpX_stmtL rfl ?_; intro K hK; simp -implicitDefEqProofs (disch := first | omega | (simp only [qd] <;> omega)) only [xq, ↓xp, qc, Nat.reduceAdd, List.range, List.range.loop, fine, Nat.reduceEqDiff, ↓reduceIte, yielded, reduceCtorEq, Nat.reduceLT, Nat.reduceMul, Nat.reduceSub, one, Nat.reduceLeDiff, runX_cons, y40_37, aq, ↓ap, qe0, qe1, qe2, *, -hK]; try (refine hK _ _ ?_; clear hK K))
  | (refine wpX_lastL rfl ?_; intro K hK; simp -implicitDefEqProofs (disch := first | omega | (simp only [qd] <;> omega)) only [xq, ↓xp, qc, Nat.reduceAdd, List.range, List.range.loop, fine, Nat.reduceEqDiff, ↓reduceIte, yielded, reduceCtorEq, Nat.reduceLT, Nat.reduceMul, Nat.reduceSub, one, Nat.reduceLeDiff, runX_cons, y40_37, aq, ↓ap, qe0, qe1, qe2, *, -hK]; try (refine hK _ _ ?_; clear hK K; (try simp only [nq, ↓reduceIte, Nat.reduceEqDiff])))
  | (refine wpX_skip ?_; (try simp only [nq, ↓reduceIte, Nat.reduceEqDiff]))
  | (refine wpX_label ?_; (try simp only [nq, ↓reduceIte, Nat.reduceEqDiff]))
  | (refine wpX_exit ?_; (try simp only [nq, ↓reduceIte, Nat.reduceEqDiff]))
  | (refine wpX_goto ?_; (try simp only [nq, ↓reduceIte, Nat.reduceEqDiff]))
  | (refine wpX_condK (by simp only [act_eval, upd_get, Nat.reduceEqDiff, Nat.reduceLT, ↓reduceIte, *]; rfl) ?_ ?_ <;> (intro hc; first | (exfalso; simp -implicitDefEqProofs (disch := omega) only [*, bq, reduceCtorEq] at hc; done) | (simp only [dq, qe3, qe4, qe5, qe6] at hc) | skip))
  | (refine wpX_scope0 ?_)
  | (refine wpX_block ?_)
  | (refine wpX_seq ?_))
        (refine wpX_ret ?_; (try simp only [nq, ↓reduceIte, Nat.reduceEqDiff]); rw [bodyX_ret, results_one Tryd.results40 (by decide)]; simp only [upd_get, Nat.reduceEqDiff, ↓reduceIte])
        refine ⟨hb, jv, rfl, fun x u hx => hov.1.keeps (lHH5 _ _ hx) (fun e => by rw [e, h0b] at hx; cases hx), vhb7, ?_⟩
        rw [hjobs, hnh]
        exact hjv.ints
end Go.Proofs.YtiempdpjcddgfaaDoor
end
