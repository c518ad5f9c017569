/- Texts Count Like Path Choose. -/
import Derived.Test.YtiempdpjcddgfaaDoorJ09
section
/- Count: how many plans are in time; at least one if the plan of single jobs is. -/
set_option linter.unusedSimpArgs false
set_option maxRecDepth 100000
set_option maxHeartbeats 1000000
set_option linter.unusedVariables false
namespace Go.Proofs.YtiempdpjcddgfaaDoor
open Go Go.X
set_option linter.defProp false
def y8_46 := And.intro (fun H => loadAt_aggE (H := H) Tryd.underlying29 rfl Tryd.sizeOf29) (And.intro (fun H => loadAt_one (H := H) Tryd.underlying3 rfl) (And.intro @callF20 (And.intro (fun H => ex_alloc (H := H) (P := Tryd.prog) (h := Tryd.zeroValue64)) (And.intro (fun H => storeAt_ptr (H := H) Tryd.sizeOf64) (And.intro (fun H => ex_alloc (H := H) (P := Tryd.prog) (h := Tryd.zeroValue3)) (And.intro (fun H => storeAt_int (H := H) Tryd.sizeOf3) (And.intro (fun H => loadAt_one (H := H) Tryd.underlying64 rfl) (And.intro @callF21 @callF22))))))))

theorem dS_back (n : HN) (js : List Int) (mi : Int) (pl : List Nat) (hx : ∀ x ∈ n.xs, 0 ≤ x ∧ x ≤ 99) (n0 : 0 ≤ n.notice) (b1 : 1 ≤ n.barrows) (b4 : n.barrows ≤ 4) (h1 : 1 ≤ mi) (h2 : mi ≤ 20) : ∀ k, k ≤ pl.length → ∀ r ∈ (dS n js mi pl k).2.2, -1048576 ≤ r.back ∧ r.back ≤ 100 + 20 * k
  | 0, _, r, hr => by simp [dS] at hr
  | k + 1, hk, r, hr => by
    have h3 := dS_ok n js mi pl hx n0 b1 b4 h1 h2 k (by omega)
    have h4 := dS_ok n js mi pl hx n0 b1 b4 h1 h2 (k + 1) hk
    have hpl := pickB_lt (dS n js mi pl k).1 n.barrows.toNat (by omega)
    rw [dS] at hr
    simp only [List.mem_append, List.mem_singleton] at hr
    rcases hr with hr | rfl
    · have := dS_back n js mi pl hx n0 b1 b4 h1 h2 k (by omega) r hr
      omega
    · refine h4.2.1 _ ?_
      rw [dS]
      exact List.mem_of_getElem? (i := pickB (dS n js mi pl k).1 n.barrows.toNat) (List.getElem?_set_self (by have := h3.1; omega))

theorem comps_parts (m : Nat) (N : Nat) : ∀ l ∈ comps m N, ∃ pl : List Nat, l = pl.map (fun x : Nat => (x : Int)) ∧ (∀ x ∈ pl, 1 ≤ x) ∧ pl.sum = N := by
  induction N using Nat.strongRecOn with
  | _ N ih =>
  intro l hl
  by_cases h0 : N = 0
  · subst h0
    rw [comps, List.mem_singleton] at hl
    exact ⟨[], by simp [hl], by simp, rfl⟩
  · rw [comps_pos m N (by omega), List.mem_flatMap] at hl
    obtain ⟨i, hi, hl⟩ := hl
    rw [List.mem_range] at hi
    rw [List.mem_map] at hl
    obtain ⟨l', hl', rfl⟩ := hl
    obtain ⟨pl, rfl, h1, h2⟩ := ih (N - (i + 1)) (by omega) l' hl'
    exact ⟨(i + 1) :: pl, by simp, by simpa using h1, by simp [h2]; omega⟩
theorem parts_len : ∀ (pl : List Nat), (∀ x ∈ pl, 1 ≤ x) → pl.length ≤ pl.sum
  | [], _ => by simp
  | x :: pl, h => by
    have := parts_len pl (fun y hy => h y (by simp [hy]))
    have := h x (by simp)
    simp
    omega
theorem comps_len (m N : Nat) (hm : m ≤ 3) (hN : N ≤ 4) : (comps m N).length ≤ 1000 := by
  obtain rfl | rfl | rfl | rfl : m = 0 ∨ m = 1 ∨ m = 2 ∨ m = 3 := by omega
  all_goals
    obtain rfl | rfl | rfl | rfl | rfl : N = 0 ∨ N = 1 ∨ N = 2 ∨ N = 3 ∨ N = 4 := by omega
    all_goals simp [comps, List.range, List.range.loop]
theorem comps_ones (m : Nat) (hm : 1 ≤ m) : ∀ N, (List.replicate N 1).map (fun x : Nat => (x : Int)) ∈ comps m N
  | 0 => by simp [comps]
  | N + 1 => by
    have := comps_mem m (N + 1) 0 (by omega) (l := (List.replicate N 1).map (fun x : Nat => (x : Int))) (by simpa using comps_ones m hm N)
    simpa [List.replicate_succ] using this

theorem wpX_forget {P : Program} {main : Bool} {lp : Option Nat} {c : Code} {Q : Exit → Act → Hp → Prop} {n : Nat} {e : Nat → Value} {ds : List Deferred} {H : Hp} (p : (Nat → Value) → Prop) (hp : p e) (h : ∀ e, p e → wpX P main lp c Q (act n e ds) H) : wpX P main lp c Q (act n e ds) H := h e hp

/-- A loop over a function with one variable: its round as what a call of the function's argument comes to. -/
theorem wpX_range1 {P : Program} {main : Bool} {Q : Exit → Act → Hp → Prop} {n : Nat} {e : Nat → Value} {ds : List Deferred} {H : Hp} {f : Operand} {t : Nat} {asg body : Code} {g : FuncId} {fi cap : Array Value} (hf : (act n e ds).eval f = .func (.func g) fi cap) (ht : t < n)
    (hcall : ∀ (args : Array Value) (H : Hp) (K : Next → Hp → Prop) (E : Value → Hp → Prop), wpS P (callFunc g args) H K E = K (.enter g args) H)
    (h : ∀ r l lo, H r = none → (H.set r (.deferred (some []))) l = none → lo.state = .ready → lo.pending = none →
      (∀ H v R, H l = some (true, .loop lo) → wpX P main (some l) asg (thn (fun a H1 => H1 l = some (true, .loop lo) ∧ wpX P main (some l) body (rnd l R) a (H1.set l (.loop { lo with state := .busy }))) fun _ _ _ => False) (act n (upd e t v) []) H → CallV P main (.func (.yield l) #[] #[]) #[v] H R) →
      Runs P main (Frame.enter P g (fi ++ #[.func (.yield l) #[] #[]] ++ cap) .normal) ((H.set r (.deferred (some []))).set l (.loop lo)) (behind l r (act n e ds) Q)) :
    wpX P main none (.rangeFunc f #[t] asg body) Q (act n e ds) H := by
  refine wpX_rangeFunc hf hcall fun fn r l hr hl => ?_
  refine h r l _ hr hl rfl rfl fun H' v R hl' hw => ?_
  intro K E hK1 hK2
  refine callK_yield ?_
  rw [hl', yieldK_some]
  refine ⟨rfl, hK2 _ _ _ _ _ _ (round_runs ?_)⟩
  have he : (((#[t] : Array Tmp).zip #[v]).foldl (fun tmps (x : Tmp × Value) => tmps.setIfInBounds x.1 x.2) (act n e ds).tmps) = (act n (upd e t v) []).tmps := by
    have := congrArg Act.tmps (act_put (n := n) (e := e) (ds := ds) (v := v) ht)
    simpa [Act.put, act] using this
  have he2 : ({ tmps := ((#[t] : Array Tmp).zip #[v]).foldl (fun tmps (x : Tmp × Value) => tmps.setIfInBounds x.1 x.2) (act n e ds).tmps, defers := [] } : Act) = act n (upd e t v) [] := by
    rw [he]; rfl
  rw [he2]
  refine wpX_mono hw fun e' a' H'' q => ?_
  cases e' with
  | normal => exact ⟨_, q.1, rfl, q.2⟩
  | _ => exact q

theorem behind_none {n : Nat} {e : Nat → Value} {ds : List Deferred} {l r : Nat} {Q : Exit → Act → Hp → Prop} {v : Value} {H : Hp} {q : Loop} (h : H l = some (true, .loop q)) (h1 : q.state = .ready) (h2 : q.pending = none)
    (hk : Q .normal (act n e (coll r :: ds)) (H.set l (.loop { q with state := .exhausted }))) : behind l r (act n e ds) Q (.returned v) H := by
  refine ⟨q, h, by rw [h1]; simp, ?_⟩
  cases q
  simp only [] at h1 h2
  subst h1 h2
  exact hk

/-- What the loop knows. -/
def cntT (base : Hp) (n : HN) (js : List Int) (mi : Int) (cb l r thisb hb : Nat) (lo : Loop) (t : Bool) (L : List (List Int)) (H : Hp) : Prop :=
  t = true ∧ base.le H ∧ H thisb = some (true, .cells #[.pointer (some ⟨hb, 0, none⟩)] 64 (0, 0)) ∧ H l = some (true, .loop lo) ∧ H r = some (true, .deferred (some [])) ∧
    ∃ z : Int, H cb = some (true, .cells #[.int .i64 z] 3 (0, 0)) ∧ (L.length ≤ 1000 → 0 ≤ z ∧ z ≤ L.length ∧ ∀ pl : List Nat, pl.map (fun x : Nat => (x : Int)) ∈ L → fineP n js mi pl → 1 ≤ z)

theorem bcount_spec (main : Bool) (H : Hp) (n : HN) (v : HV) (hd : HaulIn H n v) (mi : Int) (h1' : 1 ≤ mi) (h20 : mi ≤ 20) (hj4 : n.jobs.length ≤ 4) (hjb : ∀ i ∈ n.jobs, 0 ≤ i ∧ i < n.xs.length) (hf : fineP n n.jobs mi (List.replicate n.jobs.length 1)) :
    FnX Tryd.prog main 8 #[n.agg v, .int .i64 mi] H fun e H' => ∃ z : Int, e = .returned (.tuple #[.int .i64 z, .int .i64 0]) ∧ H.le H' ∧ 1 ≤ z := by
  have hdr := fun H' h' => driving_spec main H' n v h' mi h1' h20
  simp only [HN.agg] at hdr ⊢
  refine FnX_start Tryd.func8 rfl Tryd.ntmps8 (by simp) ?_
  repeat' (first
  | (refine wpX_stmtL rfl ?_; intro K hK; simp -implicitDefEqProofs (disch := first | omega | (simp only [qd] <;> omega)) only [xq, ↓xp, qc, Nat.reduceAdd, List.range, List.range.loop, fine, Nat.reduceEqDiff, ↓reduceIte, yielded, reduceCtorEq, Nat.reduceLT, Nat.reduceMul, Nat.reduceSub, one, Nat.reduceLeDiff, runX_cons, y8_46, aq, ↓ap, qe0, qe1, qe2, *, -hK]; try (refine hK _ _ ?_; clear hK K))
  | (refine wpX_lastL rfl ?_; intro K hK; simp -implicitDefEqProofs (disch := first | omega | (simp only [qd] <;> omega)) only [xq, ↓xp, qc, Nat.reduceAdd, List.range, List.range.loop, fine, Nat.reduceEqDiff, ↓reduceIte, yielded, reduceCtorEq, Nat.reduceLT, Nat.reduceMul, Nat.reduceSub, one, Nat.reduceLeDiff, runX_cons, y8_46, aq, ↓ap, qe0, qe1, qe2, *, -hK]; try (refine hK _ _ ?_; clear hK K; (try simp only [nq, ↓reduceIte, Nat.reduceEqDiff])))
  | (refine wpX_skip ?_; (try simp only [nq, ↓reduceIte, Nat.reduceEqDiff]))
  | (refine wpX_label ?_; (try simp only [nq, ↓reduceIte, Nat.reduceEqDiff]))
  | (refine wpX_exit ?_; (try simp only [nq, ↓reduceIte, Nat.reduceEqDiff]))
  | (refine wpX_goto ?_; (try simp only [nq, ↓reduceIte, Nat.reduceEqDiff]))
  | (refine wpX_condK (by simp only [act_eval, upd_get, Nat.reduceEqDiff, Nat.reduceLT, ↓reduceIte, *]; rfl) ?_ ?_ <;> (intro hc; first | (exfalso; simp -implicitDefEqProofs (disch := omega) only [*, bq, reduceCtorEq] at hc; done) | (simp only [dq, qe3, qe4, qe5, qe6] at hc) | skip))
  | (refine wpX_scope0 ?_)
  | (refine wpX_block ?_)
  | (refine wpX_seq ?_))
  intro ab hab mb hmb
  replace hmb : (Hp.set H ab _) mb = none := hmb
  generalize hG : Hp.set H ab _ = H1 at hmb ⊢
  have lH1 := le_of_set hG hab
  have vab := at_of_set hG
  clear hG
  generalize hG : Hp.set H1 mb _ = H2
  have lH2 := le_of_set hG hmb
  have vmb := at_of_set hG
  clear hG
  have hd1 := hd.le lH1
  have hd2 := hd1.le lH2
  have vab2 := lH2 _ _ vab
  have l12 : H.le H2 := Hp.le_trans lH1 lH2
  clear vab hd1 hd lH1 lH2 hab hmb
  (try simp -implicitDefEqProofs (disch := first | omega | (simp only [qd] <;> omega)) only [xq, ↓xp, qc, Nat.reduceAdd, List.range, List.range.loop, fine, Nat.reduceEqDiff, ↓reduceIte, yielded, reduceCtorEq, Nat.reduceLT, Nat.reduceMul, Nat.reduceSub, one, Nat.reduceLeDiff, runX_cons, y8_46, aq, ↓ap, qe0, qe1, qe2, *, -hK]); try (refine hK _ _ ?_; clear hK K; (try simp only [nq, ↓reduceIte, Nat.reduceEqDiff])); repeat' (first
  | (refine wpX_stmtL rfl ?_; intro K hK; simp -implicitDefEqProofs (disch := first | omega | (simp only [qd] <;> omega)) only [xq, ↓xp, qc, Nat.reduceAdd, List.range, List.range.loop, fine, Nat.reduceEqDiff, ↓reduceIte, yielded, reduceCtorEq, Nat.reduceLT, Nat.reduceMul, Nat.reduceSub, one, Nat.reduceLeDiff, runX_cons, y8_46, aq, ↓ap, qe0, qe1, qe2, *, -hK]; try (refine hK _ _ ?_; clear hK K))
  | (refine wpX_lastL rfl ?_; intro K hK; simp -implicitDefEqProofs (disch := first | omega | (simp only [qd] <;> omega)) only [xq, ↓xp, qc, Nat.reduceAdd, List.range, List.range.loop, fine, Nat.reduceEqDiff, ↓reduceIte, yielded, reduceCtorEq, Nat.reduceLT, Nat.reduceMul, Nat.reduceSub, one, Nat.reduceLeDiff, runX_cons, y8_46, aq, ↓ap, qe0, qe1, qe2, *, -hK]; try (refine hK _ _ ?_; clear hK K; (try simp only [nq, ↓reduceIte, Nat.reduceEqDiff])))
  | (refine wpX_skip ?_; (try simp only [nq, ↓reduceIte, Nat.reduceEqDiff]))
  | (refine wpX_label ?_; (try simp only [nq, ↓reduceIte, Nat.reduceEqDiff]))
  | (refine wpX_exit ?_; (try simp only [nq, ↓reduceIte, Nat.reduceEqDiff]))
  | (refine wpX_goto ?_; (try simp only [nq, ↓reduceIte, Nat.reduceEqDiff]))
  | (refine wpX_condK (by simp only [act_eval, upd_get, Nat.reduceEqDiff, Nat.reduceLT, ↓reduceIte, *]; rfl) ?_ ?_ <;> (intro hc; first | (exfalso; simp -implicitDefEqProofs (disch := omega) only [*, bq, reduceCtorEq] at hc; done) | (simp only [dq, qe3, qe4, qe5, qe6] at hc) | skip))
  | (refine wpX_scope0 ?_)
  | (refine wpX_block ?_)
  | (refine wpX_seq ?_))
  refine (hdr H2 hd2).runs.mono ?_
  rintro _ H3 ⟨hb, jv, rfl, lH3, vhb, hj⟩
  have hd3 := hd2.le lH3
  have vmb3 := lH3 _ _ vmb
  clear hdr vab2 vmb hd2
  (try simp -implicitDefEqProofs (disch := first | omega | (simp only [qd] <;> omega)) only [xq, ↓xp, qc, Nat.reduceAdd, List.range, List.range.loop, fine, Nat.reduceEqDiff, ↓reduceIte, yielded, reduceCtorEq, Nat.reduceLT, Nat.reduceMul, Nat.reduceSub, one, Nat.reduceLeDiff, runX_cons, y8_46, aq, ↓ap, qe0, qe1, qe2, *, -hK]); try (refine hK _ _ ?_; clear hK K; (try simp only [nq, ↓reduceIte, Nat.reduceEqDiff])); repeat' (first
  | (refine wpX_stmtL rfl ?_; intro K hK; simp -implicitDefEqProofs (disch := first | omega | (simp only [qd] <;> omega)) only [xq, ↓xp, qc, Nat.reduceAdd, List.range, List.range.loop, fine, Nat.reduceEqDiff, ↓reduceIte, yielded, reduceCtorEq, Nat.reduceLT, Nat.reduceMul, Nat.reduceSub, one, Nat.reduceLeDiff, runX_cons, y8_46, aq, ↓ap, qe0, qe1, qe2, *, -hK]; try (refine hK _ _ ?_; clear hK K))
  | (refine wpX_lastL rfl ?_; intro K hK; simp -implicitDefEqProofs (disch := first | omega | (simp only [qd] <;> omega)) only [xq, ↓xp, qc, Nat.reduceAdd, List.range, List.range.loop, fine, Nat.reduceEqDiff, ↓reduceIte, yielded, reduceCtorEq, Nat.reduceLT, Nat.reduceMul, Nat.reduceSub, one, Nat.reduceLeDiff, runX_cons, y8_46, aq, ↓ap, qe0, qe1, qe2, *, -hK]; try (refine hK _ _ ?_; clear hK K; (try simp only [nq, ↓reduceIte, Nat.reduceEqDiff])))
  | (refine wpX_skip ?_; (try simp only [nq, ↓reduceIte, Nat.reduceEqDiff]))
  | (refine wpX_label ?_; (try simp only [nq, ↓reduceIte, Nat.reduceEqDiff]))
  | (refine wpX_exit ?_; (try simp only [nq, ↓reduceIte, Nat.reduceEqDiff]))
  | (refine wpX_goto ?_; (try simp only [nq, ↓reduceIte, Nat.reduceEqDiff]))
  | (refine wpX_condK (by simp only [act_eval, upd_get, Nat.reduceEqDiff, Nat.reduceLT, ↓reduceIte, *]; rfl) ?_ ?_ <;> (intro hc; first | (exfalso; simp -implicitDefEqProofs (disch := omega) only [*, bq, reduceCtorEq] at hc; done) | (simp only [dq, qe3, qe4, qe5, qe6] at hc) | skip))
  | (refine wpX_scope0 ?_)
  | (refine wpX_block ?_)
  | (refine wpX_seq ?_))
  (intro pb hpb; generalize hG : Hp.set _ pb _ = H4; have lH4 := le_of_set hG hpb; have vpb := at_of_set hG; clear hG)
  have hd4 := hd3.le lH4
  have vmb4 := lH4 _ _ vmb3
  have vhb4 := lH4 _ _ vhb
  have hj4' := hj.le lH4
  have l14 := Hp.le_trans l12 (Hp.le_trans lH3 lH4)
  clear hd3 vmb3 vhb hj lH3 lH4 l12 hpb
  (try simp -implicitDefEqProofs (disch := first | omega | (simp only [qd] <;> omega)) only [xq, ↓xp, qc, Nat.reduceAdd, List.range, List.range.loop, fine, Nat.reduceEqDiff, ↓reduceIte, yielded, reduceCtorEq, Nat.reduceLT, Nat.reduceMul, Nat.reduceSub, one, Nat.reduceLeDiff, runX_cons, y8_46, aq, ↓ap, qe0, qe1, qe2, *, -hK]); try (refine hK _ _ ?_; clear hK K; (try simp only [nq, ↓reduceIte, Nat.reduceEqDiff])); repeat' (first
  | (refine wpX_stmtL rfl ?_; intro K hK; simp -implicitDefEqProofs (disch := first | omega | (simp only [qd] <;> omega)) only [xq, ↓xp, qc, Nat.reduceAdd, List.range, List.range.loop, fine, Nat.reduceEqDiff, ↓reduceIte, yielded, reduceCtorEq, Nat.reduceLT, Nat.reduceMul, Nat.reduceSub, one, Nat.reduceLeDiff, runX_cons, y8_46, aq, ↓ap, qe0, qe1, qe2, *, -hK]; try (refine hK _ _ ?_; clear hK K))
  | (refine wpX_lastL rfl ?_; intro K hK; simp -implicitDefEqProofs (disch := first | omega | (simp only [qd] <;> omega)) only [xq, ↓xp, qc, Nat.reduceAdd, List.range, List.range.loop, fine, Nat.reduceEqDiff, ↓reduceIte, yielded, reduceCtorEq, Nat.reduceLT, Nat.reduceMul, Nat.reduceSub, one, Nat.reduceLeDiff, runX_cons, y8_46, aq, ↓ap, qe0, qe1, qe2, *, -hK]; try (refine hK _ _ ?_; clear hK K; (try simp only [nq, ↓reduceIte, Nat.reduceEqDiff])))
  | (refine wpX_skip ?_; (try simp only [nq, ↓reduceIte, Nat.reduceEqDiff]))
  | (refine wpX_label ?_; (try simp only [nq, ↓reduceIte, Nat.reduceEqDiff]))
  | (refine wpX_exit ?_; (try simp only [nq, ↓reduceIte, Nat.reduceEqDiff]))
  | (refine wpX_goto ?_; (try simp only [nq, ↓reduceIte, Nat.reduceEqDiff]))
  | (refine wpX_condK (by simp only [act_eval, upd_get, Nat.reduceEqDiff, Nat.reduceLT, ↓reduceIte, *]; rfl) ?_ ?_ <;> (intro hc; first | (exfalso; simp -implicitDefEqProofs (disch := omega) only [*, bq, reduceCtorEq] at hc; done) | (simp only [dq, qe3, qe4, qe5, qe6] at hc) | skip))
  | (refine wpX_scope0 ?_)
  | (refine wpX_block ?_)
  | (refine wpX_seq ?_))
  (intro cb hcb; generalize hG : Hp.set _ cb _ = H5; have lH5 := le_of_set hG hcb; have vcb := at_of_set hG; clear hG)
  have vmb5 := lH5 _ _ vmb4
  have l4 := lH5
  have vpb5 := lH5 _ _ vpb
  clear lH5
  (try simp -implicitDefEqProofs (disch := first | omega | (simp only [qd] <;> omega)) only [xq, ↓xp, qc, Nat.reduceAdd, List.range, List.range.loop, fine, Nat.reduceEqDiff, ↓reduceIte, yielded, reduceCtorEq, Nat.reduceLT, Nat.reduceMul, Nat.reduceSub, one, Nat.reduceLeDiff, runX_cons, y8_46, aq, ↓ap, qe0, qe1, qe2, *, -hK]); try (refine hK _ _ ?_; clear hK K; (try simp only [nq, ↓reduceIte, Nat.reduceEqDiff])); repeat' (first
  | (refine wpX_stmtL rfl ?_; intro K hK; simp -implicitDefEqProofs (disch := first | omega | (simp only [qd] <;> omega)) only [xq, ↓xp, qc, Nat.reduceAdd, List.range, List.range.loop, fine, Nat.reduceEqDiff, ↓reduceIte, yielded, reduceCtorEq, Nat.reduceLT, Nat.reduceMul, Nat.reduceSub, one, Nat.reduceLeDiff, runX_cons, y8_46, aq, ↓ap, qe0, qe1, qe2, *, -hK]; try (refine hK _ _ ?_; clear hK K))
  | (refine wpX_lastL rfl ?_; intro K hK; simp -implicitDefEqProofs (disch := first | omega | (simp only [qd] <;> omega)) only [xq, ↓xp, qc, Nat.reduceAdd, List.range, List.range.loop, fine, Nat.reduceEqDiff, ↓reduceIte, yielded, reduceCtorEq, Nat.reduceLT, Nat.reduceMul, Nat.reduceSub, one, Nat.reduceLeDiff, runX_cons, y8_46, aq, ↓ap, qe0, qe1, qe2, *, -hK]; try (refine hK _ _ ?_; clear hK K; (try simp only [nq, ↓reduceIte, Nat.reduceEqDiff])))
  | (refine wpX_skip ?_; (try simp only [nq, ↓reduceIte, Nat.reduceEqDiff]))
  | (refine wpX_label ?_; (try simp only [nq, ↓reduceIte, Nat.reduceEqDiff]))
  | (refine wpX_exit ?_; (try simp only [nq, ↓reduceIte, Nat.reduceEqDiff]))
  | (refine wpX_goto ?_; (try simp only [nq, ↓reduceIte, Nat.reduceEqDiff]))
  | (refine wpX_condK (by simp only [act_eval, upd_get, Nat.reduceEqDiff, Nat.reduceLT, ↓reduceIte, *]; rfl) ?_ ?_ <;> (intro hc; first | (exfalso; simp -implicitDefEqProofs (disch := omega) only [*, bq, reduceCtorEq] at hc; done) | (simp only [dq, qe3, qe4, qe5, qe6] at hc) | skip))
  | (refine wpX_scope0 ?_)
  | (refine wpX_block ?_)
  | (refine wpX_seq ?_))
  refine (plans_spec main H5 hb).runs.mono ?_
  rintro _ H6 ⟨thisb, rfl, vthis, lH6⟩
  have vmb6 := lH6 _ _ vmb5
  have vcb6 := lH6 _ _ vcb
  have vpb6 := lH6 _ _ vpb5
  (try simp -implicitDefEqProofs (disch := first | omega | (simp only [qd] <;> omega)) only [xq, ↓xp, qc, Nat.reduceAdd, List.range, List.range.loop, fine, Nat.reduceEqDiff, ↓reduceIte, yielded, reduceCtorEq, Nat.reduceLT, Nat.reduceMul, Nat.reduceSub, one, Nat.reduceLeDiff, runX_cons, y8_46, aq, ↓ap, qe0, qe1, qe2, *, -hK]); try (refine hK _ _ ?_; clear hK K; (try simp only [nq, ↓reduceIte, Nat.reduceEqDiff])); repeat' (first
  | (refine wpX_stmtL rfl ?_; intro K hK; simp -implicitDefEqProofs (disch := first | omega | (simp only [qd] <;> omega)) only [xq, ↓xp, qc, Nat.reduceAdd, List.range, List.range.loop, fine, Nat.reduceEqDiff, ↓reduceIte, yielded, reduceCtorEq, Nat.reduceLT, Nat.reduceMul, Nat.reduceSub, one, Nat.reduceLeDiff, runX_cons, y8_46, aq, ↓ap, qe0, qe1, qe2, *, -hK]; try (refine hK _ _ ?_; clear hK K))
  | (refine wpX_lastL rfl ?_; intro K hK; simp -implicitDefEqProofs (disch := first | omega | (simp only [qd] <;> omega)) only [xq, ↓xp, qc, Nat.reduceAdd, List.range, List.range.loop, fine, Nat.reduceEqDiff, ↓reduceIte, yielded, reduceCtorEq, Nat.reduceLT, Nat.reduceMul, Nat.reduceSub, one, Nat.reduceLeDiff, runX_cons, y8_46, aq, ↓ap, qe0, qe1, qe2, *, -hK]; try (refine hK _ _ ?_; clear hK K; (try simp only [nq, ↓reduceIte, Nat.reduceEqDiff])))
  | (refine wpX_skip ?_; (try simp only [nq, ↓reduceIte, Nat.reduceEqDiff]))
  | (refine wpX_label ?_; (try simp only [nq, ↓reduceIte, Nat.reduceEqDiff]))
  | (refine wpX_exit ?_; (try simp only [nq, ↓reduceIte, Nat.reduceEqDiff]))
  | (refine wpX_goto ?_; (try simp only [nq, ↓reduceIte, Nat.reduceEqDiff]))
  | (refine wpX_condK (by simp only [act_eval, upd_get, Nat.reduceEqDiff, Nat.reduceLT, ↓reduceIte, *]; rfl) ?_ ?_ <;> (intro hc; first | (exfalso; simp -implicitDefEqProofs (disch := omega) only [*, bq, reduceCtorEq] at hc; done) | (simp only [dq, qe3, qe4, qe5, qe6] at hc) | skip))
  | (refine wpX_scope0 ?_)
  | (refine wpX_block ?_)
  | (refine wpX_seq ?_))
  have l46 := Hp.le_trans l4 lH6
  refine wpX_forget (fun e => e 3 = .pointer (some ⟨mb, 0, none⟩) ∧ e 6 = .pointer (some ⟨pb, 0, none⟩) ∧ e 8 = .pointer (some ⟨cb, 0, none⟩) ∧ e 20 = .func (.func 42) #[] #[.pointer (some ⟨thisb, 0, none⟩)]) ⟨rfl, rfl, rfl, rfl⟩ ?_
  rintro e ⟨e3, e6, e8, e20⟩
  clear vmb5 vpb5 vmb6 vpb6 vcb l4 lH6
  refine wpX_range1 (g := 42) (fi := #[]) (cap := #[.pointer (some ⟨thisb, 0, none⟩)]) (by rw [act_eval (by omega), e20]) (by omega) (fun _ _ _ _ => callF42 _ _ _) (fun r l lo hr hl hlo1 hlo2 hround => ?_)
  have hnl : H6 l = none := by
    by_cases e : l = r
    · rw [e]; exact hr
    · rwa [set_ne e] at hl
  have hlr : r ≠ l := fun e => by rw [← e, set_at] at hl; cases hl
  have hn4l : H4 l = none := Hp.le_none l46 hnl
  have hAt : HaulAt H4 hb n v jv n.jobs := ⟨vhb4, hd4.times, hj4', hd4.b1, hd4.b4, hd4.n0, hd4.n30, hd4.ok.2.2, hjb, by omega⟩
  have hC : Client Tryd.prog main (.func (.yield l) #[] #[]) (fun b => H4 b ≠ none ∨ b = cb ∨ b = thisb ∨ b = l ∨ b = r) (fun H v xs => SlI H v xs) (fun xs => xs ∈ comps n.load.toNat n.jobs.length) (cntT H4 n n.jobs mi cb l r thisb hb lo) := by
    refine ⟨?_, ?_, ?_⟩
    · rintro t L H H' ⟨rfl, hle, h1, h2, h3, z, h4, h5⟩ hk
      exact ⟨rfl, fun b x hx => hk b x (.inl (by rw [hx]; simp)) (hle b x hx), hk _ _ (.inr (.inr (.inl rfl))) h1, hk _ _ (.inr (.inr (.inr (.inl rfl)))) h2, hk _ _ (.inr (.inr (.inr (.inr rfl)))) h3, z, hk _ _ (.inr (.inl rfl)) h4, h5⟩
    · rintro t L H b ⟨rfl, hle, h1, h2, h3, z, h4, h5⟩ hb
      rcases hb with hb | rfl | rfl | rfl | rfl
      · obtain ⟨x, hx⟩ := Option.ne_none_iff_exists'.1 hb
        rw [hle _ _ hx]; simp
      · rw [h4]; simp
      · rw [h1]; simp
      · rw [h2]; simp
      · rw [h3]; simp
    · rintro L H v' xs ⟨_, hle, h1, h2, h3, z, h4, h5⟩ hv hA
      obtain ⟨pl, rfl, hp1, hps⟩ := comps_parts _ _ _ hA
      refine hround H v' _ h2 ?_
      obtain ⟨va, vc, rfl, hvc, hvv⟩ := id hv
      repeat' (first
  | (refine wpX_stmtL rfl ?_; intro K hK; simp -implicitDefEqProofs (disch := first | omega | (simp only [qd] <;> omega)) only [xq, ↓xp, qc, Nat.reduceAdd, List.range, List.range.loop, fine, Nat.reduceEqDiff, ↓reduceIte, yielded, reduceCtorEq, Nat.reduceLT, Nat.reduceMul, Nat.reduceSub, one, Nat.reduceLeDiff, runX_cons, y8_46, aq, ↓ap, qe0, qe1, qe2, *, -hK, Bool.or_true]; try (refine hK _ _ ?_; clear hK K))
  | (refine wpX_lastL rfl ?_; intro K hK; simp -implicitDefEqProofs (disch := first | omega | (simp only [qd] <;> omega)) only [xq, ↓xp, qc, Nat.reduceAdd, List.range, List.range.loop, fine, Nat.reduceEqDiff, ↓reduceIte, yielded, reduceCtorEq, Nat.reduceLT, Nat.reduceMul, Nat.reduceSub, one, Nat.reduceLeDiff, runX_cons, y8_46, aq, ↓ap, qe0, qe1, qe2, *, -hK, Bool.or_true]; try (refine hK _ _ ?_; clear hK K; (try simp only [nq, ↓reduceIte, Nat.reduceEqDiff])))
  | (refine wpX_skip ?_; (try simp only [nq, ↓reduceIte, Nat.reduceEqDiff]))
  | (refine wpX_label ?_; (try simp only [nq, ↓reduceIte, Nat.reduceEqDiff]))
  | (refine wpX_exit ?_; (try simp only [nq, ↓reduceIte, Nat.reduceEqDiff]))
  | (refine wpX_goto ?_; (try simp only [nq, ↓reduceIte, Nat.reduceEqDiff]))
  | (refine wpX_condK (by simp only [act_eval, upd_get, Nat.reduceEqDiff, Nat.reduceLT, ↓reduceIte, *]; rfl) ?_ ?_ <;> (intro hc; first | (exfalso; simp -implicitDefEqProofs (disch := omega) only [*, bq, reduceCtorEq] at hc; done) | (simp only [dq, qe3, qe4, qe5, qe6] at hc) | skip))
  | (refine wpX_scope0 ?_)
  | (refine wpX_block ?_)
  | (refine wpX_seq ?_))
      refine ⟨h2, ?_⟩
      have hnlx : ∀ b x, H b = some x → (∀ q, x ≠ (true, .loop q)) → (H.set l (.loop { lo with state := .busy })) b = some x := fun b x hx hq => by
        rw [set_ne (fun e => hq lo (by rw [e, h2] at hx; exact (Option.some.inj hx).symm))]; exact hx
      generalize hB : Hp.set H l (.loop { lo with state := .busy }) = Hb at *
      have vl : Hb l = some (true, .loop { lo with state := .busy }) := by rw [← hB, set_at]
      have l4b : H4.le Hb := fun b x hx => by
        rw [← hB, set_ne (fun e : b = l => by rw [e, hn4l] at hx; cases hx)]
        exact hle b x hx
      have hvb := hv.move (H' := Hb) fun x p c fr hx => hnlx _ _ hx (fun q e => by cases e)
      have vcbB := hnlx _ _ h4 (fun q e => by cases e)
      have vthB := hnlx _ _ h1 (fun q e => by cases e)
      have vrB := hnlx _ _ h3 (fun q e => by cases e)
      have vpbB := l4b _ _ vpb
      have vmbB := l4b _ _ vmb4
      have hpl : pl.length ≤ 4 := by have := parts_len pl hp1; omega
      have hfin := fine_spec main Hb hb n v jv n.jobs (hAt.le l4b) _ pl hvb hp1 (by omega) (by omega) mi h1' h20 (fun r hr => by
        have := dS_back n n.jobs mi pl hAt.xb hAt.n0 hAt.b1 hAt.b4 h1' h20 pl.length (Nat.le_refl _) r hr
        omega)
      repeat' (first
  | (refine wpX_stmtL rfl ?_; intro K hK; simp -implicitDefEqProofs (disch := first | omega | (simp only [qd] <;> omega)) only [xq, ↓xp, qc, Nat.reduceAdd, List.range, List.range.loop, fine, Nat.reduceEqDiff, ↓reduceIte, yielded, reduceCtorEq, Nat.reduceLT, Nat.reduceMul, Nat.reduceSub, one, Nat.reduceLeDiff, runX_cons, y8_46, aq, ↓ap, qe0, qe1, qe2, *, -hK, Bool.or_true]; try (refine hK _ _ ?_; clear hK K))
  | (refine wpX_lastL rfl ?_; intro K hK; simp -implicitDefEqProofs (disch := first | omega | (simp only [qd] <;> omega)) only [xq, ↓xp, qc, Nat.reduceAdd, List.range, List.range.loop, fine, Nat.reduceEqDiff, ↓reduceIte, yielded, reduceCtorEq, Nat.reduceLT, Nat.reduceMul, Nat.reduceSub, one, Nat.reduceLeDiff, runX_cons, y8_46, aq, ↓ap, qe0, qe1, qe2, *, -hK, Bool.or_true]; try (refine hK _ _ ?_; clear hK K; (try simp only [nq, ↓reduceIte, Nat.reduceEqDiff])))
  | (refine wpX_skip ?_; (try simp only [nq, ↓reduceIte, Nat.reduceEqDiff]))
  | (refine wpX_label ?_; (try simp only [nq, ↓reduceIte, Nat.reduceEqDiff]))
  | (refine wpX_exit ?_; (try simp only [nq, ↓reduceIte, Nat.reduceEqDiff]))
  | (refine wpX_goto ?_; (try simp only [nq, ↓reduceIte, Nat.reduceEqDiff]))
  | (refine wpX_condK (by simp only [act_eval, upd_get, Nat.reduceEqDiff, Nat.reduceLT, ↓reduceIte, *]; rfl) ?_ ?_ <;> (intro hc; first | (exfalso; simp -implicitDefEqProofs (disch := omega) only [*, bq, reduceCtorEq] at hc; done) | (simp only [dq, qe3, qe4, qe5, qe6] at hc) | skip)))
      refine wpX_block ?_
      repeat' (first
  | (refine wpX_stmtL rfl ?_; intro K hK; simp -implicitDefEqProofs (disch := first | omega | (simp only [qd] <;> omega)) only [xq, ↓xp, qc, Nat.reduceAdd, List.range, List.range.loop, fine, Nat.reduceEqDiff, ↓reduceIte, yielded, reduceCtorEq, Nat.reduceLT, Nat.reduceMul, Nat.reduceSub, one, Nat.reduceLeDiff, runX_cons, y8_46, aq, ↓ap, qe0, qe1, qe2, *, -hK, Bool.or_true]; try (refine hK _ _ ?_; clear hK K))
  | (refine wpX_lastL rfl ?_; intro K hK; simp -implicitDefEqProofs (disch := first | omega | (simp only [qd] <;> omega)) only [xq, ↓xp, qc, Nat.reduceAdd, List.range, List.range.loop, fine, Nat.reduceEqDiff, ↓reduceIte, yielded, reduceCtorEq, Nat.reduceLT, Nat.reduceMul, Nat.reduceSub, one, Nat.reduceLeDiff, runX_cons, y8_46, aq, ↓ap, qe0, qe1, qe2, *, -hK, Bool.or_true]; try (refine hK _ _ ?_; clear hK K; (try simp only [nq, ↓reduceIte, Nat.reduceEqDiff])))
  | (refine wpX_skip ?_; (try simp only [nq, ↓reduceIte, Nat.reduceEqDiff]))
  | (refine wpX_label ?_; (try simp only [nq, ↓reduceIte, Nat.reduceEqDiff]))
  | (refine wpX_exit ?_; (try simp only [nq, ↓reduceIte, Nat.reduceEqDiff]))
  | (refine wpX_goto ?_; (try simp only [nq, ↓reduceIte, Nat.reduceEqDiff]))
  | (refine wpX_condK (by simp only [act_eval, upd_get, Nat.reduceEqDiff, Nat.reduceLT, ↓reduceIte, *]; rfl) ?_ ?_ <;> (intro hc; first | (exfalso; simp -implicitDefEqProofs (disch := omega) only [*, bq, reduceCtorEq] at hc; done) | (simp only [dq, qe3, qe4, qe5, qe6] at hc) | skip)))
      refine hfin.runs.mono ?_
      rintro _ Hf ⟨t, rfl, ht, lf⟩
      have vlf := lf _ _ vl
      have vcbf := lf _ _ vcbB
      have vthf := lf _ _ vthB
      have vrf := lf _ _ vrB
      have l4f := Hp.le_trans l4b lf
      have lHf : ∀ b x, b ≠ l → H b = some x → Hf b = some x := fun b x hb hx => lf _ _ (by rw [← hB, set_ne hb]; exact hx)
      clear hfin hvb hnlx hround vl vcbB vthB vrB vpbB vmbB hB lf
      have hloe : ({ ({ lo with state := LoopState.busy } : Loop) with state := .ready, pending := none } : Loop) = lo := by
        cases lo; simp only [] at hlo1 hlo2; subst hlo1 hlo2; rfl
      have ncl : cb ≠ l := fun e => by rw [e, vlf] at vcbf; cases vcbf
      have ntl : thisb ≠ l := fun e => by rw [e, vlf] at vthf; cases vthf
      have nrl : r ≠ l := fun e => by rw [e, vlf] at vrf; cases vrf
      have nct : thisb ≠ cb := fun e => by rw [e, vcbf] at vthf; cases vthf
      have ncr : r ≠ cb := fun e => by rw [e, vcbf] at vrf; cases vrf
      have hend : ∀ (Hg : Hp) (z' : Int) (a : Act), a.defers = [] → Hg l = Hf l → Hg cb = some (true, .cells #[.int .i64 z'] 3 (0, 0)) → (∀ b x, b ≠ cb → Hf b = some x → Hg b = some x) → ((L ++ [pl.map (fun x : Nat => (x : Int))]).length ≤ 1000 → 0 ≤ z' ∧ z' ≤ (L ++ [pl.map (fun x : Nat => (x : Int))]).length ∧ ∀ pl' : List Nat, pl'.map (fun x : Nat => (x : Int)) ∈ (L ++ [pl.map (fun x : Nat => (x : Int))]) → fineP n n.jobs mi pl' → 1 ≤ z') →
          rnd l (fun e H' => ∃ t, e = .returned (.bool t) ∧ cntT H4 n n.jobs mi cb l r thisb hb lo t (L ++ [pl.map (fun x : Nat => (x : Int))]) H' ∧ ∀ (b : Nat) (x : Bool × Obj), ¬(H4 b ≠ none ∨ b = cb ∨ b = thisb ∨ b = l ∨ b = r) → H b = some x → H' b = some x) .normal a Hg := by
        intro Hg z' a ha hg1 hg2 hg3 hz
        refine ⟨ha, _, hg1.trans vlf, true, rfl, ?_, ?_⟩
        · rw [hloe]
          refine ⟨rfl, fun b x hx => ?_, ?_, set_at, ?_, z', ?_, hz⟩
          · rw [set_ne (fun e : b = l => by rw [e, hn4l] at hx; cases hx)]
            exact hg3 _ _ (fun e => by rw [e, hcb] at hx; cases hx) (l4f _ _ hx)
          · rw [set_ne ntl]; exact hg3 _ _ nct vthf
          · rw [set_ne nrl]; exact hg3 _ _ ncr vrf
          · rw [set_ne ncl]; exact hg2
        · intro b x hb hx
          have n1 : b ≠ l := fun e => hb (.inr (.inr (.inr (.inl e))))
          rw [set_ne n1]
          exact hg3 _ _ (fun e => hb (.inr (.inl e))) (lHf _ _ n1 hx)
      have hmapinj : ∀ pl' : List Nat, pl'.map (fun x : Nat => (x : Int)) = pl.map (fun x : Nat => (x : Int)) → pl' = pl := fun pl' h => List.map_inj_right (fun a b hab => by omega) |>.1 h
      cases t with
      | true =>
        have hff := ht.1 rfl
        clear ht
        (try simp -implicitDefEqProofs (disch := first | omega | (simp only [qd] <;> omega)) only [xq, ↓xp, qc, Nat.reduceAdd, List.range, List.range.loop, fine, Nat.reduceEqDiff, ↓reduceIte, yielded, reduceCtorEq, Nat.reduceLT, Nat.reduceMul, Nat.reduceSub, one, Nat.reduceLeDiff, runX_cons, y8_46, aq, ↓ap, qe0, qe1, qe2, *, -hK, Bool.or_true]); try (refine hK _ _ ?_; clear hK K; (try simp only [nq, ↓reduceIte, Nat.reduceEqDiff])); repeat' (first
  | (refine wpX_stmtL rfl ?_; intro K hK; simp -implicitDefEqProofs (disch := first | omega | (simp only [qd] <;> omega)) only [xq, ↓xp, qc, Nat.reduceAdd, List.range, List.range.loop, fine, Nat.reduceEqDiff, ↓reduceIte, yielded, reduceCtorEq, Nat.reduceLT, Nat.reduceMul, Nat.reduceSub, one, Nat.reduceLeDiff, runX_cons, y8_46, aq, ↓ap, qe0, qe1, qe2, *, -hK, Bool.or_true]; try (refine hK _ _ ?_; clear hK K))
  | (refine wpX_lastL rfl ?_; intro K hK; simp -implicitDefEqProofs (disch := first | omega | (simp only [qd] <;> omega)) only [xq, ↓xp, qc, Nat.reduceAdd, List.range, List.range.loop, fine, Nat.reduceEqDiff, ↓reduceIte, yielded, reduceCtorEq, Nat.reduceLT, Nat.reduceMul, Nat.reduceSub, one, Nat.reduceLeDiff, runX_cons, y8_46, aq, ↓ap, qe0, qe1, qe2, *, -hK, Bool.or_true]; try (refine hK _ _ ?_; clear hK K; (try simp only [nq, ↓reduceIte, Nat.reduceEqDiff])))
  | (refine wpX_skip ?_; (try simp only [nq, ↓reduceIte, Nat.reduceEqDiff]))
  | (refine wpX_label ?_; (try simp only [nq, ↓reduceIte, Nat.reduceEqDiff]))
  | (refine wpX_exit ?_; (try simp only [nq, ↓reduceIte, Nat.reduceEqDiff]))
  | (refine wpX_goto ?_; (try simp only [nq, ↓reduceIte, Nat.reduceEqDiff]))
  | (refine wpX_condK (by simp only [act_eval, upd_get, Nat.reduceEqDiff, Nat.reduceLT, ↓reduceIte, *]; rfl) ?_ ?_ <;> (intro hc; first | (exfalso; simp -implicitDefEqProofs (disch := omega) only [*, bq, reduceCtorEq] at hc; done) | (simp only [dq, qe3, qe4, qe5, qe6] at hc) | skip))
  | (refine wpX_scope0 ?_)
  | (refine wpX_block ?_)
  | (refine wpX_seq ?_))
        refine hend _ (IntKind.i64.wrap (z + 1)) _ rfl (set_ne (fun e => ncl e.symm)) set_at (fun b x hb hx => by rw [set_ne hb]; exact hx) fun hL => ?_
        simp only [List.length_append, List.length_cons, List.length_nil] at hL ⊢
        have := h5 (by omega)
        have hw : IntKind.i64.wrap (z + 1) = z + 1 := w64 _ (by omega) (by omega)
        rw [hw]
        exact ⟨by omega, by omega, fun _ _ _ => by omega⟩
      | false =>
        have hff : ¬ fineP n n.jobs mi pl := fun h => by have := ht.2 h; cases this
        clear ht
        (try simp -implicitDefEqProofs (disch := first | omega | (simp only [qd] <;> omega)) only [xq, ↓xp, qc, Nat.reduceAdd, List.range, List.range.loop, fine, Nat.reduceEqDiff, ↓reduceIte, yielded, reduceCtorEq, Nat.reduceLT, Nat.reduceMul, Nat.reduceSub, one, Nat.reduceLeDiff, runX_cons, y8_46, aq, ↓ap, qe0, qe1, qe2, *, -hK, Bool.or_true]); try (refine hK _ _ ?_; clear hK K; (try simp only [nq, ↓reduceIte, Nat.reduceEqDiff])); repeat' (first
  | (refine wpX_stmtL rfl ?_; intro K hK; simp -implicitDefEqProofs (disch := first | omega | (simp only [qd] <;> omega)) only [xq, ↓xp, qc, Nat.reduceAdd, List.range, List.range.loop, fine, Nat.reduceEqDiff, ↓reduceIte, yielded, reduceCtorEq, Nat.reduceLT, Nat.reduceMul, Nat.reduceSub, one, Nat.reduceLeDiff, runX_cons, y8_46, aq, ↓ap, qe0, qe1, qe2, *, -hK, Bool.or_true]; try (refine hK _ _ ?_; clear hK K))
  | (refine wpX_lastL rfl ?_; intro K hK; simp -implicitDefEqProofs (disch := first | omega | (simp only [qd] <;> omega)) only [xq, ↓xp, qc, Nat.reduceAdd, List.range, List.range.loop, fine, Nat.reduceEqDiff, ↓reduceIte, yielded, reduceCtorEq, Nat.reduceLT, Nat.reduceMul, Nat.reduceSub, one, Nat.reduceLeDiff, runX_cons, y8_46, aq, ↓ap, qe0, qe1, qe2, *, -hK, Bool.or_true]; try (refine hK _ _ ?_; clear hK K; (try simp only [nq, ↓reduceIte, Nat.reduceEqDiff])))
  | (refine wpX_skip ?_; (try simp only [nq, ↓reduceIte, Nat.reduceEqDiff]))
  | (refine wpX_label ?_; (try simp only [nq, ↓reduceIte, Nat.reduceEqDiff]))
  | (refine wpX_exit ?_; (try simp only [nq, ↓reduceIte, Nat.reduceEqDiff]))
  | (refine wpX_goto ?_; (try simp only [nq, ↓reduceIte, Nat.reduceEqDiff]))
  | (refine wpX_condK (by simp only [act_eval, upd_get, Nat.reduceEqDiff, Nat.reduceLT, ↓reduceIte, *]; rfl) ?_ ?_ <;> (intro hc; first | (exfalso; simp -implicitDefEqProofs (disch := omega) only [*, bq, reduceCtorEq] at hc; done) | (simp only [dq, qe3, qe4, qe5, qe6] at hc) | skip))
  | (refine wpX_scope0 ?_)
  | (refine wpX_block ?_)
  | (refine wpX_seq ?_))
        refine hend _ z _ rfl rfl vcbf (fun b x hb hx => hx) fun hL => ?_
        simp only [List.length_append, List.length_cons, List.length_nil] at hL ⊢
        obtain ⟨z0, z1, z2⟩ := h5 (by omega)
        refine ⟨z0, by omega, fun pl' hm hf' => ?_⟩
        rw [List.mem_append, List.mem_singleton] at hm
        rcases hm with hm | hm
        · exact z2 pl' hm hf'
        · rw [hmapinj pl' hm] at hf'; exact absurd hf' hff
  have hrun := plansOf_spec main n.load.toNat n.jobs.length (by have := hd4.l3; omega) (by omega) hC (fun L H ⟨_, hle, h1, _⟩ => by
    obtain ⟨ja, jc, hjs⟩ : ∃ ja jc, jv = .slice ja n.jobs.length jc := by obtain ⟨ja, jc, h, _⟩ := id hj4'; exact ⟨ja, jc, h⟩
    exact ⟨hb, n, v, ja, jc, h1, by rw [← hjs]; exact hle _ _ vhb4, by have := hd4.l1; omega⟩) ((H6.set r (.deferred (some []))).set l (.loop lo)) ⟨rfl, fun b x hx => ?_, ?_, set_at, ?_, 0, ?_, fun _ => ⟨by omega, by simp, fun pl h => by simp at h⟩⟩ (fun l h => h)
  · refine hrun.runs.mono ?_
    clear hrun hC hround
    rintro _ H8 ⟨t, L', v', rfl, ⟨rfl, hle8, h1, h2, h3, z, h4, h5⟩, hL⟩
    have hL' := hL rfl
    clear hL
    subst hL'
    have hz := (h5 (comps_len _ _ (by have := hd4.l3; omega) hj4)).2.2 _ (comps_ones _ (by have := hd4.l1; omega) _) hf
    have ncl : cb ≠ l := fun e => by rw [e, h2] at h4; cases h4
    have hle9 : H4.le (H8.set l (.loop { lo with state := .exhausted })) := fun b x hx => by
      rw [set_ne (fun e : b = l => by rw [e, hn4l] at hx; cases hx)]; exact hle8 _ _ hx
    have vcb9 : (H8.set l (.loop { lo with state := .exhausted })) cb = _ := (set_ne ncl).trans h4
    have vr9 : (H8.set l (.loop { lo with state := .exhausted })) r = _ := (set_ne hlr).trans h3
    refine behind_none h2 hlo1 hlo2 ?_
    generalize H8.set l (.loop { lo with state := .exhausted }) = H9 at *
    clear h1 h2 h3 h4 h5 hle8 hlo1 hlo2
    (try simp only [nq, ↓reduceIte, Nat.reduceEqDiff])
    repeat' (first
  | (refine wpX_stmtL rfl ?_; intro K hK; simp -implicitDefEqProofs (disch := first | omega | (simp only [qd] <;> omega)) only [xq, ↓xp, qc, Nat.reduceAdd, List.range, List.range.loop, fine, Nat.reduceEqDiff, ↓reduceIte, yielded, reduceCtorEq, Nat.reduceLT, Nat.reduceMul, Nat.reduceSub, one, Nat.reduceLeDiff, runX_cons, y8_46, aq, ↓ap, qe0, qe1, qe2, *, -hK]; try (refine hK _ _ ?_; clear hK K))
  | (refine wpX_lastL rfl ?_; intro K hK; simp -implicitDefEqProofs (disch := first | omega | (simp only [qd] <;> omega)) only [xq, ↓xp, qc, Nat.reduceAdd, List.range, List.range.loop, fine, Nat.reduceEqDiff, ↓reduceIte, yielded, reduceCtorEq, Nat.reduceLT, Nat.reduceMul, Nat.reduceSub, one, Nat.reduceLeDiff, runX_cons, y8_46, aq, ↓ap, qe0, qe1, qe2, *, -hK]; try (refine hK _ _ ?_; clear hK K; (try simp only [nq, ↓reduceIte, Nat.reduceEqDiff])))
  | (refine wpX_skip ?_; (try simp only [nq, ↓reduceIte, Nat.reduceEqDiff]))
  | (refine wpX_label ?_; (try simp only [nq, ↓reduceIte, Nat.reduceEqDiff]))
  | (refine wpX_exit ?_; (try simp only [nq, ↓reduceIte, Nat.reduceEqDiff]))
  | (refine wpX_goto ?_; (try simp only [nq, ↓reduceIte, Nat.reduceEqDiff]))
  | (refine wpX_condK (by simp only [act_eval, upd_get, Nat.reduceEqDiff, Nat.reduceLT, ↓reduceIte, *]; rfl) ?_ ?_ <;> (intro hc; first | (exfalso; simp -implicitDefEqProofs (disch := omega) only [*, bq, reduceCtorEq] at hc; done) | (simp only [dq, qe3, qe4, qe5, qe6] at hc) | skip))
  | (refine wpX_scope0 ?_)
  | (refine wpX_block ?_)
  | (refine wpX_seq ?_))
    refine wpX_ret ?_
    (try simp only [nq, ↓reduceIte, Nat.reduceEqDiff])
    refine bodyX_coll vr9 ?_
    rw [results_two Tryd.results8 (by decide) (by decide)]
    have hn4r : H4 r = none := Hp.le_none l46 hr
    exact ⟨z, rfl, fun b x hx => by
      have hx4 := l14 _ _ hx
      rw [set_ne (fun e : b = r => by rw [e, hn4r] at hx4; cases hx4)]
      exact hle9 _ _ hx4, hz⟩
  · have hn4r : H4 r = none := Hp.le_none l46 hr
    rw [set_ne (fun e : b = l => by rw [e, hn4l] at hx; cases hx), set_ne (fun e : b = r => by rw [e, hn4r] at hx; cases hx)]
    exact l46 _ _ hx
  · rw [set_ne (fun e : thisb = l => by rw [e, hnl] at vthis; cases vthis), set_ne (fun e : thisb = r => by rw [e, hr] at vthis; cases vthis)]
    exact vthis
  · rw [set_ne hlr, set_at]
  · rw [set_ne (fun e : cb = l => by rw [e, hnl] at vcb6; cases vcb6), set_ne (fun e : cb = r => by rw [e, hr] at vcb6; cases vcb6)]
    exact vcb6
end Go.Proofs.YtiempdpjcddgfaaDoor
end
section
/- LikeInts. -/
set_option linter.unusedSimpArgs false
set_option maxRecDepth 100000
set_option maxHeartbeats 1000000
set_option linter.unusedVariables false
namespace Go.Proofs.YtiempdpjcddgfaaDoor
open Go Go.X
set_option linter.defProp false
def y23_47 := And.intro (fun H => len_slice (H := H) Tryd.underlying22) (And.intro (fun H => indexAt_slice (H := H) Tryd.underlying22 Tryd.sizeOf3) (fun H => loadAt_one (H := H) Tryd.underlying3 rfl))

theorem SlI.get {H : Hp} {a : Option Addr} {n cap : Nat} {xs : List Int} (h : SlI H (.slice a n cap) xs) {i : Nat} {x : Int} (hx : xs[i]? = some x) : ∃ (b o : Nat) (p : Bool) (c : Array Value) (fr : Nat × Nat), a = some ⟨b, o, none⟩ ∧ H b = some (p, .cells c 3 fr) ∧ c[o + i]? = some (.int .i64 x) := by
  obtain ⟨a', cap', he, _, hg⟩ := h
  cases he
  exact hg i x hx

theorem likeInts_spec (m : Bool) (H : Hp) (v w : Value) (xs ys : List Int) (hv : SlI H v xs) (hw : SlI H w ys) (hx : xs.length ≤ 1000000) (hy : ys.length ≤ 1000000) :
    FnX Tryd.prog m 23 #[v, w] H fun e H' => e = .returned (.bool (decide (xs = ys))) ∧ H' = H := by
  have hv0 := hv
  have hw0 := hw
  obtain ⟨va, vc, rfl, hvc, _⟩ := id hv
  obtain ⟨wa, wc, rfl, hwc, _⟩ := id hw
  refine FnX_start Tryd.func23 rfl Tryd.ntmps23 (by simp) ?_
  by_cases hl : xs.length = ys.length
  · have hll := hl
    replace hl : xs.length ≤ ys.length ∧ ys.length ≤ xs.length := by omega
    clear hll
    repeat' (first
  | (refine wpX_stmtL rfl ?_; intro K hK; simp -implicitDefEqProofs (disch := first | omega | (simp only [qd] <;> omega)) only [xq, ↓xp, qc, Nat.reduceAdd, List.range, List.range.loop, fine, Nat.reduceEqDiff, ↓reduceIte, yielded, reduceCtorEq, Nat.reduceLT, Nat.reduceMul, Nat.reduceSub, one, Nat.reduceLeDiff, runX_cons, y23_47, aq, ↓ap, qe0, qe1, qe2, *, -hK]; try (refine hK _ _ ?_; clear hK K))
  | (refine wpX_lastL rfl ?_; intro K hK; simp -implicitDefEqProofs (disch := first | omega | (simp only [qd] <;> omega)) only [xq, ↓xp, qc, Nat.reduceAdd, List.range, List.range.loop, fine, Nat.reduceEqDiff, ↓reduceIte, yielded, reduceCtorEq, Nat.reduceLT, Nat.reduceMul, Nat.reduceSub, one, Nat.reduceLeDiff, runX_cons, y23_47, aq, ↓ap, qe0, qe1, qe2, *, -hK]; try (refine hK _ _ ?_; clear hK K; (try simp only [nq, ↓reduceIte, Nat.reduceEqDiff])))
  | (refine wpX_skip ?_; (try simp only [nq, ↓reduceIte, Nat.reduceEqDiff]))
  | (refine wpX_label ?_; (try simp only [nq, ↓reduceIte, Nat.reduceEqDiff]))
  | (refine wpX_exit ?_; (try simp only [nq, ↓reduceIte, Nat.reduceEqDiff]))
  | (refine wpX_goto ?_; (try simp only [nq, ↓reduceIte, Nat.reduceEqDiff]))
  | (refine wpX_condK (by simp only [act_eval, upd_get, Nat.reduceEqDiff, Nat.reduceLT, ↓reduceIte, *]; rfl) ?_ ?_ <;> (intro hc; first | (exfalso; simp -implicitDefEqProofs (disch := omega) only [*, bq, reduceCtorEq] at hc; done) | (simp only [dq, qe3, qe4, qe5, qe6] at hc) | skip))
  | (refine wpX_scope0 ?_)
  | (refine wpX_block ?_)
  | (refine wpX_seq ?_))
    refine wpX_loop (fun w a' H' => ∃ e j, w = xs.length - j ∧ j ≤ xs.length ∧ a' = act 26 e [] ∧ e 0 = .slice va xs.length vc ∧ e 1 = .slice wa ys.length wc ∧ e 5 = .int .i64 (j : Nat) ∧ H' = H ∧ (∀ i, i < j → xs[i]? = ys[i]?)) (n := xs.length) ?_ ?_
    · exact ⟨_, 0, by omega, by omega, rfl, rfl, rfl, rfl, by trivial, fun i h => by omega⟩
    · rintro w' a' H' ⟨e, j, rfl, hj, rfl, e0, e1, e5, hH, hd⟩
      rw [hH]; clear hH H'
      by_cases hlt : j < xs.length
      · obtain ⟨b, o, p, c, fr, hva, hb, hcx⟩ := SlI.get hv0 (List.getElem?_eq_getElem hlt)
        have hlt2 : j < ys.length := by omega
        obtain ⟨b2, o2, p2, c2, fr2, hwa, hb2, hcy⟩ := SlI.get hw0 (List.getElem?_eq_getElem hlt2)
        have hxj := List.getElem?_eq_getElem hlt
        have hyj := List.getElem?_eq_getElem hlt2
        generalize xs[j] = x at *
        generalize ys[j] = y at *
        subst hva hwa
        have hcx' : c[o + (j : Int).toNat * 1]? = some (.int .i64 x) := by simpa using hcx
        have hcy' : c2[o2 + (j : Int).toNat * 1]? = some (.int .i64 y) := by simpa using hcy
        clear hv hw hv0 hw0
        by_cases hxy : x = y
        · replace hxy : x ≤ y ∧ y ≤ x := by omega
          have hd2 : ∀ i, i < j + 1 → xs[i]? = ys[i]? := fun i hi => by
            by_cases he : i = j
            · rw [he, hxj, hyj]; congr 1; omega
            · exact hd i (by omega)
          clear hd hxj hyj
          repeat' (first
  | (refine wpX_stmtL rfl ?_; intro K hK; simp -implicitDefEqProofs (disch := first | omega | (simp only [qd] <;> omega)) only [xq, ↓xp, qc, Nat.reduceAdd, List.range, List.range.loop, fine, Nat.reduceEqDiff, ↓reduceIte, yielded, reduceCtorEq, Nat.reduceLT, Nat.reduceMul, Nat.reduceSub, one, Nat.reduceLeDiff, runX_cons, y23_47, aq, ↓ap, qe0, qe1, qe2, *, -hK]; try (refine hK _ _ ?_; clear hK K))
  | (refine wpX_lastL rfl ?_; intro K hK; simp -implicitDefEqProofs (disch := first | omega | (simp only [qd] <;> omega)) only [xq, ↓xp, qc, Nat.reduceAdd, List.range, List.range.loop, fine, Nat.reduceEqDiff, ↓reduceIte, yielded, reduceCtorEq, Nat.reduceLT, Nat.reduceMul, Nat.reduceSub, one, Nat.reduceLeDiff, runX_cons, y23_47, aq, ↓ap, qe0, qe1, qe2, *, -hK]; try (refine hK _ _ ?_; clear hK K; (try simp only [nq, ↓reduceIte, Nat.reduceEqDiff])))
  | (refine wpX_skip ?_; (try simp only [nq, ↓reduceIte, Nat.reduceEqDiff]))
  | (refine wpX_label ?_; (try simp only [nq, ↓reduceIte, Nat.reduceEqDiff]))
  | (refine wpX_exit ?_; (try simp only [nq, ↓reduceIte, Nat.reduceEqDiff]))
  | (refine wpX_goto ?_; (try simp only [nq, ↓reduceIte, Nat.reduceEqDiff]))
  | (refine wpX_condK (by simp only [act_eval, upd_get, Nat.reduceEqDiff, Nat.reduceLT, ↓reduceIte, *]; rfl) ?_ ?_ <;> (intro hc; first | (exfalso; simp -implicitDefEqProofs (disch := omega) only [*, bq, reduceCtorEq] at hc; done) | (simp only [dq, qe3, qe4, qe5, qe6] at hc) | skip))
  | (refine wpX_scope0 ?_)
  | (refine wpX_block ?_)
  | (refine wpX_seq ?_))
          (refine wpX_dst1 9 [(true, 0), (true, 1), (true, 2), (true, 3), (true, 4), (true, 5), (true, 6), (true, 7), (true, 8)] (by kernel_rfl) (by kernel_rfl) (by simp) (by kernel_rfl) ?_; intro K hK; (iterate 9 (apply plan_take rfl rfl rfl; (focus (simp -implicitDefEqProofs (disch := first | omega | (simp only [qd] <;> omega)) only [xq, ↓xp, qc, Nat.reduceAdd, List.range, List.range.loop, fine, Nat.reduceEqDiff, ↓reduceIte, yielded, reduceCtorEq, Nat.reduceLT, Nat.reduceMul, Nat.reduceSub, one, Nat.reduceLeDiff, runX_cons, y23_47, aq, ↓ap, qe0, qe1, qe2, *, -hK, YN_value] <;> (first | exact rfl | exact ⟨rfl, rfl⟩ | exact ⟨rfl, trivial⟩))); simp -implicitDefEqProofs (disch := first | omega | (simp only [qd] <;> omega)) only [act_put, act_put_none])); refine plan_nil (hK _ _ ?_); clear hK K; (try simp only [nq, ↓reduceIte, Nat.reduceEqDiff]))
          repeat' (first
  | (refine wpX_stmtL rfl ?_; intro K hK; simp -implicitDefEqProofs (disch := first | omega | (simp only [qd] <;> omega)) only [xq, ↓xp, qc, Nat.reduceAdd, List.range, List.range.loop, fine, Nat.reduceEqDiff, ↓reduceIte, yielded, reduceCtorEq, Nat.reduceLT, Nat.reduceMul, Nat.reduceSub, one, Nat.reduceLeDiff, runX_cons, y23_47, aq, ↓ap, qe0, qe1, qe2, *, -hK]; try (refine hK _ _ ?_; clear hK K))
  | (refine wpX_lastL rfl ?_; intro K hK; simp -implicitDefEqProofs (disch := first | omega | (simp only [qd] <;> omega)) only [xq, ↓xp, qc, Nat.reduceAdd, List.range, List.range.loop, fine, Nat.reduceEqDiff, ↓reduceIte, yielded, reduceCtorEq, Nat.reduceLT, Nat.reduceMul, Nat.reduceSub, one, Nat.reduceLeDiff, runX_cons, y23_47, aq, ↓ap, qe0, qe1, qe2, *, -hK]; try (refine hK _ _ ?_; clear hK K; (try simp only [nq, ↓reduceIte, Nat.reduceEqDiff])))
  | (refine wpX_skip ?_; (try simp only [nq, ↓reduceIte, Nat.reduceEqDiff]))
  | (refine wpX_label ?_; (try simp only [nq, ↓reduceIte, Nat.reduceEqDiff]))
  | (refine wpX_exit ?_; (try simp only [nq, ↓reduceIte, Nat.reduceEqDiff]))
  | (refine wpX_goto ?_; (try simp only [nq, ↓reduceIte, Nat.reduceEqDiff]))
  | (refine wpX_condK (by simp only [act_eval, upd_get, Nat.reduceEqDiff, Nat.reduceLT, ↓reduceIte, *]; rfl) ?_ ?_ <;> (intro hc; first | (exfalso; simp -implicitDefEqProofs (disch := omega) only [*, bq, reduceCtorEq] at hc; done) | (simp only [dq, qe3, qe4, qe5, qe6] at hc) | skip))
  | (refine wpX_scope0 ?_)
  | (refine wpX_block ?_)
  | (refine wpX_seq ?_))
          exact ⟨_, by omega, _, j + 1, rfl, by omega, rfl, e0, e1, rfl, by trivial, hd2⟩
        · have hne : xs ≠ ys := fun e => by rw [e, hyj] at hxj; exact hxy (Option.some.inj hxj).symm
          clear hd hxj hyj
          repeat' (first
  | (refine wpX_stmtL rfl ?_; intro K hK; simp -implicitDefEqProofs (disch := first | omega | (simp only [qd] <;> omega)) only [xq, ↓xp, qc, Nat.reduceAdd, List.range, List.range.loop, fine, Nat.reduceEqDiff, ↓reduceIte, yielded, reduceCtorEq, Nat.reduceLT, Nat.reduceMul, Nat.reduceSub, one, Nat.reduceLeDiff, runX_cons, y23_47, aq, ↓ap, qe0, qe1, qe2, *, -hK]; try (refine hK _ _ ?_; clear hK K))
  | (refine wpX_lastL rfl ?_; intro K hK; simp -implicitDefEqProofs (disch := first | omega | (simp only [qd] <;> omega)) only [xq, ↓xp, qc, Nat.reduceAdd, List.range, List.range.loop, fine, Nat.reduceEqDiff, ↓reduceIte, yielded, reduceCtorEq, Nat.reduceLT, Nat.reduceMul, Nat.reduceSub, one, Nat.reduceLeDiff, runX_cons, y23_47, aq, ↓ap, qe0, qe1, qe2, *, -hK]; try (refine hK _ _ ?_; clear hK K; (try simp only [nq, ↓reduceIte, Nat.reduceEqDiff])))
  | (refine wpX_skip ?_; (try simp only [nq, ↓reduceIte, Nat.reduceEqDiff]))
  | (refine wpX_label ?_; (try simp only [nq, ↓reduceIte, Nat.reduceEqDiff]))
  | (refine wpX_exit ?_; (try simp only [nq, ↓reduceIte, Nat.reduceEqDiff]))
  | (refine wpX_goto ?_; (try simp only [nq, ↓reduceIte, Nat.reduceEqDiff]))
  | (refine wpX_condK (by simp only [act_eval, upd_get, Nat.reduceEqDiff, Nat.reduceLT, ↓reduceIte, *]; rfl) ?_ ?_ <;> (intro hc; first | (exfalso; simp -implicitDefEqProofs (disch := omega) only [*, bq, reduceCtorEq] at hc; done) | (simp only [dq, qe3, qe4, qe5, qe6] at hc) | skip))
  | (refine wpX_scope0 ?_)
  | (refine wpX_block ?_)
  | (refine wpX_seq ?_))
          (refine wpX_dst1 9 [(true, 0), (true, 1), (true, 2), (true, 3), (true, 4), (true, 5), (true, 6), (true, 7), (true, 8)] (by kernel_rfl) (by kernel_rfl) (by simp) (by kernel_rfl) ?_; intro K hK; (iterate 9 (apply plan_take rfl rfl rfl; (focus (simp -implicitDefEqProofs (disch := first | omega | (simp only [qd] <;> omega)) only [xq, ↓xp, qc, Nat.reduceAdd, List.range, List.range.loop, fine, Nat.reduceEqDiff, ↓reduceIte, yielded, reduceCtorEq, Nat.reduceLT, Nat.reduceMul, Nat.reduceSub, one, Nat.reduceLeDiff, runX_cons, y23_47, aq, ↓ap, qe0, qe1, qe2, *, -hK, YN_value] <;> (first | exact rfl | exact ⟨rfl, rfl⟩ | exact ⟨rfl, trivial⟩))); simp -implicitDefEqProofs (disch := first | omega | (simp only [qd] <;> omega)) only [act_put, act_put_none])); refine plan_nil (hK _ _ ?_); clear hK K; (try simp only [nq, ↓reduceIte, Nat.reduceEqDiff]))
          repeat' (first
  | (refine wpX_stmtL rfl ?_; intro K hK; simp -implicitDefEqProofs (disch := first | omega | (simp only [qd] <;> omega)) only [xq, ↓xp, qc, Nat.reduceAdd, List.range, List.range.loop, fine, Nat.reduceEqDiff, ↓reduceIte, yielded, reduceCtorEq, Nat.reduceLT, Nat.reduceMul, Nat.reduceSub, one, Nat.reduceLeDiff, runX_cons, y23_47, aq, ↓ap, qe0, qe1, qe2, *, -hK]; try (refine hK _ _ ?_; clear hK K))
  | (refine wpX_lastL rfl ?_; intro K hK; simp -implicitDefEqProofs (disch := first | omega | (simp only [qd] <;> omega)) only [xq, ↓xp, qc, Nat.reduceAdd, List.range, List.range.loop, fine, Nat.reduceEqDiff, ↓reduceIte, yielded, reduceCtorEq, Nat.reduceLT, Nat.reduceMul, Nat.reduceSub, one, Nat.reduceLeDiff, runX_cons, y23_47, aq, ↓ap, qe0, qe1, qe2, *, -hK]; try (refine hK _ _ ?_; clear hK K; (try simp only [nq, ↓reduceIte, Nat.reduceEqDiff])))
  | (refine wpX_skip ?_; (try simp only [nq, ↓reduceIte, Nat.reduceEqDiff]))
  | (refine wpX_label ?_; (try simp only [nq, ↓reduceIte, Nat.reduceEqDiff]))
  | (refine wpX_exit ?_; (try simp only [nq, ↓reduceIte, Nat.reduceEqDiff]))
  | (refine wpX_goto ?_; (try simp only [nq, ↓reduceIte, Nat.reduceEqDiff]))
  | (refine wpX_condK (by simp only [act_eval, upd_get, Nat.reduceEqDiff, Nat.reduceLT, ↓reduceIte, *]; rfl) ?_ ?_ <;> (intro hc; first | (exfalso; simp -implicitDefEqProofs (disch := omega) only [*, bq, reduceCtorEq] at hc; done) | (simp only [dq, qe3, qe4, qe5, qe6] at hc) | skip))
  | (refine wpX_scope0 ?_)
  | (refine wpX_block ?_)
  | (refine wpX_seq ?_))
          (refine wpX_ret ?_; (try simp only [nq, ↓reduceIte, Nat.reduceEqDiff]); rw [bodyX_ret, results_one Tryd.results23 (by decide)]; simp only [upd_get, Nat.reduceEqDiff, ↓reduceIte])
          rw [decide_eq_false hne]
          (refine ⟨?_, ?_⟩ <;> first | rfl | trivial | assumption)
      · obtain rfl : j = xs.length := by omega
        repeat' (first
  | (refine wpX_stmtL rfl ?_; intro K hK; simp -implicitDefEqProofs (disch := first | omega | (simp only [qd] <;> omega)) only [xq, ↓xp, qc, Nat.reduceAdd, List.range, List.range.loop, fine, Nat.reduceEqDiff, ↓reduceIte, yielded, reduceCtorEq, Nat.reduceLT, Nat.reduceMul, Nat.reduceSub, one, Nat.reduceLeDiff, runX_cons, y23_47, aq, ↓ap, qe0, qe1, qe2, *, -hK]; try (refine hK _ _ ?_; clear hK K))
  | (refine wpX_lastL rfl ?_; intro K hK; simp -implicitDefEqProofs (disch := first | omega | (simp only [qd] <;> omega)) only [xq, ↓xp, qc, Nat.reduceAdd, List.range, List.range.loop, fine, Nat.reduceEqDiff, ↓reduceIte, yielded, reduceCtorEq, Nat.reduceLT, Nat.reduceMul, Nat.reduceSub, one, Nat.reduceLeDiff, runX_cons, y23_47, aq, ↓ap, qe0, qe1, qe2, *, -hK]; try (refine hK _ _ ?_; clear hK K; (try simp only [nq, ↓reduceIte, Nat.reduceEqDiff])))
  | (refine wpX_skip ?_; (try simp only [nq, ↓reduceIte, Nat.reduceEqDiff]))
  | (refine wpX_label ?_; (try simp only [nq, ↓reduceIte, Nat.reduceEqDiff]))
  | (refine wpX_exit ?_; (try simp only [nq, ↓reduceIte, Nat.reduceEqDiff]))
  | (refine wpX_goto ?_; (try simp only [nq, ↓reduceIte, Nat.reduceEqDiff]))
  | (refine wpX_condK (by simp only [act_eval, upd_get, Nat.reduceEqDiff, Nat.reduceLT, ↓reduceIte, *]; rfl) ?_ ?_ <;> (intro hc; first | (exfalso; simp -implicitDefEqProofs (disch := omega) only [*, bq, reduceCtorEq] at hc; done) | (simp only [dq, qe3, qe4, qe5, qe6] at hc) | skip))
  | (refine wpX_scope0 ?_)
  | (refine wpX_block ?_)
  | (refine wpX_seq ?_))
        (refine wpX_ret ?_; (try simp only [nq, ↓reduceIte, Nat.reduceEqDiff]); rw [bodyX_ret, results_one Tryd.results23 (by decide)]; simp only [upd_get, Nat.reduceEqDiff, ↓reduceIte])
        refine ⟨?_, by trivial⟩
        rw [decide_eq_true]
        exact List.ext_getElem? fun i => by
          by_cases hi : i < xs.length
          · exact hd i hi
          · rw [List.getElem?_eq_none (by omega), List.getElem?_eq_none (by omega)]
  · have hne : xs ≠ ys := fun e => hl (by rw [e])
    repeat' (first
  | (refine wpX_stmtL rfl ?_; intro K hK; simp -implicitDefEqProofs (disch := first | omega | (simp only [qd] <;> omega)) only [xq, ↓xp, qc, Nat.reduceAdd, List.range, List.range.loop, fine, Nat.reduceEqDiff, ↓reduceIte, yielded, reduceCtorEq, Nat.reduceLT, Nat.reduceMul, Nat.reduceSub, one, Nat.reduceLeDiff, runX_cons, y23_47, aq, ↓ap, qe0, qe1, qe2, *, -hK]; try (refine hK _ _ ?_; clear hK K))
  | (refine wpX_lastL rfl ?_; intro K hK; simp -implicitDefEqProofs (disch := first | omega | (simp only [qd] <;> omega)) only [xq, ↓xp, qc, Nat.reduceAdd, List.range, List.range.loop, fine, Nat.reduceEqDiff, ↓reduceIte, yielded, reduceCtorEq, Nat.reduceLT, Nat.reduceMul, Nat.reduceSub, one, Nat.reduceLeDiff, runX_cons, y23_47, aq, ↓ap, qe0, qe1, qe2, *, -hK]; try (refine hK _ _ ?_; clear hK K; (try simp only [nq, ↓reduceIte, Nat.reduceEqDiff])))
  | (refine wpX_skip ?_; (try simp only [nq, ↓reduceIte, Nat.reduceEqDiff]))
  | (refine wpX_label ?_; (try simp only [nq, ↓reduceIte, Nat.reduceEqDiff]))
  | (refine wpX_exit ?_; (try simp only [nq, ↓reduceIte, Nat.reduceEqDiff]))
  | (refine wpX_goto ?_; (try simp only [nq, ↓reduceIte, Nat.reduceEqDiff]))
  | (refine wpX_condK (by simp only [act_eval, upd_get, Nat.reduceEqDiff, Nat.reduceLT, ↓reduceIte, *]; rfl) ?_ ?_ <;> (intro hc; first | (exfalso; simp -implicitDefEqProofs (disch := omega) only [*, bq, reduceCtorEq] at hc; done) | (simp only [dq, qe3, qe4, qe5, qe6] at hc) | skip))
  | (refine wpX_scope0 ?_)
  | (refine wpX_block ?_)
  | (refine wpX_seq ?_))
    (refine wpX_ret ?_; (try simp only [nq, ↓reduceIte, Nat.reduceEqDiff]); rw [bodyX_ret, results_one Tryd.results23 (by decide)]; simp only [upd_get, Nat.reduceEqDiff, ↓reduceIte])
    rw [decide_eq_false hne]
    (refine ⟨?_, ?_⟩ <;> first | rfl | trivial | assumption)
end Go.Proofs.YtiempdpjcddgfaaDoor
end
section
/- The fewest pieces fetched: bounds, and the first choice that fetches no more. -/
set_option linter.unusedSimpArgs false
set_option maxRecDepth 100000
set_option linter.unusedVariables false
namespace Go.Proofs.YtiempdpjcddgfaaDoor
open Go Go.X

theorem oList_len (m : Nat) : (oList m).length = oCount m := by
  simp [oList, oListN, oCount, List.countP_eq_length_filter]
theorem foldl_min_mem (f : Int → Nat) : ∀ (xs : List Int) (a : Nat), ∀ p ∈ xs, xs.foldl (fun acc p => min acc (f p)) a ≤ f p
  | x :: xs, a, p, hp => by
    rcases List.mem_cons.1 hp with rfl | hp
    · exact Nat.le_trans (foldl_min_le f xs _) (Nat.min_le_right _ _)
    · exact foldl_min_mem f xs _ p hp
theorem foldl_min_at (f : Int → Nat) : ∀ (xs : List Int) (a : Nat), xs.foldl (fun acc p => min acc (f p)) a = a ∨ ∃ p ∈ xs, xs.foldl (fun acc p => min acc (f p)) a = f p
  | [], a => .inl rfl
  | x :: xs, a => by
    rcases foldl_min_at f xs (min a (f x)) with h | ⟨p, hp, h⟩
    · simp only [List.foldl_cons]
      rw [h]
      rcases Nat.le_total a (f x) with h1 | h1
      · exact .inl (Nat.min_eq_left h1)
      · exact .inr ⟨x, by simp, Nat.min_eq_right h1⟩
    · exact .inr ⟨p, by simp [hp], h⟩
/-- No more than one piece a call. -/
theorem optF_len (L : Nat) (pl : Int) (h1 : 1 ≤ pl) : ∀ (ts : List Int) (m : Nat), ts.length ≤ L → optF L pl ts m ≤ ts.length
  | [], m, _ => Nat.le_refl _
  | t :: ts, m, h => by
    simp only [List.length_cons] at h ⊢
    have ih := fun m => optF_len L pl h1 ts m (by omega)
    rw [optF]
    split
    · exact Nat.le_trans (ih _) (by omega)
    · split
      · rename_i hc
        have hl := oList_len m
        obtain ⟨x, hx⟩ : ∃ x, x ∈ oList m := List.exists_mem_of_length_pos (by omega)
        refine Nat.le_trans (foldl_min_mem _ _ _ x hx) ?_
        have := ih (oNext m x t)
        omega
      · have := ih (oNext m (-1) t)
        omega
/-- What may be sent at a call, and what the call costs. -/
def optsF (pl : Int) (m : Nat) (t : Int) : List Int := if m.testBit t.toNat then [-1] else if pl ≤ oCount m then oList m else [-1]
def costF (m : Nat) (t : Int) : Nat := if m.testBit t.toNat then 0 else 1
theorem optF_at (L : Nat) (pl : Int) (h1 : 1 ≤ pl) (t : Int) (ts : List Int) (m : Nat) (hL : (t :: ts).length ≤ L) : ∃ s ∈ optsF pl m t, costF m t + optF L pl ts (oNext m s t) = optF L pl (t :: ts) m := by
  unfold optsF costF
  rw [optF]
  split
  · exact ⟨-1, by simp, by omega⟩
  · split
    · rename_i hc
      rcases foldl_min_at (fun p => 1 + optF L pl ts (oNext m p t)) (oList m) (L + 1) with h | ⟨p, hp, h⟩
      · exfalso
        have hl := oList_len m
        obtain ⟨x, hx⟩ : ∃ x, x ∈ oList m := List.exists_mem_of_length_pos (by omega)
        have h2 := foldl_min_mem (fun p => 1 + optF L pl ts (oNext m p t)) (oList m) (L + 1) x hx
        have h3 := optF_len L pl h1 ts (oNext m x t) (by simp only [List.length_cons] at hL; omega)
        simp only [List.length_cons] at hL
        omega
      · exact ⟨p, hp, h.symm⟩
    · exact ⟨-1, by simp, rfl⟩
theorem optF_le_at (L : Nat) (pl : Int) (t : Int) (ts : List Int) (m : Nat) : ∀ s ∈ optsF pl m t, optF L pl (t :: ts) m ≤ costF m t + optF L pl ts (oNext m s t) := by
  intro s hs
  unfold optsF at hs
  unfold costF
  rw [optF]
  split at hs
  · rename_i hb
    rw [if_pos hb, if_pos hb, List.mem_singleton.1 hs]
    omega
  · rename_i hb
    rw [if_neg hb, if_neg hb]
    split at hs
    · rename_i hc
      rw [if_pos hc]
      exact foldl_min_mem (fun p => 1 + optF L pl ts (oNext m p t)) _ _ s hs
    · rename_i hc
      rw [if_neg hc, List.mem_singleton.1 hs]
      exact Nat.le_refl _
/-- The first of the best choices. -/
def pathF (L : Nat) (pl : Int) : List Int → Nat → List Int
  | [], _ => []
  | t :: ts, m =>
    let s := ((optsF pl m t).find? fun s => costF m t + optF L pl ts (oNext m s t) ≤ optF L pl (t :: ts) m).getD (-1)
    s :: pathF L pl ts (oNext m s t)
end Go.Proofs.YtiempdpjcddgfaaDoor
end
section
/- The function that hands the best choices on, up to the first. -/
set_option linter.unusedSimpArgs false
set_option maxRecDepth 100000
set_option maxHeartbeats 1000000
set_option linter.unusedVariables false
namespace Go.Proofs.YtiempdpjcddgfaaDoor
open Go Go.X
set_option linter.defProp false
def y34_49 := And.intro (fun H => fieldAt_eq (H := H) Tryd.underlying62 (i := 0) rfl (off := 0) rfl Tryd.sizeOf3) (And.intro (fun H => loadAt_one (H := H) Tryd.underlying3 rfl) (And.intro (fun H => loadAt_one (H := H) Tryd.underlying51 rfl) (And.intro (fun H => fieldAt_eq (H := H) Tryd.underlying93 (i := 1) rfl (off := 4) rfl Tryd.sizeOf22) (And.intro (fun H => loadAt_one (H := H) Tryd.underlying22 rfl) (And.intro (fun H => len_slice (H := H) Tryd.underlying22) (And.intro (fun H => loadAt_one (H := H) Tryd.underlying89 rfl) (And.intro (fun H => loadAt_aggE (H := H) Tryd.underlying58 rfl Tryd.sizeOf58) (And.intro (fun H => loadAt_aggE (H := H) Tryd.underlying62 rfl Tryd.sizeOf62) (And.intro @callF35 (And.intro @lit_22_1_0_0 (And.intro (fun H => fieldAt_eq (H := H) Tryd.underlying62 (i := 1) rfl (off := 1) rfl Tryd.sizeOf60) (And.intro (fun H => loadAt_one (H := H) Tryd.underlying60 rfl) (And.intro @callF36 (And.intro (fun H => indexAt_slice (H := H) Tryd.underlying22 Tryd.sizeOf3) (And.intro @callF37 (And.intro (fun H => ex_alloc (H := H) (P := Tryd.prog) (h := Tryd.zeroValue62)) (And.intro (fun H => storeAt_agg (H := H) Tryd.sizeOf62) (And.intro @callF17 (And.intro (fun H => indexAt_array (H := H) Tryd.underlying58 Tryd.sizeOf3) (And.intro (fun H => storeAt_int (H := H) Tryd.sizeOf3) (fun H => loadAt_one (H := H) Tryd.underlying90 rfl)))))))))))))))))))))

theorem choices_spec (main : Bool) (H : Hp) (db : Nat) :
    FnX Tryd.prog main 16 #[.pointer (some ⟨db, 0, none⟩)] H fun e H' => ∃ thisb, e = .returned (.func (.func 33) #[] #[.pointer (some ⟨thisb, 0, none⟩)]) ∧ H' thisb = some (true, .cells #[.pointer (some ⟨db, 0, none⟩)] 51 (0, 0)) ∧ H.le H' := by
  refine FnX_start Tryd.func16 rfl Tryd.ntmps16 (by simp) ?_
  repeat' (first
  | (refine wpX_stmtL rfl ?_; intro K hK; simp -implicitDefEqProofs (disch := first | omega | (simp only [qd] <;> omega)) only [xq, ↓xp, qc, Nat.reduceAdd, List.range, List.range.loop, fine, Nat.reduceEqDiff, ↓reduceIte, yielded, reduceCtorEq, Nat.reduceLT, Nat.reduceMul, Nat.reduceSub, one, Nat.reduceLeDiff, runX_cons, aq, ↓ap, qe0, qe1, qe2, *, -hK]; try (refine hK _ _ ?_; clear hK K))
  | (refine wpX_lastL rfl ?_; intro K hK; simp -implicitDefEqProofs (disch := first | omega | (simp only [qd] <;> omega)) only [xq, ↓xp, qc, Nat.reduceAdd, List.range, List.range.loop, fine, Nat.reduceEqDiff, ↓reduceIte, yielded, reduceCtorEq, Nat.reduceLT, Nat.reduceMul, Nat.reduceSub, one, Nat.reduceLeDiff, runX_cons, aq, ↓ap, qe0, qe1, qe2, *, -hK]; try (refine hK _ _ ?_; clear hK K; (try simp only [nq, ↓reduceIte, Nat.reduceEqDiff])))
  | (refine wpX_skip ?_; (try simp only [nq, ↓reduceIte, Nat.reduceEqDiff]))
  | (refine wpX_label ?_; (try simp only [nq, ↓reduceIte, Nat.reduceEqDiff]))
  | (refine wpX_exit ?_; (try simp only [nq, ↓reduceIte, Nat.reduceEqDiff]))
  | (refine wpX_goto ?_; (try simp only [nq, ↓reduceIte, Nat.reduceEqDiff]))
  | (refine wpX_condK (by simp only [act_eval, upd_get, Nat.reduceEqDiff, Nat.reduceLT, ↓reduceIte, *]; rfl) ?_ ?_ <;> (intro hc; first | (exfalso; simp -implicitDefEqProofs (disch := omega) only [*, bq, reduceCtorEq] at hc; done) | (simp only [dq, qe3, qe4, qe5, qe6] at hc) | skip))
  | (refine wpX_scope0 ?_)
  | (refine wpX_block ?_)
  | (refine wpX_seq ?_))
  (intro thisb hthisb; generalize hG : Hp.set _ thisb _ = H1; have lH1 := le_of_set hG hthisb; have vthisb := at_of_set hG; clear hG)
  (try simp -implicitDefEqProofs (disch := first | omega | (simp only [qd] <;> omega)) only [xq, ↓xp, qc, Nat.reduceAdd, List.range, List.range.loop, fine, Nat.reduceEqDiff, ↓reduceIte, yielded, reduceCtorEq, Nat.reduceLT, Nat.reduceMul, Nat.reduceSub, one, Nat.reduceLeDiff, runX_cons, aq, ↓ap, qe0, qe1, qe2, *, -hK]); try (refine hK _ _ ?_; clear hK K; (try simp only [nq, ↓reduceIte, Nat.reduceEqDiff])); repeat' (first
  | (refine wpX_stmtL rfl ?_; intro K hK; simp -implicitDefEqProofs (disch := first | omega | (simp only [qd] <;> omega)) only [xq, ↓xp, qc, Nat.reduceAdd, List.range, List.range.loop, fine, Nat.reduceEqDiff, ↓reduceIte, yielded, reduceCtorEq, Nat.reduceLT, Nat.reduceMul, Nat.reduceSub, one, Nat.reduceLeDiff, runX_cons, aq, ↓ap, qe0, qe1, qe2, *, -hK]; try (refine hK _ _ ?_; clear hK K))
  | (refine wpX_lastL rfl ?_; intro K hK; simp -implicitDefEqProofs (disch := first | omega | (simp only [qd] <;> omega)) only [xq, ↓xp, qc, Nat.reduceAdd, List.range, List.range.loop, fine, Nat.reduceEqDiff, ↓reduceIte, yielded, reduceCtorEq, Nat.reduceLT, Nat.reduceMul, Nat.reduceSub, one, Nat.reduceLeDiff, runX_cons, aq, ↓ap, qe0, qe1, qe2, *, -hK]; try (refine hK _ _ ?_; clear hK K; (try simp only [nq, ↓reduceIte, Nat.reduceEqDiff])))
  | (refine wpX_skip ?_; (try simp only [nq, ↓reduceIte, Nat.reduceEqDiff]))
  | (refine wpX_label ?_; (try simp only [nq, ↓reduceIte, Nat.reduceEqDiff]))
  | (refine wpX_exit ?_; (try simp only [nq, ↓reduceIte, Nat.reduceEqDiff]))
  | (refine wpX_goto ?_; (try simp only [nq, ↓reduceIte, Nat.reduceEqDiff]))
  | (refine wpX_condK (by simp only [act_eval, upd_get, Nat.reduceEqDiff, Nat.reduceLT, ↓reduceIte, *]; rfl) ?_ ?_ <;> (intro hc; first | (exfalso; simp -implicitDefEqProofs (disch := omega) only [*, bq, reduceCtorEq] at hc; done) | (simp only [dq, qe3, qe4, qe5, qe6] at hc) | skip))
  | (refine wpX_scope0 ?_)
  | (refine wpX_block ?_)
  | (refine wpX_seq ?_))
  (refine wpX_ret ?_; (try simp only [nq, ↓reduceIte, Nat.reduceEqDiff]); rw [bodyX_ret, results_one Tryd.results16 (by decide)]; simp only [upd_get, Nat.reduceEqDiff, ↓reduceIte])
  exact ⟨thisb, rfl, vthisb, lH1⟩

theorem SlI.kept {H H' : Hp} {v : Value} {xs : List Int} (h : SlI H v xs) (hk : xs ≠ [] → ∀ b x, rowB v = some b → H b = some x → H' b = some x) : SlI H' v xs := by
  obtain ⟨a, cap, rfl, hc, hg⟩ := h
  refine ⟨a, cap, rfl, hc, fun i x hi => ?_⟩
  obtain ⟨b, o, p, c, fr, rfl, hb, hx⟩ := hg i x hi
  exact ⟨b, o, p, c, fr, rfl, hk (fun e => by rw [e] at hi; simp at hi) b _ rfl hb, hx⟩

/-- The day, and the memory of the function that hands choices on. -/
structure Picks (base : Hp) (S : Nat → Prop) (T : Bool → List (List Int) → Hp → Prop) (y : Value) (pl pieces : Int) (sv cv tv : Value) (ts : List Int) (thisb db mb yb ab gb : Nat) (t : Bool) (L : List (List Int)) (xs : List Int) (H : Hp) : Prop where
  cl : T t L H
  th : H thisb = some (true, .cells #[.pointer (some ⟨db, 0, none⟩)] 51 (0, 0))
  day : H db = some (true, dayO pl pieces sv cv tv mb)
  tr : SlI H tv ts
  known : KnownI H mb ts.length pl ts
  vy : H yb = some (true, .cells #[y] 89 (0, 0))
  va : H ab = some (true, .cells (ints xs).toArray 58 (0, 0))
  vg : H gb = some (true, .cells #[.func (.func 34) #[] #[.pointer (some ⟨thisb, 0, none⟩), .pointer (some ⟨yb, 0, none⟩), .pointer (some ⟨ab, 0, none⟩), .pointer (some ⟨gb, 0, none⟩)]] 90 (0, 0))
  l8 : xs.length = 8
  nth : ¬ S thisb
  nd : ¬ S db
  nm : ¬ S mb
  nt : ts ≠ [] → ∀ b, rowB tv = some b → ¬ S b
  ny : ¬ S yb
  na : ¬ S ab
  ng : ¬ S gb
  fr : ∀ b x, ¬ S b → b ≠ mb → b ≠ ab → base b = some x → H b = some x

theorem Picks.le {base : Hp} {P : Program} {main : Bool} {S : Nat → Prop} {A : List Int → Prop} {arg : Hp → Value → List Int → Prop} {T : Bool → List (List Int) → Hp → Prop} {y : Value} {pl pieces : Int} {sv cv tv : Value} {ts : List Int} {thisb db mb yb ab gb : Nat} {t : Bool} {L : List (List Int)} {xs : List Int} {H H' : Hp}
    (hP : Picks base S T y pl pieces sv cv tv ts thisb db mb yb ab gb t L xs H) (hC : Client P main y S arg A T) (hl : H.le H') : Picks base S T y pl pieces sv cv tv ts thisb db mb yb ab gb t L xs H' := by
  refine { hP with cl := hC.keep _ _ _ _ hP.cl (fun b x _ hx => hl _ _ hx), th := hl _ _ hP.th, day := hl _ _ hP.day, tr := hP.tr.le hl, known := ?_, vy := hl _ _ hP.vy, va := hl _ _ hP.va, vg := hl _ _ hP.vg, fr := fun b x h0 h1 h2 hx => hl _ _ (hP.fr b x h0 h1 h2 hx) }
  obtain ⟨es, cl, h1, h2⟩ := hP.known
  exact ⟨es, cl, hl _ _ h1, h2⟩

/-- Only the map of what is known has changed. -/
theorem Picks.lex {base : Hp} {P : Program} {main : Bool} {S : Nat → Prop} {A : List Int → Prop} {arg : Hp → Value → List Int → Prop} {T : Bool → List (List Int) → Hp → Prop} {y : Value} {pl pieces : Int} {sv cv tv : Value} {ts : List Int} {thisb db mb yb ab gb : Nat} {t : Bool} {L : List (List Int)} {xs : List Int} {H H' : Hp}
    (hP : Picks base S T y pl pieces sv cv tv ts thisb db mb yb ab gb t L xs H) (hC : Client P main y S arg A T) (hl : Lex (some mb) H H') (hk : KnownI H' mb ts.length pl ts) : Picks base S T y pl pieces sv cv tv ts thisb db mb yb ab gb t L xs H' := by
  obtain ⟨es, cl, h1, h2⟩ := id hP.known
  have hh : ∀ b p c e fr, H b = some (p, .cells c e fr) → H' b = some (p, .cells c e fr) := fun b p c e fr hx => hl.keeps hx fun e' => by rw [e', h1] at hx; cases hx
  exact { hP with cl := hC.keep _ _ _ _ hP.cl (fun b x hb hx => hl.keeps hx fun e => hP.nm (e ▸ hb)), th := hh _ _ _ _ _ hP.th, day := hh _ _ _ _ _ hP.day, tr := hP.tr.lexMap hl h1, known := hk, vy := hh _ _ _ _ _ hP.vy, va := hh _ _ _ _ _ hP.va, vg := hh _ _ _ _ _ hP.vg, fr := fun b x h0 h1 h2 hx => hl.keeps (hP.fr b x h0 h1 h2 hx) h1 }

theorem Picks.put {base : Hp} {P : Program} {main : Bool} {S : Nat → Prop} {A : List Int → Prop} {arg : Hp → Value → List Int → Prop} {T : Bool → List (List Int) → Hp → Prop} {y : Value} {pl pieces : Int} {sv cv tv : Value} {ts : List Int} {thisb db mb yb ab gb : Nat} {t : Bool} {L : List (List Int)} {xs : List Int} {H : Hp}
    (hP : Picks base S T y pl pieces sv cv tv ts thisb db mb yb ab gb t L xs H) (hC : Client P main y S arg A T) (c : Nat) (s : Int) : Picks base S T y pl pieces sv cv tv ts thisb db mb yb ab gb t L (xs.set c s) (H.set ab (.cells (ints (xs.set c s)).toArray 58 (0, 0))) := by
  have va := hP.va
  have hk : ∀ b x, H b = some x → (∀ c, x ≠ (true, .cells c 58 (0, 0))) → (H.set ab (.cells (ints (xs.set c s)).toArray 58 (0, 0))) b = some x := fun b x hx hn => by
    rw [set_ne (fun e => hn (ints xs).toArray (by rw [e, va] at hx; exact (Option.some.inj hx).symm))]; exact hx
  obtain ⟨es, cl, h1, h2⟩ := hP.known
  exact { hP with cl := hC.keep _ _ _ _ hP.cl (fun b x hb hx => by rw [set_ne (fun e : b = ab => hP.na (by rw [← e]; exact hb))]; exact hx), th := hk _ _ hP.th (fun c e => by cases e), day := hk _ _ hP.day (fun c e => by cases e), tr := hP.tr.set (fun p c fr e => by rw [va] at e; cases e), known := ⟨es, cl, hk _ _ h1 (fun c e => by cases e), h2⟩, vy := hk _ _ hP.vy (fun c e => by cases e), va := set_at, vg := hk _ _ hP.vg (fun c e => by cases e), l8 := by rw [List.length_set]; exact hP.l8, fr := fun b x h0 h1 h2 hx => by rw [set_ne h2]; exact hP.fr b x h0 h1 h2 hx }

theorem find_at {α : Type} {p : α → Bool} : ∀ {l : List α} {i : Nat} {x : α}, l[i]? = some x → p x = true → (∀ j y, j < i → l[j]? = some y → p y = false) → l.find? p = some x
  | [], _, _, h, _, _ => by simp at h
  | a :: l, 0, x, h, hp, _ => by
    simp only [List.getElem?_cons_zero, Option.some.injEq] at h
    subst h
    simp [hp]
  | a :: l, i + 1, x, h, hp, hn => by
    have ha := hn 0 a (by omega) rfl
    rw [List.find?_cons, ha]
    exact find_at (l := l) (i := i) (by simpa using h) hp fun j y hj hy => hn (j + 1) y (by omega) (by simpa using hy)
theorem take_set_succ {α : Type} (xs : List α) (c : Nat) (s : α) (h : c < xs.length) : (xs.set c s).take (c + 1) = xs.take c ++ [s] := by
  rw [List.take_add_one, List.getElem?_set_self h, List.take_set_of_le (Nat.le_refl _)]
  rfl

/-- From this place on the first of the best choices is handed on; the client wants no more. -/
theorem choose_spec (main : Bool) {base : Hp} {S : Nat → Prop} {A : List Int → Prop} {T : Bool → List (List Int) → Hp → Prop} {yf : Fn} {yi yc : Array Value} {pl pieces : Int} {sv cv tv : Value} {ts : List Int} {thisb db mb yb ab gb : Nat} (hdm : db ≠ mb) (hln : ts.length ≤ 8) (hts6 : ∀ t ∈ ts, 0 ≤ t ∧ t < 6) (h1 : 1 ≤ pl)
    (hC : Client Tryd.prog main (.func yf yi yc) S (fun H v xs => v = .agg (ints xs).toArray) A T) (hstop : ∀ l H, ¬ T true [l] H) :
    ∀ (n c m : Nat) (xs : List Int) (H : Hp), ts.length - c = n → c ≤ ts.length → m < 64 → Picks base S T (.func yf yi yc) pl pieces sv cv tv ts thisb db mb yb ab gb true [] xs H → A (xs.take c ++ pathF ts.length pl (ts.drop c) m ++ xs.drop ts.length) →
      FnX Tryd.prog main 34 #[spotV c m, .pointer (some ⟨thisb, 0, none⟩), .pointer (some ⟨yb, 0, none⟩), .pointer (some ⟨ab, 0, none⟩), .pointer (some ⟨gb, 0, none⟩)] H fun e H' => e = .returned (.bool false) ∧
        ∃ xs', xs' = xs.take c ++ pathF ts.length pl (ts.drop c) m ++ xs.drop ts.length ∧ Picks base S T (.func yf yi yc) pl pieces sv cv tv ts thisb db mb yb ab gb false [xs'] xs' H' := by
  intro n
  induction n using Nat.strongRecOn with
  | _ n ih =>
  intro c m xs H hn hc hm hP hA
  simp only [spotV]
  refine FnX_start Tryd.func34 rfl Tryd.ntmps34 (by simp) ?_
  repeat' (first
  | (refine wpX_stmtL rfl ?_; intro K hK; simp -implicitDefEqProofs (disch := first | omega | (simp only [qd] <;> omega)) only [xq, ↓xp, qc, Nat.reduceAdd, List.range, List.range.loop, fine, Nat.reduceEqDiff, ↓reduceIte, yielded, reduceCtorEq, Nat.reduceLT, Nat.reduceMul, Nat.reduceSub, one, Nat.reduceLeDiff, runX_cons, y34_49, aq, ↓ap, qe0, qe1, qe2, *, -hK]; try (refine hK _ _ ?_; clear hK K))
  | (refine wpX_lastL rfl ?_; intro K hK; simp -implicitDefEqProofs (disch := first | omega | (simp only [qd] <;> omega)) only [xq, ↓xp, qc, Nat.reduceAdd, List.range, List.range.loop, fine, Nat.reduceEqDiff, ↓reduceIte, yielded, reduceCtorEq, Nat.reduceLT, Nat.reduceMul, Nat.reduceSub, one, Nat.reduceLeDiff, runX_cons, y34_49, aq, ↓ap, qe0, qe1, qe2, *, -hK]; try (refine hK _ _ ?_; clear hK K; (try simp only [nq, ↓reduceIte, Nat.reduceEqDiff])))
  | (refine wpX_skip ?_; (try simp only [nq, ↓reduceIte, Nat.reduceEqDiff]))
  | (refine wpX_label ?_; (try simp only [nq, ↓reduceIte, Nat.reduceEqDiff]))
  | (refine wpX_exit ?_; (try simp only [nq, ↓reduceIte, Nat.reduceEqDiff]))
  | (refine wpX_goto ?_; (try simp only [nq, ↓reduceIte, Nat.reduceEqDiff]))
  | (refine wpX_condK (by simp only [act_eval, upd_get, Nat.reduceEqDiff, Nat.reduceLT, ↓reduceIte, *]; rfl) ?_ ?_ <;> (intro hc; first | (exfalso; simp -implicitDefEqProofs (disch := omega) only [*, bq, reduceCtorEq] at hc; done) | (simp only [dq, qe3, qe4, qe5, qe6] at hc) | skip)))
  (intro sb hsb; generalize hG : Hp.set _ sb _ = H1; have lH1 := le_of_set hG hsb; have vsb := at_of_set hG; clear hG)
  have hP1 := hP.le hC lH1
  have nsb : ¬ S sb := fun h => hC.ex _ _ _ _ hP.cl h hsb
  have nsm : sb ≠ mb := fun e => by obtain ⟨es, cl, h1, h2⟩ := hP.known; rw [e, h1] at hsb; cases hsb
  clear hP lH1 hsb
  (try simp -implicitDefEqProofs (disch := first | omega | (simp only [qd] <;> omega)) only [xq, ↓xp, qc, Nat.reduceAdd, List.range, List.range.loop, fine, Nat.reduceEqDiff, ↓reduceIte, yielded, reduceCtorEq, Nat.reduceLT, Nat.reduceMul, Nat.reduceSub, one, Nat.reduceLeDiff, runX_cons, y34_49, aq, ↓ap, qe0, qe1, qe2, *, -hK]); try (refine hK _ _ ?_; clear hK K; (try simp only [nq, ↓reduceIte, Nat.reduceEqDiff])); repeat' (first
  | (refine wpX_stmtL rfl ?_; intro K hK; simp -implicitDefEqProofs (disch := first | omega | (simp only [qd] <;> omega)) only [xq, ↓xp, qc, Nat.reduceAdd, List.range, List.range.loop, fine, Nat.reduceEqDiff, ↓reduceIte, yielded, reduceCtorEq, Nat.reduceLT, Nat.reduceMul, Nat.reduceSub, one, Nat.reduceLeDiff, runX_cons, y34_49, aq, ↓ap, qe0, qe1, qe2, *, -hK]; try (refine hK _ _ ?_; clear hK K))
  | (refine wpX_lastL rfl ?_; intro K hK; simp -implicitDefEqProofs (disch := first | omega | (simp only [qd] <;> omega)) only [xq, ↓xp, qc, Nat.reduceAdd, List.range, List.range.loop, fine, Nat.reduceEqDiff, ↓reduceIte, yielded, reduceCtorEq, Nat.reduceLT, Nat.reduceMul, Nat.reduceSub, one, Nat.reduceLeDiff, runX_cons, y34_49, aq, ↓ap, qe0, qe1, qe2, *, -hK]; try (refine hK _ _ ?_; clear hK K; (try simp only [nq, ↓reduceIte, Nat.reduceEqDiff])))
  | (refine wpX_skip ?_; (try simp only [nq, ↓reduceIte, Nat.reduceEqDiff]))
  | (refine wpX_label ?_; (try simp only [nq, ↓reduceIte, Nat.reduceEqDiff]))
  | (refine wpX_exit ?_; (try simp only [nq, ↓reduceIte, Nat.reduceEqDiff]))
  | (refine wpX_goto ?_; (try simp only [nq, ↓reduceIte, Nat.reduceEqDiff]))
  | (refine wpX_condK (by simp only [act_eval, upd_get, Nat.reduceEqDiff, Nat.reduceLT, ↓reduceIte, *]; rfl) ?_ ?_ <;> (intro hc; first | (exfalso; simp -implicitDefEqProofs (disch := omega) only [*, bq, reduceCtorEq] at hc; done) | (simp only [dq, qe3, qe4, qe5, qe6] at hc) | skip)))
  have vsb0 := vsb
  have vth := hP1.th
  have vdb := hP1.day
  obtain ⟨ta, tc, rfl, htc, _⟩ := id hP1.tr
  simp only [dayO] at vdb
  refine wpX_scope0 (wpX_seq (wpX_seq ?_))
  (refine wpX_dst1 8 [(true, 0), (true, 1), (true, 2), (true, 3), (true, 4), (true, 5), (true, 6), (true, 7)] (by kernel_rfl) (by kernel_rfl) (by simp) (by kernel_rfl) ?_; intro K hK; (iterate 8 (apply plan_take rfl rfl rfl; (focus (simp -implicitDefEqProofs (disch := first | omega | (simp only [qd] <;> omega)) only [xq, ↓xp, qc, Nat.reduceAdd, List.range, List.range.loop, fine, Nat.reduceEqDiff, ↓reduceIte, yielded, reduceCtorEq, Nat.reduceLT, Nat.reduceMul, Nat.reduceSub, one, Nat.reduceLeDiff, runX_cons, y34_49, aq, ↓ap, qe0, qe1, qe2, *, -hK, YN_value] <;> (first | exact rfl | exact ⟨rfl, rfl⟩ | exact ⟨rfl, trivial⟩))); simp -implicitDefEqProofs (disch := first | omega | (simp only [qd] <;> omega)) only [act_put, act_put_none])); refine plan_nil (hK _ _ ?_); clear hK K; (try simp only [nq, ↓reduceIte, Nat.reduceEqDiff]))
  by_cases hce : c = ts.length
  · subst hce
    have vyb := hP1.vy
    have vab := hP1.va
    repeat' (first
  | (refine wpX_stmtL rfl ?_; intro K hK; simp -implicitDefEqProofs (disch := first | omega | (simp only [qd] <;> omega)) only [xq, ↓xp, qc, Nat.reduceAdd, List.range, List.range.loop, fine, Nat.reduceEqDiff, ↓reduceIte, yielded, reduceCtorEq, Nat.reduceLT, Nat.reduceMul, Nat.reduceSub, one, Nat.reduceLeDiff, runX_cons, y34_49, aq, ↓ap, qe0, qe1, qe2, *, -hK]; try (refine hK _ _ ?_; clear hK K))
  | (refine wpX_lastL rfl ?_; intro K hK; simp -implicitDefEqProofs (disch := first | omega | (simp only [qd] <;> omega)) only [xq, ↓xp, qc, Nat.reduceAdd, List.range, List.range.loop, fine, Nat.reduceEqDiff, ↓reduceIte, yielded, reduceCtorEq, Nat.reduceLT, Nat.reduceMul, Nat.reduceSub, one, Nat.reduceLeDiff, runX_cons, y34_49, aq, ↓ap, qe0, qe1, qe2, *, -hK]; try (refine hK _ _ ?_; clear hK K; (try simp only [nq, ↓reduceIte, Nat.reduceEqDiff])))
  | (refine wpX_skip ?_; (try simp only [nq, ↓reduceIte, Nat.reduceEqDiff]))
  | (refine wpX_label ?_; (try simp only [nq, ↓reduceIte, Nat.reduceEqDiff]))
  | (refine wpX_exit ?_; (try simp only [nq, ↓reduceIte, Nat.reduceEqDiff]))
  | (refine wpX_goto ?_; (try simp only [nq, ↓reduceIte, Nat.reduceEqDiff]))
  | (refine wpX_condK (by simp only [act_eval, upd_get, Nat.reduceEqDiff, Nat.reduceLT, ↓reduceIte, *]; rfl) ?_ ?_ <;> (intro hc; first | (exfalso; simp -implicitDefEqProofs (disch := omega) only [*, bq, reduceCtorEq] at hc; done) | (simp only [dq, qe3, qe4, qe5, qe6] at hc) | skip))
  | (refine wpX_scope0 ?_)
  | (refine wpX_block ?_)
  | (refine wpX_seq ?_))
    have htk : List.take 8 (ints xs) = ints xs := List.take_of_length_le (by rw [ints_len, hP1.l8]; omega)
    have hall : xs.take ts.length ++ pathF ts.length pl (ts.drop ts.length) m ++ xs.drop ts.length = xs := by
      rw [List.drop_length]
      simp [pathF]
    rw [hall] at hA
    rw [htk]
    refine ⟨by rw [ints_len, hP1.l8]; omega, CallV.use (hC.call [] H1 _ xs hP1.cl rfl hA) ?_⟩
    rintro _ H2 ⟨t, rfl, hT, hk⟩
    cases t with
    | true => exact absurd hT (hstop xs H2)
    | false =>
      have hP2 : Picks base S T (.func yf yi yc) pl pieces sv cv (.slice ta ts.length tc) ts thisb db mb yb ab gb false [xs] xs H2 := by
        refine { hP1 with cl := hT, th := hk _ _ hP1.nth hP1.th, day := hk _ _ hP1.nd hP1.day, tr := hP1.tr.kept (fun hne b x hb hx => hk _ _ (hP1.nt hne b hb) hx), known := ?_, vy := hk _ _ hP1.ny hP1.vy, va := hk _ _ hP1.na hP1.va, vg := hk _ _ hP1.ng hP1.vg, fr := fun b x h0 h1 h2 hx => hk _ _ h0 (hP1.fr b x h0 h1 h2 hx) }
        obtain ⟨es, cl, h1, h2⟩ := hP1.known
        exact ⟨es, cl, hk _ _ hP1.nm h1, h2⟩
      clear hk hall htk vyb vab vth vdb vsb vsb0 hP1 hA
      (try simp -implicitDefEqProofs (disch := first | omega | (simp only [qd] <;> omega)) only [xq, ↓xp, qc, Nat.reduceAdd, List.range, List.range.loop, fine, Nat.reduceEqDiff, ↓reduceIte, yielded, reduceCtorEq, Nat.reduceLT, Nat.reduceMul, Nat.reduceSub, one, Nat.reduceLeDiff, runX_cons, y34_49, aq, ↓ap, qe0, qe1, qe2, *, -hK]); try (refine hK _ _ ?_; clear hK K; (try simp only [nq, ↓reduceIte, Nat.reduceEqDiff])); repeat' (first
  | (refine wpX_stmtL rfl ?_; intro K hK; simp -implicitDefEqProofs (disch := first | omega | (simp only [qd] <;> omega)) only [xq, ↓xp, qc, Nat.reduceAdd, List.range, List.range.loop, fine, Nat.reduceEqDiff, ↓reduceIte, yielded, reduceCtorEq, Nat.reduceLT, Nat.reduceMul, Nat.reduceSub, one, Nat.reduceLeDiff, runX_cons, y34_49, aq, ↓ap, qe0, qe1, qe2, *, -hK]; try (refine hK _ _ ?_; clear hK K))
  | (refine wpX_lastL rfl ?_; intro K hK; simp -implicitDefEqProofs (disch := first | omega | (simp only [qd] <;> omega)) only [xq, ↓xp, qc, Nat.reduceAdd, List.range, List.range.loop, fine, Nat.reduceEqDiff, ↓reduceIte, yielded, reduceCtorEq, Nat.reduceLT, Nat.reduceMul, Nat.reduceSub, one, Nat.reduceLeDiff, runX_cons, y34_49, aq, ↓ap, qe0, qe1, qe2, *, -hK]; try (refine hK _ _ ?_; clear hK K; (try simp only [nq, ↓reduceIte, Nat.reduceEqDiff])))
  | (refine wpX_skip ?_; (try simp only [nq, ↓reduceIte, Nat.reduceEqDiff]))
  | (refine wpX_label ?_; (try simp only [nq, ↓reduceIte, Nat.reduceEqDiff]))
  | (refine wpX_exit ?_; (try simp only [nq, ↓reduceIte, Nat.reduceEqDiff]))
  | (refine wpX_goto ?_; (try simp only [nq, ↓reduceIte, Nat.reduceEqDiff]))
  | (refine wpX_condK (by simp only [act_eval, upd_get, Nat.reduceEqDiff, Nat.reduceLT, ↓reduceIte, *]; rfl) ?_ ?_ <;> (intro hc; first | (exfalso; simp -implicitDefEqProofs (disch := omega) only [*, bq, reduceCtorEq] at hc; done) | (simp only [dq, qe3, qe4, qe5, qe6] at hc) | skip))
  | (refine wpX_scope0 ?_)
  | (refine wpX_block ?_)
  | (refine wpX_seq ?_))
      (refine wpX_ret ?_; (try simp only [nq, ↓reduceIte, Nat.reduceEqDiff]); rw [bodyX_ret, results_one Tryd.results34 (by decide)]; simp only [upd_get, Nat.reduceEqDiff, ↓reduceIte])
      exact ⟨by trivial, xs, by rw [List.drop_length]; simp [pathF], hP2⟩
  · have hlt : c < ts.length := by omega
    have hct : ts[c]? = some ts[c] := List.getElem?_eq_getElem hlt
    have hdrop : ts.drop c = ts[c] :: ts.drop (c + 1) := List.drop_eq_getElem_cons hlt
    generalize ts[c] = t at hct hdrop
    have ht6 := hts6 t (List.mem_of_getElem? hct)
    have hneeds := needs_spec main H1 db pl pieces sv cv _ ts mb hP1.day hP1.tr c m t hct ht6.1 ht6.2 hm
    repeat' (first
  | (refine wpX_stmtL rfl ?_; intro K hK; simp -implicitDefEqProofs (disch := first | omega | (simp only [qd] <;> omega)) only [xq, ↓xp, qc, Nat.reduceAdd, List.range, List.range.loop, fine, Nat.reduceEqDiff, ↓reduceIte, yielded, reduceCtorEq, Nat.reduceLT, Nat.reduceMul, Nat.reduceSub, one, Nat.reduceLeDiff, runX_cons, y34_49, aq, ↓ap, qe0, qe1, qe2, *, -hK]; try (refine hK _ _ ?_; clear hK K))
  | (refine wpX_lastL rfl ?_; intro K hK; simp -implicitDefEqProofs (disch := first | omega | (simp only [qd] <;> omega)) only [xq, ↓xp, qc, Nat.reduceAdd, List.range, List.range.loop, fine, Nat.reduceEqDiff, ↓reduceIte, yielded, reduceCtorEq, Nat.reduceLT, Nat.reduceMul, Nat.reduceSub, one, Nat.reduceLeDiff, runX_cons, y34_49, aq, ↓ap, qe0, qe1, qe2, *, -hK]; try (refine hK _ _ ?_; clear hK K; (try simp only [nq, ↓reduceIte, Nat.reduceEqDiff])))
  | (refine wpX_skip ?_; (try simp only [nq, ↓reduceIte, Nat.reduceEqDiff]))
  | (refine wpX_label ?_; (try simp only [nq, ↓reduceIte, Nat.reduceEqDiff]))
  | (refine wpX_exit ?_; (try simp only [nq, ↓reduceIte, Nat.reduceEqDiff]))
  | (refine wpX_goto ?_; (try simp only [nq, ↓reduceIte, Nat.reduceEqDiff]))
  | (refine wpX_condK (by simp only [act_eval, upd_get, Nat.reduceEqDiff, Nat.reduceLT, ↓reduceIte, *]; rfl) ?_ ?_ <;> (intro hc; first | (exfalso; simp -implicitDefEqProofs (disch := omega) only [*, bq, reduceCtorEq] at hc; done) | (simp only [dq, qe3, qe4, qe5, qe6] at hc) | skip)))
    refine hneeds.runs.mono ?_
    rintro _ H2 ⟨rfl, lH2⟩
    have hP2 := hP1.le hC lH2
    have vsb2 := lH2 _ _ vsb
    have vth2 := hP2.th
    have vdb2 := hP2.day
    simp only [dayO] at vdb2
    clear hneeds hP1 vth vdb vsb vsb0 lH2
    (try simp -implicitDefEqProofs (disch := first | omega | (simp only [qd] <;> omega)) only [xq, ↓xp, qc, Nat.reduceAdd, List.range, List.range.loop, fine, Nat.reduceEqDiff, ↓reduceIte, yielded, reduceCtorEq, Nat.reduceLT, Nat.reduceMul, Nat.reduceSub, one, Nat.reduceLeDiff, runX_cons, y34_49, aq, ↓ap, qe0, qe1, qe2, *, -hK]); try (refine hK _ _ ?_; clear hK K; (try simp only [nq, ↓reduceIte, Nat.reduceEqDiff])); repeat' (first
  | (refine wpX_stmtL rfl ?_; intro K hK; simp -implicitDefEqProofs (disch := first | omega | (simp only [qd] <;> omega)) only [xq, ↓xp, qc, Nat.reduceAdd, List.range, List.range.loop, fine, Nat.reduceEqDiff, ↓reduceIte, yielded, reduceCtorEq, Nat.reduceLT, Nat.reduceMul, Nat.reduceSub, one, Nat.reduceLeDiff, runX_cons, y34_49, aq, ↓ap, qe0, qe1, qe2, *, -hK]; try (refine hK _ _ ?_; clear hK K))
  | (refine wpX_lastL rfl ?_; intro K hK; simp -implicitDefEqProofs (disch := first | omega | (simp only [qd] <;> omega)) only [xq, ↓xp, qc, Nat.reduceAdd, List.range, List.range.loop, fine, Nat.reduceEqDiff, ↓reduceIte, yielded, reduceCtorEq, Nat.reduceLT, Nat.reduceMul, Nat.reduceSub, one, Nat.reduceLeDiff, runX_cons, y34_49, aq, ↓ap, qe0, qe1, qe2, *, -hK]; try (refine hK _ _ ?_; clear hK K; (try simp only [nq, ↓reduceIte, Nat.reduceEqDiff])))
  | (refine wpX_skip ?_; (try simp only [nq, ↓reduceIte, Nat.reduceEqDiff]))
  | (refine wpX_label ?_; (try simp only [nq, ↓reduceIte, Nat.reduceEqDiff]))
  | (refine wpX_exit ?_; (try simp only [nq, ↓reduceIte, Nat.reduceEqDiff]))
  | (refine wpX_goto ?_; (try simp only [nq, ↓reduceIte, Nat.reduceEqDiff]))
  | (refine wpX_condK (by simp only [act_eval, upd_get, Nat.reduceEqDiff, Nat.reduceLT, ↓reduceIte, *]; rfl) ?_ ?_ <;> (intro hc; first | (exfalso; simp -implicitDefEqProofs (disch := omega) only [*, bq, reduceCtorEq] at hc; done) | (simp only [dq, qe3, qe4, qe5, qe6] at hc) | skip)))
    (intro lb hlb; generalize hG : Hp.set _ lb _ = H3; have lH3 := le_of_set hG hlb; have vlb := at_of_set hG; clear hG)
    have hP3 := hP2.le hC lH3
    have vsb3 := lH3 _ _ vsb2
    clear lH3 hP2 vsb2 vth2 vdb2 hlb
    (try simp -implicitDefEqProofs (disch := first | omega | (simp only [qd] <;> omega)) only [xq, ↓xp, qc, Nat.reduceAdd, List.range, List.range.loop, fine, Nat.reduceEqDiff, ↓reduceIte, yielded, reduceCtorEq, Nat.reduceLT, Nat.reduceMul, Nat.reduceSub, one, Nat.reduceLeDiff, runX_cons, y34_49, aq, ↓ap, qe0, qe1, qe2, *, -hK]); try (refine hK _ _ ?_; clear hK K; (try simp only [nq, ↓reduceIte, Nat.reduceEqDiff])); repeat' (first
  | (refine wpX_stmtL rfl ?_; intro K hK; simp -implicitDefEqProofs (disch := first | omega | (simp only [qd] <;> omega)) only [xq, ↓xp, qc, Nat.reduceAdd, List.range, List.range.loop, fine, Nat.reduceEqDiff, ↓reduceIte, yielded, reduceCtorEq, Nat.reduceLT, Nat.reduceMul, Nat.reduceSub, one, Nat.reduceLeDiff, runX_cons, y34_49, aq, ↓ap, qe0, qe1, qe2, *, -hK]; try (refine hK _ _ ?_; clear hK K))
  | (refine wpX_lastL rfl ?_; intro K hK; simp -implicitDefEqProofs (disch := first | omega | (simp only [qd] <;> omega)) only [xq, ↓xp, qc, Nat.reduceAdd, List.range, List.range.loop, fine, Nat.reduceEqDiff, ↓reduceIte, yielded, reduceCtorEq, Nat.reduceLT, Nat.reduceMul, Nat.reduceSub, one, Nat.reduceLeDiff, runX_cons, y34_49, aq, ↓ap, qe0, qe1, qe2, *, -hK]; try (refine hK _ _ ?_; clear hK K; (try simp only [nq, ↓reduceIte, Nat.reduceEqDiff])))
  | (refine wpX_skip ?_; (try simp only [nq, ↓reduceIte, Nat.reduceEqDiff]))
  | (refine wpX_label ?_; (try simp only [nq, ↓reduceIte, Nat.reduceEqDiff]))
  | (refine wpX_exit ?_; (try simp only [nq, ↓reduceIte, Nat.reduceEqDiff]))
  | (refine wpX_goto ?_; (try simp only [nq, ↓reduceIte, Nat.reduceEqDiff]))
  | (refine wpX_condK (by simp only [act_eval, upd_get, Nat.reduceEqDiff, Nat.reduceLT, ↓reduceIte, *]; rfl) ?_ ?_ <;> (intro hc; first | (exfalso; simp -implicitDefEqProofs (disch := omega) only [*, bq, reduceCtorEq] at hc; done) | (simp only [dq, qe3, qe4, qe5, qe6] at hc) | skip)))
    refine wpX_cut (fun a' H' => ∃ e, a' = act 65 e [] ∧ e 1 = .pointer (some ⟨thisb, 0, none⟩) ∧ e 2 = .pointer (some ⟨yb, 0, none⟩) ∧ e 3 = .pointer (some ⟨ab, 0, none⟩) ∧ e 4 = .pointer (some ⟨gb, 0, none⟩) ∧ e 5 = .pointer (some ⟨sb, 0, none⟩) ∧ e 8 = .bool (!m.testBit t.toNat && decide (pl ≤ oCount m)) ∧ e 9 = .slice (some ⟨lb, 0, none⟩) 1 1 ∧ e 10 = .int .i64 (costF m t : Nat) ∧ H' = H3) ?_ ?_
    · cases htb : m.testBit t.toNat
      · have hcost : costF m t = 1 := by simp [costF, htb]
        rw [hcost]
        repeat' (first
  | (refine wpX_stmtL rfl ?_; intro K hK; simp -implicitDefEqProofs (disch := first | omega | (simp only [qd] <;> omega)) only [xq, ↓xp, qc, Nat.reduceAdd, List.range, List.range.loop, fine, Nat.reduceEqDiff, ↓reduceIte, yielded, reduceCtorEq, Nat.reduceLT, Nat.reduceMul, Nat.reduceSub, one, Nat.reduceLeDiff, runX_cons, y34_49, aq, ↓ap, qe0, qe1, qe2, *, -hK]; try (refine hK _ _ ?_; clear hK K))
  | (refine wpX_lastL rfl ?_; intro K hK; simp -implicitDefEqProofs (disch := first | omega | (simp only [qd] <;> omega)) only [xq, ↓xp, qc, Nat.reduceAdd, List.range, List.range.loop, fine, Nat.reduceEqDiff, ↓reduceIte, yielded, reduceCtorEq, Nat.reduceLT, Nat.reduceMul, Nat.reduceSub, one, Nat.reduceLeDiff, runX_cons, y34_49, aq, ↓ap, qe0, qe1, qe2, *, -hK]; try (refine hK _ _ ?_; clear hK K; (try simp only [nq, ↓reduceIte, Nat.reduceEqDiff])))
  | (refine wpX_skip ?_; (try simp only [nq, ↓reduceIte, Nat.reduceEqDiff]))
  | (refine wpX_label ?_; (try simp only [nq, ↓reduceIte, Nat.reduceEqDiff]))
  | (refine wpX_exit ?_; (try simp only [nq, ↓reduceIte, Nat.reduceEqDiff]))
  | (refine wpX_goto ?_; (try simp only [nq, ↓reduceIte, Nat.reduceEqDiff]))
  | (refine wpX_condK (by simp only [act_eval, upd_get, Nat.reduceEqDiff, Nat.reduceLT, ↓reduceIte, *]; rfl) ?_ ?_ <;> (intro hc; first | (exfalso; simp -implicitDefEqProofs (disch := omega) only [*, bq, reduceCtorEq] at hc; done) | (simp only [dq, qe3, qe4, qe5, qe6] at hc) | skip))
  | (refine wpX_scope0 ?_)
  | (refine wpX_block ?_)
  | (refine wpX_seq ?_))
        all_goals exact ⟨_, rfl, rfl, rfl, rfl, rfl, rfl, rfl, rfl, rfl, by trivial⟩
      · have hcost : costF m t = 0 := by simp [costF, htb]
        rw [hcost]
        repeat' (first
  | (refine wpX_stmtL rfl ?_; intro K hK; simp -implicitDefEqProofs (disch := first | omega | (simp only [qd] <;> omega)) only [xq, ↓xp, qc, Nat.reduceAdd, List.range, List.range.loop, fine, Nat.reduceEqDiff, ↓reduceIte, yielded, reduceCtorEq, Nat.reduceLT, Nat.reduceMul, Nat.reduceSub, one, Nat.reduceLeDiff, runX_cons, y34_49, aq, ↓ap, qe0, qe1, qe2, *, -hK]; try (refine hK _ _ ?_; clear hK K))
  | (refine wpX_lastL rfl ?_; intro K hK; simp -implicitDefEqProofs (disch := first | omega | (simp only [qd] <;> omega)) only [xq, ↓xp, qc, Nat.reduceAdd, List.range, List.range.loop, fine, Nat.reduceEqDiff, ↓reduceIte, yielded, reduceCtorEq, Nat.reduceLT, Nat.reduceMul, Nat.reduceSub, one, Nat.reduceLeDiff, runX_cons, y34_49, aq, ↓ap, qe0, qe1, qe2, *, -hK]; try (refine hK _ _ ?_; clear hK K; (try simp only [nq, ↓reduceIte, Nat.reduceEqDiff])))
  | (refine wpX_skip ?_; (try simp only [nq, ↓reduceIte, Nat.reduceEqDiff]))
  | (refine wpX_label ?_; (try simp only [nq, ↓reduceIte, Nat.reduceEqDiff]))
  | (refine wpX_exit ?_; (try simp only [nq, ↓reduceIte, Nat.reduceEqDiff]))
  | (refine wpX_goto ?_; (try simp only [nq, ↓reduceIte, Nat.reduceEqDiff]))
  | (refine wpX_condK (by simp only [act_eval, upd_get, Nat.reduceEqDiff, Nat.reduceLT, ↓reduceIte, *]; rfl) ?_ ?_ <;> (intro hc; first | (exfalso; simp -implicitDefEqProofs (disch := omega) only [*, bq, reduceCtorEq] at hc; done) | (simp only [dq, qe3, qe4, qe5, qe6] at hc) | skip))
  | (refine wpX_scope0 ?_)
  | (refine wpX_block ?_)
  | (refine wpX_seq ?_))
        all_goals exact ⟨_, rfl, rfl, rfl, rfl, rfl, rfl, rfl, rfl, rfl, by trivial⟩
    · rintro a' H' ⟨e, rfl, e1, e2, e3, e4, e5, e8, e9, e10, rfl⟩
      have vlb3 := vlb
      have hl1 : SlI H' (.slice (some ⟨lb, 0, none⟩) 1 1) [-1] := ⟨some ⟨lb, 0, none⟩, 1, rfl, by simp, fun i x hi => ⟨lb, 0, true, _, (0, 0), rfl, vlb3, by
        cases i with
        | zero => simp at hi; subst hi; rfl
        | succ i => simp at hi⟩⟩
      clear vlb vlb3
      refine wpX_cut (fun a' H'' => ∃ e lv, a' = act 65 e [] ∧ e 1 = .pointer (some ⟨thisb, 0, none⟩) ∧ e 2 = .pointer (some ⟨yb, 0, none⟩) ∧ e 3 = .pointer (some ⟨ab, 0, none⟩) ∧ e 4 = .pointer (some ⟨gb, 0, none⟩) ∧ e 5 = .pointer (some ⟨sb, 0, none⟩) ∧ e 9 = lv ∧ SlI H'' lv (optsF pl m t) ∧ e 10 = .int .i64 (costF m t : Nat) ∧ H'.le H'') ?_ ?_
      · cases hcan : (!m.testBit t.toNat && decide (pl ≤ oCount m))
        · have hopt : optsF pl m t = [-1] := by
            unfold optsF
            split
            · rfl
            · rw [if_neg]
              rename_i h
              simpa [h] using hcan
          rw [hopt]
          rw [hcan] at e8
          clear hcan
          repeat' (first
  | (refine wpX_stmtL rfl ?_; intro K hK; simp -implicitDefEqProofs (disch := first | omega | (simp only [qd] <;> omega)) only [xq, ↓xp, qc, Nat.reduceAdd, List.range, List.range.loop, fine, Nat.reduceEqDiff, ↓reduceIte, yielded, reduceCtorEq, Nat.reduceLT, Nat.reduceMul, Nat.reduceSub, one, Nat.reduceLeDiff, runX_cons, y34_49, aq, ↓ap, qe0, qe1, qe2, *, -hK]; try (refine hK _ _ ?_; clear hK K))
  | (refine wpX_lastL rfl ?_; intro K hK; simp -implicitDefEqProofs (disch := first | omega | (simp only [qd] <;> omega)) only [xq, ↓xp, qc, Nat.reduceAdd, List.range, List.range.loop, fine, Nat.reduceEqDiff, ↓reduceIte, yielded, reduceCtorEq, Nat.reduceLT, Nat.reduceMul, Nat.reduceSub, one, Nat.reduceLeDiff, runX_cons, y34_49, aq, ↓ap, qe0, qe1, qe2, *, -hK]; try (refine hK _ _ ?_; clear hK K; (try simp only [nq, ↓reduceIte, Nat.reduceEqDiff])))
  | (refine wpX_skip ?_; (try simp only [nq, ↓reduceIte, Nat.reduceEqDiff]))
  | (refine wpX_label ?_; (try simp only [nq, ↓reduceIte, Nat.reduceEqDiff]))
  | (refine wpX_exit ?_; (try simp only [nq, ↓reduceIte, Nat.reduceEqDiff]))
  | (refine wpX_goto ?_; (try simp only [nq, ↓reduceIte, Nat.reduceEqDiff]))
  | (refine wpX_condK (by simp only [act_eval, upd_get, Nat.reduceEqDiff, Nat.reduceLT, ↓reduceIte, *]; rfl) ?_ ?_ <;> (intro hc; first | (exfalso; simp -implicitDefEqProofs (disch := omega) only [*, bq, reduceCtorEq] at hc; done) | (simp only [dq, qe3, qe4, qe5, qe6] at hc) | skip))
  | (refine wpX_scope0 ?_)
  | (refine wpX_block ?_)
  | (refine wpX_seq ?_))
          all_goals exact ⟨_, _, rfl, e1, e2, e3, e4, e5, e9, hl1, e10, Hp.le_refl _⟩
        · have hopt : optsF pl m t = oList m := by
            simp only [Bool.and_eq_true, Bool.not_eq_true', decide_eq_true_eq] at hcan
            unfold optsF
            rw [if_neg (by rw [hcan.1]; simp), if_pos hcan.2]
          rw [hopt]
          rw [hcan] at e8
          clear hcan hl1
          repeat' (first
  | (refine wpX_stmtL rfl ?_; intro K hK; simp -implicitDefEqProofs (disch := first | omega | (simp only [qd] <;> omega)) only [xq, ↓xp, qc, Nat.reduceAdd, List.range, List.range.loop, fine, Nat.reduceEqDiff, ↓reduceIte, yielded, reduceCtorEq, Nat.reduceLT, Nat.reduceMul, Nat.reduceSub, one, Nat.reduceLeDiff, runX_cons, y34_49, aq, ↓ap, qe0, qe1, qe2, *, -hK]; try (refine hK _ _ ?_; clear hK K))
  | (refine wpX_lastL rfl ?_; intro K hK; simp -implicitDefEqProofs (disch := first | omega | (simp only [qd] <;> omega)) only [xq, ↓xp, qc, Nat.reduceAdd, List.range, List.range.loop, fine, Nat.reduceEqDiff, ↓reduceIte, yielded, reduceCtorEq, Nat.reduceLT, Nat.reduceMul, Nat.reduceSub, one, Nat.reduceLeDiff, runX_cons, y34_49, aq, ↓ap, qe0, qe1, qe2, *, -hK]; try (refine hK _ _ ?_; clear hK K; (try simp only [nq, ↓reduceIte, Nat.reduceEqDiff])))
  | (refine wpX_skip ?_; (try simp only [nq, ↓reduceIte, Nat.reduceEqDiff]))
  | (refine wpX_label ?_; (try simp only [nq, ↓reduceIte, Nat.reduceEqDiff]))
  | (refine wpX_exit ?_; (try simp only [nq, ↓reduceIte, Nat.reduceEqDiff]))
  | (refine wpX_goto ?_; (try simp only [nq, ↓reduceIte, Nat.reduceEqDiff]))
  | (refine wpX_condK (by simp only [act_eval, upd_get, Nat.reduceEqDiff, Nat.reduceLT, ↓reduceIte, *]; rfl) ?_ ?_ <;> (intro hc; first | (exfalso; simp -implicitDefEqProofs (disch := omega) only [*, bq, reduceCtorEq] at hc; done) | (simp only [dq, qe3, qe4, qe5, qe6] at hc) | skip))
  | (refine wpX_scope0 ?_)
  | (refine wpX_block ?_)
  | (refine wpX_seq ?_))
          refine (list_spec main H' m hm).runs.mono ?_
          rintro _ H4 ⟨lv, rfl, hlv, lH4⟩
          (try simp -implicitDefEqProofs (disch := first | omega | (simp only [qd] <;> omega)) only [xq, ↓xp, qc, Nat.reduceAdd, List.range, List.range.loop, fine, Nat.reduceEqDiff, ↓reduceIte, yielded, reduceCtorEq, Nat.reduceLT, Nat.reduceMul, Nat.reduceSub, one, Nat.reduceLeDiff, runX_cons, y34_49, aq, ↓ap, qe0, qe1, qe2, *, -hK]); try (refine hK _ _ ?_; clear hK K; (try simp only [nq, ↓reduceIte, Nat.reduceEqDiff])); repeat' (first
  | (refine wpX_stmtL rfl ?_; intro K hK; simp -implicitDefEqProofs (disch := first | omega | (simp only [qd] <;> omega)) only [xq, ↓xp, qc, Nat.reduceAdd, List.range, List.range.loop, fine, Nat.reduceEqDiff, ↓reduceIte, yielded, reduceCtorEq, Nat.reduceLT, Nat.reduceMul, Nat.reduceSub, one, Nat.reduceLeDiff, runX_cons, y34_49, aq, ↓ap, qe0, qe1, qe2, *, -hK]; try (refine hK _ _ ?_; clear hK K))
  | (refine wpX_lastL rfl ?_; intro K hK; simp -implicitDefEqProofs (disch := first | omega | (simp only [qd] <;> omega)) only [xq, ↓xp, qc, Nat.reduceAdd, List.range, List.range.loop, fine, Nat.reduceEqDiff, ↓reduceIte, yielded, reduceCtorEq, Nat.reduceLT, Nat.reduceMul, Nat.reduceSub, one, Nat.reduceLeDiff, runX_cons, y34_49, aq, ↓ap, qe0, qe1, qe2, *, -hK]; try (refine hK _ _ ?_; clear hK K; (try simp only [nq, ↓reduceIte, Nat.reduceEqDiff])))
  | (refine wpX_skip ?_; (try simp only [nq, ↓reduceIte, Nat.reduceEqDiff]))
  | (refine wpX_label ?_; (try simp only [nq, ↓reduceIte, Nat.reduceEqDiff]))
  | (refine wpX_exit ?_; (try simp only [nq, ↓reduceIte, Nat.reduceEqDiff]))
  | (refine wpX_goto ?_; (try simp only [nq, ↓reduceIte, Nat.reduceEqDiff]))
  | (refine wpX_condK (by simp only [act_eval, upd_get, Nat.reduceEqDiff, Nat.reduceLT, ↓reduceIte, *]; rfl) ?_ ?_ <;> (intro hc; first | (exfalso; simp -implicitDefEqProofs (disch := omega) only [*, bq, reduceCtorEq] at hc; done) | (simp only [dq, qe3, qe4, qe5, qe6] at hc) | skip))
  | (refine wpX_scope0 ?_)
  | (refine wpX_block ?_)
  | (refine wpX_seq ?_))
          all_goals exact ⟨_, lv, rfl, e1, e2, e3, e4, e5, rfl, hlv, e10, lH4⟩
      · rintro a' H4 ⟨e, lv, rfl, e1, e2, e3, e4, e5, e9, hlv, e10, lH4⟩
        have hP4 := hP3.le hC lH4
        have vsb4 := lH4 _ _ vsb3
        clear hP3 vsb3 lH4 hl1
        have hos6 : ∀ x ∈ optsF pl m t, -1 ≤ x ∧ x < 6 := fun x hx => by
          unfold optsF at hx
          split at hx
          · rw [List.mem_singleton.1 hx]; omega
          · split at hx
            · have := oList_mem hx; omega
            · rw [List.mem_singleton.1 hx]; omega
        have hol : (optsF pl m t).length ≤ 1000 := by
          unfold optsF
          split
          · simp
          · split
            · rw [oList_len]; have := oCount_le m hm; omega
            · simp
        have hbest := optF_at ts.length pl h1 t (ts.drop (c + 1)) m (by rw [← hdrop, List.length_drop]; omega)
        have hpath : pathF ts.length pl (ts.drop c) m = (((optsF pl m t).find? fun s => costF m t + optF ts.length pl (ts.drop (c + 1)) (oNext m s t) ≤ optF ts.length pl (t :: ts.drop (c + 1)) m).getD (-1)) :: pathF ts.length pl (ts.drop (c + 1)) (oNext m (((optsF pl m t).find? fun s => costF m t + optF ts.length pl (ts.drop (c + 1)) (oNext m s t) ≤ optF ts.length pl (t :: ts.drop (c + 1)) m).getD (-1)) t) := by
          rw [hdrop]; rfl
        have hcost : costF m t ≤ 1 := by unfold costF; split <;> omega
        obtain ⟨lva, lvc, rfl, _, _⟩ := id hlv
        generalize optsF pl m t = os at *
        generalize costF m t = k at *
        repeat' (first
  | (refine wpX_stmtL rfl ?_; intro K hK; simp -implicitDefEqProofs (disch := first | omega | (simp only [qd] <;> omega)) only [xq, ↓xp, qc, Nat.reduceAdd, List.range, List.range.loop, fine, Nat.reduceEqDiff, ↓reduceIte, yielded, reduceCtorEq, Nat.reduceLT, Nat.reduceMul, Nat.reduceSub, one, Nat.reduceLeDiff, runX_cons, y34_49, aq, ↓ap, qe0, qe1, qe2, *, -hK]; try (refine hK _ _ ?_; clear hK K))
  | (refine wpX_lastL rfl ?_; intro K hK; simp -implicitDefEqProofs (disch := first | omega | (simp only [qd] <;> omega)) only [xq, ↓xp, qc, Nat.reduceAdd, List.range, List.range.loop, fine, Nat.reduceEqDiff, ↓reduceIte, yielded, reduceCtorEq, Nat.reduceLT, Nat.reduceMul, Nat.reduceSub, one, Nat.reduceLeDiff, runX_cons, y34_49, aq, ↓ap, qe0, qe1, qe2, *, -hK]; try (refine hK _ _ ?_; clear hK K; (try simp only [nq, ↓reduceIte, Nat.reduceEqDiff])))
  | (refine wpX_skip ?_; (try simp only [nq, ↓reduceIte, Nat.reduceEqDiff]))
  | (refine wpX_label ?_; (try simp only [nq, ↓reduceIte, Nat.reduceEqDiff]))
  | (refine wpX_exit ?_; (try simp only [nq, ↓reduceIte, Nat.reduceEqDiff]))
  | (refine wpX_goto ?_; (try simp only [nq, ↓reduceIte, Nat.reduceEqDiff]))
  | (refine wpX_condK (by simp only [act_eval, upd_get, Nat.reduceEqDiff, Nat.reduceLT, ↓reduceIte, *]; rfl) ?_ ?_ <;> (intro hc; first | (exfalso; simp -implicitDefEqProofs (disch := omega) only [*, bq, reduceCtorEq] at hc; done) | (simp only [dq, qe3, qe4, qe5, qe6] at hc) | skip))
  | (refine wpX_scope0 ?_)
  | (refine wpX_block ?_)
  | (refine wpX_seq ?_))
        refine wpX_loop (fun w a' H' => ∃ e i, w = os.length - i ∧ i ≤ os.length ∧ a' = act 65 e [] ∧ e 1 = .pointer (some ⟨thisb, 0, none⟩) ∧ e 2 = .pointer (some ⟨yb, 0, none⟩) ∧ e 3 = .pointer (some ⟨ab, 0, none⟩) ∧ e 4 = .pointer (some ⟨gb, 0, none⟩) ∧ e 5 = .pointer (some ⟨sb, 0, none⟩) ∧ e 10 = .int .i64 k ∧ e 37 = .slice lva os.length lvc ∧ e 38 = .int .i64 os.length ∧ e 39 = .int .i64 (i : Nat) ∧ SlI H' (.slice lva os.length lvc) os ∧ H' sb = some (true, .cells #[.int .i64 c, .int .u8 m] 62 (0, 0)) ∧ Picks base S T (.func yf yi yc) pl pieces sv cv (.slice ta ts.length tc) ts thisb db mb yb ab gb true [] xs H' ∧
          ∀ j s, j < i → os[j]? = some s → ¬ (k + optF ts.length pl (ts.drop (c + 1)) (oNext m s t) ≤ optF ts.length pl (t :: ts.drop (c + 1)) m)) (n := os.length) ?_ ?_
        · exact ⟨_, 0, by omega, by omega, rfl, e1, e2, e3, e4, e5, e10, rfl, rfl, rfl, hlv, vsb4, hP4, fun j s h => by omega⟩
        · clear e1 e2 e3 e4 e5 e9 e10 hlv vsb4 hP4
          rintro w a' H5 ⟨e, i, rfl, hi, rfl, e1, e2, e3, e4, e5, e10, e37, e38, e39, hlv, vsb5, hP5, hno⟩
          by_cases hlt2 : i < os.length
          · obtain ⟨b6, o6, p6, c6, fr6, hlva, hb6, hc6⟩ := SlI.get hlv (List.getElem?_eq_getElem hlt2)
            have hsi := List.getElem?_eq_getElem hlt2
            have hs6 := hos6 os[i] (List.getElem_mem hlt2)
            generalize os[i] = s at *
            subst hlva
            have vth5 := hP5.th
            have hc6' : c6[o6 + (i : Int).toNat * 1]? = some (.int .i64 s) := by simpa using hc6
            have hnext := vnext_spec main H5 db pl pieces sv cv _ ts mb hP5.day hP5.tr (by omega) c m s t hct ht6.1 ht6.2 hm hs6.2
            simp only [spotV] at hnext
            repeat' (first
  | (refine wpX_stmtL rfl ?_; intro K hK; simp -implicitDefEqProofs (disch := first | omega | (simp only [qd] <;> omega)) only [xq, ↓xp, qc, Nat.reduceAdd, List.range, List.range.loop, fine, Nat.reduceEqDiff, ↓reduceIte, yielded, reduceCtorEq, Nat.reduceLT, Nat.reduceMul, Nat.reduceSub, one, Nat.reduceLeDiff, runX_cons, y34_49, aq, ↓ap, qe0, qe1, qe2, *, -hK]; try (refine hK _ _ ?_; clear hK K))
  | (refine wpX_lastL rfl ?_; intro K hK; simp -implicitDefEqProofs (disch := first | omega | (simp only [qd] <;> omega)) only [xq, ↓xp, qc, Nat.reduceAdd, List.range, List.range.loop, fine, Nat.reduceEqDiff, ↓reduceIte, yielded, reduceCtorEq, Nat.reduceLT, Nat.reduceMul, Nat.reduceSub, one, Nat.reduceLeDiff, runX_cons, y34_49, aq, ↓ap, qe0, qe1, qe2, *, -hK]; try (refine hK _ _ ?_; clear hK K; (try simp only [nq, ↓reduceIte, Nat.reduceEqDiff])))
  | (refine wpX_skip ?_; (try simp only [nq, ↓reduceIte, Nat.reduceEqDiff]))
  | (refine wpX_label ?_; (try simp only [nq, ↓reduceIte, Nat.reduceEqDiff]))
  | (refine wpX_exit ?_; (try simp only [nq, ↓reduceIte, Nat.reduceEqDiff]))
  | (refine wpX_goto ?_; (try simp only [nq, ↓reduceIte, Nat.reduceEqDiff]))
  | (refine wpX_condK (by simp only [act_eval, upd_get, Nat.reduceEqDiff, Nat.reduceLT, ↓reduceIte, *]; rfl) ?_ ?_ <;> (intro hc; first | (exfalso; simp -implicitDefEqProofs (disch := omega) only [*, bq, reduceCtorEq] at hc; done) | (simp only [dq, qe3, qe4, qe5, qe6] at hc) | skip))
  | (refine wpX_scope0 ?_)
  | (refine wpX_block ?_)
  | (refine wpX_seq ?_))
            refine hnext.runs.mono ?_
            rintro _ H6 ⟨rfl, lH6⟩
            have hP6 := hP5.le hC lH6
            have vsb6 := lH6 _ _ vsb5
            have hlv6 := hlv.le lH6
            have hm' := oNext_lt (sent := s) hm hs6.2 ht6.1 ht6.2
            clear hnext hP5 vsb5 hlv vth5 hb6 hc6 hc6' lH6
            (try simp -implicitDefEqProofs (disch := first | omega | (simp only [qd] <;> omega)) only [xq, ↓xp, qc, Nat.reduceAdd, List.range, List.range.loop, fine, Nat.reduceEqDiff, ↓reduceIte, yielded, reduceCtorEq, Nat.reduceLT, Nat.reduceMul, Nat.reduceSub, one, Nat.reduceLeDiff, runX_cons, y34_49, aq, ↓ap, qe0, qe1, qe2, *, -hK]); try (refine hK _ _ ?_; clear hK K; (try simp only [nq, ↓reduceIte, Nat.reduceEqDiff])); repeat' (first
  | (refine wpX_stmtL rfl ?_; intro K hK; simp -implicitDefEqProofs (disch := first | omega | (simp only [qd] <;> omega)) only [xq, ↓xp, qc, Nat.reduceAdd, List.range, List.range.loop, fine, Nat.reduceEqDiff, ↓reduceIte, yielded, reduceCtorEq, Nat.reduceLT, Nat.reduceMul, Nat.reduceSub, one, Nat.reduceLeDiff, runX_cons, y34_49, aq, ↓ap, qe0, qe1, qe2, *, -hK]; try (refine hK _ _ ?_; clear hK K))
  | (refine wpX_lastL rfl ?_; intro K hK; simp -implicitDefEqProofs (disch := first | omega | (simp only [qd] <;> omega)) only [xq, ↓xp, qc, Nat.reduceAdd, List.range, List.range.loop, fine, Nat.reduceEqDiff, ↓reduceIte, yielded, reduceCtorEq, Nat.reduceLT, Nat.reduceMul, Nat.reduceSub, one, Nat.reduceLeDiff, runX_cons, y34_49, aq, ↓ap, qe0, qe1, qe2, *, -hK]; try (refine hK _ _ ?_; clear hK K; (try simp only [nq, ↓reduceIte, Nat.reduceEqDiff])))
  | (refine wpX_skip ?_; (try simp only [nq, ↓reduceIte, Nat.reduceEqDiff]))
  | (refine wpX_label ?_; (try simp only [nq, ↓reduceIte, Nat.reduceEqDiff]))
  | (refine wpX_exit ?_; (try simp only [nq, ↓reduceIte, Nat.reduceEqDiff]))
  | (refine wpX_goto ?_; (try simp only [nq, ↓reduceIte, Nat.reduceEqDiff]))
  | (refine wpX_condK (by simp only [act_eval, upd_get, Nat.reduceEqDiff, Nat.reduceLT, ↓reduceIte, *]; rfl) ?_ ?_ <;> (intro hc; first | (exfalso; simp -implicitDefEqProofs (disch := omega) only [*, bq, reduceCtorEq] at hc; done) | (simp only [dq, qe3, qe4, qe5, qe6] at hc) | skip))
  | (refine wpX_scope0 ?_)
  | (refine wpX_block ?_)
  | (refine wpX_seq ?_))
            (intro nb hnb; generalize hG : Hp.set _ nb _ = H7; have lH7 := le_of_set hG hnb; have vnb := at_of_set hG; clear hG)
            have hP7 := hP6.le hC lH7
            have vsb7 := lH7 _ _ vsb6
            have hlv7 := hlv6.le lH7
            have nnm : nb ≠ mb := fun e => by obtain ⟨es, cl, h1, h2⟩ := hP6.known; rw [e, h1] at hnb; cases hnb
            clear hP6 vsb6 hlv6 lH7 hnb
            (try simp -implicitDefEqProofs (disch := first | omega | (simp only [qd] <;> omega)) only [xq, ↓xp, qc, Nat.reduceAdd, List.range, List.range.loop, fine, Nat.reduceEqDiff, ↓reduceIte, yielded, reduceCtorEq, Nat.reduceLT, Nat.reduceMul, Nat.reduceSub, one, Nat.reduceLeDiff, runX_cons, y34_49, aq, ↓ap, qe0, qe1, qe2, *, -hK]); try (refine hK _ _ ?_; clear hK K; (try simp only [nq, ↓reduceIte, Nat.reduceEqDiff])); repeat' (first
  | (refine wpX_stmtL rfl ?_; intro K hK; simp -implicitDefEqProofs (disch := first | omega | (simp only [qd] <;> omega)) only [xq, ↓xp, qc, Nat.reduceAdd, List.range, List.range.loop, fine, Nat.reduceEqDiff, ↓reduceIte, yielded, reduceCtorEq, Nat.reduceLT, Nat.reduceMul, Nat.reduceSub, one, Nat.reduceLeDiff, runX_cons, y34_49, aq, ↓ap, qe0, qe1, qe2, *, -hK]; try (refine hK _ _ ?_; clear hK K))
  | (refine wpX_lastL rfl ?_; intro K hK; simp -implicitDefEqProofs (disch := first | omega | (simp only [qd] <;> omega)) only [xq, ↓xp, qc, Nat.reduceAdd, List.range, List.range.loop, fine, Nat.reduceEqDiff, ↓reduceIte, yielded, reduceCtorEq, Nat.reduceLT, Nat.reduceMul, Nat.reduceSub, one, Nat.reduceLeDiff, runX_cons, y34_49, aq, ↓ap, qe0, qe1, qe2, *, -hK]; try (refine hK _ _ ?_; clear hK K; (try simp only [nq, ↓reduceIte, Nat.reduceEqDiff])))
  | (refine wpX_skip ?_; (try simp only [nq, ↓reduceIte, Nat.reduceEqDiff]))
  | (refine wpX_label ?_; (try simp only [nq, ↓reduceIte, Nat.reduceEqDiff]))
  | (refine wpX_exit ?_; (try simp only [nq, ↓reduceIte, Nat.reduceEqDiff]))
  | (refine wpX_goto ?_; (try simp only [nq, ↓reduceIte, Nat.reduceEqDiff]))
  | (refine wpX_condK (by simp only [act_eval, upd_get, Nat.reduceEqDiff, Nat.reduceLT, ↓reduceIte, *]; rfl) ?_ ?_ <;> (intro hc; first | (exfalso; simp -implicitDefEqProofs (disch := omega) only [*, bq, reduceCtorEq] at hc; done) | (simp only [dq, qe3, qe4, qe5, qe6] at hc) | skip)))
            have vth7 := hP7.th
            repeat refine wpX_seq ?_
            refine wpX_dlast (fun HX => HX thisb = some (true, .cells #[.pointer (some ⟨db, 0, none⟩)] 51 (0, 0)) ∧ HX nb = some (true, .cells #[.int .i64 (c + 1 : Nat), .int .u8 (oNext m s t : Nat)] 62 (0, 0)) ∧ HX sb = some (true, .cells #[.int .i64 c, .int .u8 m] 62 (0, 0))) 9 [(true, 0), (true, 1), (true, 2), (true, 5), (true, 6), (false, 3), (true, 4), (false, 7), (true, 8)] (by kernel_rfl) (by kernel_rfl) (by simp) (by kernel_rfl) ?_; intro K hK
            (iterate 5 (apply plan_takeS rfl rfl rfl (by exact ⟨vth7, vnb, vsb7⟩); (focus (intro HX hHX; have hX1 := hHX.1; have hX2 := hHX.2; clear hHX; simp -implicitDefEqProofs (disch := first | omega | (simp only [qd] <;> omega)) only [xq, ↓xp, qc, Nat.reduceAdd, List.range, List.range.loop, fine, Nat.reduceEqDiff, ↓reduceIte, yielded, reduceCtorEq, Nat.reduceLT, Nat.reduceMul, Nat.reduceSub, one, Nat.reduceLeDiff, runX_cons, y34_49, aq, ↓ap, qe0, qe1, qe2, *, -hK, YN_value] <;> (first | exact rfl | exact ⟨rfl, rfl⟩ | exact ⟨rfl, trivial⟩))); simp -implicitDefEqProofs (disch := first | omega | (simp only [qd] <;> omega)) only [act_put, act_put_none]))
            refine planX_act ?_
            simp -implicitDefEqProofs (disch := first | omega | (simp only [qd] <;> omega)) only [xq, ↓xp, qc, Nat.reduceAdd, List.range, List.range.loop, fine, Nat.reduceEqDiff, ↓reduceIte, yielded, reduceCtorEq, Nat.reduceLT, Nat.reduceMul, Nat.reduceSub, one, Nat.reduceLeDiff, runX_cons, y34_49, aq, ↓ap, qe0, qe1, qe2, *, -hK]
            have hl1 := least_spec main db pl pieces sv cv _ ts mb hdm (by omega) hts6 (ts.length - (c + 1)) (c + 1) (oNext m s t) H7 rfl (by omega) hm' hP7.day hP7.tr hP7.known
            simp only [spotV] at hl1
            refine hl1.runs.mono ?_
            rintro _ H8 ⟨rfl, hL8, hk8⟩
            have hP8 := hP7.lex hC hL8 hk8
            have vnb8 := hL8.keeps vnb nnm
            have vsb8 := hL8.keeps vsb7 nsm
            have vth8 := hP8.th
            have hlv8 := hlv7.lexMap hL8 (show H7 mb = some (true, _) from (Classical.choose_spec (Classical.choose_spec hP7.known)).1)
            clear hl1 hP7 vnb vsb7 vth7 hlv7 hL8 hk8
            simp -implicitDefEqProofs (disch := first | omega | (simp only [qd] <;> omega)) only [xq, ↓xp, qc, Nat.reduceAdd, List.range, List.range.loop, fine, Nat.reduceEqDiff, ↓reduceIte, yielded, reduceCtorEq, Nat.reduceLT, Nat.reduceMul, Nat.reduceSub, one, Nat.reduceLeDiff, runX_cons, y34_49, aq, ↓ap, qe0, qe1, qe2, *, -hK]
            refine ⟨.inr trivial, ?_⟩
            have w1 : IntKind.i64.wrap ((k : Int) + (optF ts.length pl (ts.drop (c + 1)) (oNext m s t) : Nat)) = (k : Int) + (optF ts.length pl (ts.drop (c + 1)) (oNext m s t) : Nat) := w64 _ (by omega) (by have := optF_le ts.length pl (ts.drop (c + 1)) (oNext m s t); have := List.length_drop (i := c + 1) (l := ts); omega)
            (iterate 1 (apply plan_takeS rfl rfl rfl (by exact ⟨vth8, vnb8, vsb8⟩); (focus (intro HX hHX; have hX1 := hHX.1; have hX2 := hHX.2; clear hHX; simp -implicitDefEqProofs (disch := first | omega | (simp only [qd] <;> omega)) only [xq, ↓xp, qc, Nat.reduceAdd, List.range, List.range.loop, fine, Nat.reduceEqDiff, ↓reduceIte, yielded, reduceCtorEq, Nat.reduceLT, Nat.reduceMul, Nat.reduceSub, one, Nat.reduceLeDiff, runX_cons, y34_49, aq, ↓ap, qe0, qe1, qe2, *, -hK, YN_value] <;> (first | exact rfl | exact ⟨rfl, rfl⟩ | exact ⟨rfl, trivial⟩))); simp -implicitDefEqProofs (disch := first | omega | (simp only [qd] <;> omega)) only [act_put, act_put_none]))
            refine planX_act ?_
            simp -implicitDefEqProofs (disch := first | omega | (simp only [qd] <;> omega)) only [xq, ↓xp, qc, Nat.reduceAdd, List.range, List.range.loop, fine, Nat.reduceEqDiff, ↓reduceIte, yielded, reduceCtorEq, Nat.reduceLT, Nat.reduceMul, Nat.reduceSub, one, Nat.reduceLeDiff, runX_cons, y34_49, aq, ↓ap, qe0, qe1, qe2, *, -hK]
            have hl2 := least_spec main db pl pieces sv cv _ ts mb hdm (by omega) hts6 (ts.length - c) c m H8 rfl (by omega) hm hP8.day hP8.tr hP8.known
            simp only [spotV] at hl2
            refine hl2.runs.mono ?_
            rintro _ H9 ⟨rfl, hL9, hk9⟩
            have hP9 := hP8.lex hC hL9 hk9
            have vnb9 := hL9.keeps vnb8 nnm
            have vsb9 := hL9.keeps vsb8 nsm
            have vth9 := hP9.th
            have hlv9 := hlv8.lexMap hL9 (show H8 mb = some (true, _) from (Classical.choose_spec (Classical.choose_spec hP8.known)).1)
            clear hl2 hP8 vnb8 vsb8 vth8 hlv8 hL9 hk9
            rw [hdrop]
            simp -implicitDefEqProofs (disch := first | omega | (simp only [qd] <;> omega)) only [xq, ↓xp, qc, Nat.reduceAdd, List.range, List.range.loop, fine, Nat.reduceEqDiff, ↓reduceIte, yielded, reduceCtorEq, Nat.reduceLT, Nat.reduceMul, Nat.reduceSub, one, Nat.reduceLeDiff, runX_cons, y34_49, aq, ↓ap, qe0, qe1, qe2, *, -hK]
            refine ⟨.inr trivial, ?_⟩
            (iterate 1 (apply plan_takeS rfl rfl rfl (by exact ⟨vth9, vnb9, vsb9⟩); (focus (intro HX hHX; have hX1 := hHX.1; have hX2 := hHX.2; clear hHX; simp -implicitDefEqProofs (disch := first | omega | (simp only [qd] <;> omega)) only [xq, ↓xp, qc, Nat.reduceAdd, List.range, List.range.loop, fine, Nat.reduceEqDiff, ↓reduceIte, yielded, reduceCtorEq, Nat.reduceLT, Nat.reduceMul, Nat.reduceSub, one, Nat.reduceLeDiff, runX_cons, y34_49, aq, ↓ap, qe0, qe1, qe2, *, -hK, YN_value] <;> (first | exact rfl | exact ⟨rfl, rfl⟩ | exact ⟨rfl, trivial⟩))); simp -implicitDefEqProofs (disch := first | omega | (simp only [qd] <;> omega)) only [act_put, act_put_none]))
            refine plan_nil (hK _ _ ?_)
            clear hK K w1
            (try simp only [nq, ↓reduceIte, Nat.reduceEqDiff])
            by_cases hbad : k + optF ts.length pl (ts.drop (c + 1)) (oNext m s t) ≤ optF ts.length pl (t :: ts.drop (c + 1)) m
            · -- the first that fetches no more
              have vab9 := hP9.va
              have vgb9 := hP9.vg
              have hxl := hP9.l8
              have hil : (ints xs).length = 8 := by rw [ints_len]; exact hxl
              have hc8 : c < (ints xs).length := by omega
              have nga : gb ≠ ab := fun e => by rw [e, vab9] at vgb9; simp at vgb9
              have nsa : sb ≠ ab := fun e => by rw [e, vab9] at vsb9; simp at vsb9
              have nna : nb ≠ ab := fun e => by rw [e, vab9] at vnb9; simp at vnb9
              have hset : (ints xs).set c (.int .i64 s) = ints (xs.set c s) := ints_setL _ _ _
              repeat' (first
  | (refine wpX_stmtL rfl ?_; intro K hK; simp -implicitDefEqProofs (disch := first | omega | (simp only [qd] <;> omega)) only [xq, ↓xp, qc, Nat.reduceAdd, List.range, List.range.loop, fine, Nat.reduceEqDiff, ↓reduceIte, yielded, reduceCtorEq, Nat.reduceLT, Nat.reduceMul, Nat.reduceSub, one, Nat.reduceLeDiff, runX_cons, y34_49, aq, ↓ap, qe0, qe1, qe2, *, -hK]; try (refine hK _ _ ?_; clear hK K))
  | (refine wpX_lastL rfl ?_; intro K hK; simp -implicitDefEqProofs (disch := first | omega | (simp only [qd] <;> omega)) only [xq, ↓xp, qc, Nat.reduceAdd, List.range, List.range.loop, fine, Nat.reduceEqDiff, ↓reduceIte, yielded, reduceCtorEq, Nat.reduceLT, Nat.reduceMul, Nat.reduceSub, one, Nat.reduceLeDiff, runX_cons, y34_49, aq, ↓ap, qe0, qe1, qe2, *, -hK]; try (refine hK _ _ ?_; clear hK K; (try simp only [nq, ↓reduceIte, Nat.reduceEqDiff])))
  | (refine wpX_skip ?_; (try simp only [nq, ↓reduceIte, Nat.reduceEqDiff]))
  | (refine wpX_label ?_; (try simp only [nq, ↓reduceIte, Nat.reduceEqDiff]))
  | (refine wpX_exit ?_; (try simp only [nq, ↓reduceIte, Nat.reduceEqDiff]))
  | (refine wpX_goto ?_; (try simp only [nq, ↓reduceIte, Nat.reduceEqDiff]))
  | (refine wpX_condK (by simp only [act_eval, upd_get, Nat.reduceEqDiff, Nat.reduceLT, ↓reduceIte, *]; rfl) ?_ ?_ <;> (intro hc; first | (exfalso; simp -implicitDefEqProofs (disch := omega) only [*, bq, reduceCtorEq] at hc; done) | (simp only [dq, qe3, qe4, qe5, qe6] at hc) | skip))
  | (refine wpX_scope0 ?_)
  | (refine wpX_block ?_)
  | (refine wpX_seq ?_))
              have hP10 : Picks base S T (.func yf yi yc) pl pieces sv cv (.slice ta ts.length tc) ts thisb db mb yb ab gb true [] (xs.set c s) (H9.set ab (.cells (ints (xs.set c s)).toArray 58 (0, 0))) := hP9.put hC c s
              clear nsa nna vnb9 vsb9 vgb9 hlv9 vth9 vab9 nga hP9 hset
              have hfind : os.find? (fun s => decide (k + optF ts.length pl (ts.drop (c + 1)) (oNext m s t) ≤ optF ts.length pl (t :: ts.drop (c + 1)) m)) = some s := find_at hsi (decide_eq_true hbad) fun j s' hj hs' => decide_eq_false (hno j s' hj hs')
              rw [hfind, Option.getD_some] at hpath
              have hall : (xs.set c s).take (c + 1) ++ pathF ts.length pl (ts.drop (c + 1)) (oNext m s t) ++ (xs.set c s).drop ts.length = xs.take c ++ pathF ts.length pl (ts.drop c) m ++ xs.drop ts.length := by
                rw [hpath, List.drop_set_of_lt (by omega), take_set_succ _ _ _ (by omega)]
                simp
              have hrec := ih (ts.length - (c + 1)) (by omega) (c + 1) (oNext m s t) (xs.set c s) _ rfl (by omega) hm' hP10 (by rw [hall]; exact hA)
              rw [callF34, uponX_enterK]
              simp only [Array.empty_append, List.append_toArray, List.cons_append, List.nil_append]
              simp only [spotV] at hrec
              refine hrec.runs.mono ?_
              rintro _ H11 ⟨rfl, xs', hxs', hP11⟩
              rw [hall] at hxs'
              clear hrec hP10 hfind hall hpath hno hbest hsi hos6
              (try simp -implicitDefEqProofs (disch := first | omega | (simp only [qd] <;> omega)) only [xq, ↓xp, qc, Nat.reduceAdd, List.range, List.range.loop, fine, Nat.reduceEqDiff, ↓reduceIte, yielded, reduceCtorEq, Nat.reduceLT, Nat.reduceMul, Nat.reduceSub, one, Nat.reduceLeDiff, runX_cons, y34_49, aq, ↓ap, qe0, qe1, qe2, *, -hK]); try (refine hK _ _ ?_; clear hK K; (try simp only [nq, ↓reduceIte, Nat.reduceEqDiff])); repeat' (first
  | (refine wpX_stmtL rfl ?_; intro K hK; simp -implicitDefEqProofs (disch := first | omega | (simp only [qd] <;> omega)) only [xq, ↓xp, qc, Nat.reduceAdd, List.range, List.range.loop, fine, Nat.reduceEqDiff, ↓reduceIte, yielded, reduceCtorEq, Nat.reduceLT, Nat.reduceMul, Nat.reduceSub, one, Nat.reduceLeDiff, runX_cons, y34_49, aq, ↓ap, qe0, qe1, qe2, *, -hK]; try (refine hK _ _ ?_; clear hK K))
  | (refine wpX_lastL rfl ?_; intro K hK; simp -implicitDefEqProofs (disch := first | omega | (simp only [qd] <;> omega)) only [xq, ↓xp, qc, Nat.reduceAdd, List.range, List.range.loop, fine, Nat.reduceEqDiff, ↓reduceIte, yielded, reduceCtorEq, Nat.reduceLT, Nat.reduceMul, Nat.reduceSub, one, Nat.reduceLeDiff, runX_cons, y34_49, aq, ↓ap, qe0, qe1, qe2, *, -hK]; try (refine hK _ _ ?_; clear hK K; (try simp only [nq, ↓reduceIte, Nat.reduceEqDiff])))
  | (refine wpX_skip ?_; (try simp only [nq, ↓reduceIte, Nat.reduceEqDiff]))
  | (refine wpX_label ?_; (try simp only [nq, ↓reduceIte, Nat.reduceEqDiff]))
  | (refine wpX_exit ?_; (try simp only [nq, ↓reduceIte, Nat.reduceEqDiff]))
  | (refine wpX_goto ?_; (try simp only [nq, ↓reduceIte, Nat.reduceEqDiff]))
  | (refine wpX_condK (by simp only [act_eval, upd_get, Nat.reduceEqDiff, Nat.reduceLT, ↓reduceIte, *]; rfl) ?_ ?_ <;> (intro hc; first | (exfalso; simp -implicitDefEqProofs (disch := omega) only [*, bq, reduceCtorEq] at hc; done) | (simp only [dq, qe3, qe4, qe5, qe6] at hc) | skip))
  | (refine wpX_scope0 ?_)
  | (refine wpX_block ?_)
  | (refine wpX_seq ?_))
              (refine wpX_ret ?_; (try simp only [nq, ↓reduceIte, Nat.reduceEqDiff]); rw [bodyX_ret, results_one Tryd.results34 (by decide)]; simp only [upd_get, Nat.reduceEqDiff, ↓reduceIte])
              exact ⟨by trivial, xs', hxs', hP11⟩
            · repeat' (first
  | (refine wpX_stmtL rfl ?_; intro K hK; simp -implicitDefEqProofs (disch := first | omega | (simp only [qd] <;> omega)) only [xq, ↓xp, qc, Nat.reduceAdd, List.range, List.range.loop, fine, Nat.reduceEqDiff, ↓reduceIte, yielded, reduceCtorEq, Nat.reduceLT, Nat.reduceMul, Nat.reduceSub, one, Nat.reduceLeDiff, runX_cons, y34_49, aq, ↓ap, qe0, qe1, qe2, *, -hK]; try (refine hK _ _ ?_; clear hK K))
  | (refine wpX_lastL rfl ?_; intro K hK; simp -implicitDefEqProofs (disch := first | omega | (simp only [qd] <;> omega)) only [xq, ↓xp, qc, Nat.reduceAdd, List.range, List.range.loop, fine, Nat.reduceEqDiff, ↓reduceIte, yielded, reduceCtorEq, Nat.reduceLT, Nat.reduceMul, Nat.reduceSub, one, Nat.reduceLeDiff, runX_cons, y34_49, aq, ↓ap, qe0, qe1, qe2, *, -hK]; try (refine hK _ _ ?_; clear hK K; (try simp only [nq, ↓reduceIte, Nat.reduceEqDiff])))
  | (refine wpX_skip ?_; (try simp only [nq, ↓reduceIte, Nat.reduceEqDiff]))
  | (refine wpX_label ?_; (try simp only [nq, ↓reduceIte, Nat.reduceEqDiff]))
  | (refine wpX_exit ?_; (try simp only [nq, ↓reduceIte, Nat.reduceEqDiff]))
  | (refine wpX_goto ?_; (try simp only [nq, ↓reduceIte, Nat.reduceEqDiff]))
  | (refine wpX_condK (by simp only [act_eval, upd_get, Nat.reduceEqDiff, Nat.reduceLT, ↓reduceIte, *]; rfl) ?_ ?_ <;> (intro hc; first | (exfalso; simp -implicitDefEqProofs (disch := omega) only [*, bq, reduceCtorEq] at hc; done) | (simp only [dq, qe3, qe4, qe5, qe6] at hc) | skip))
  | (refine wpX_scope0 ?_)
  | (refine wpX_block ?_)
  | (refine wpX_seq ?_))
              refine ⟨_, ?_, _, i + 1, rfl, by omega, rfl, e1, e2, e3, e4, e5, e10, e37, e38, rfl, hlv9, vsb9, hP9, ?_⟩
              · omega
              · intro j s' hj hs'
                by_cases hji : j = i
                · subst hji
                  rw [hsi] at hs'
                  cases hs'
                  exact hbad
                · exact hno j s' (by omega) hs'
          · exfalso
            obtain rfl : i = os.length := by omega
            obtain ⟨s, hs, he⟩ := hbest
            obtain ⟨j, hj, hjs⟩ := List.getElem_of_mem hs
            exact hno j s hj (by rw [List.getElem?_eq_getElem hj, hjs]) (by omega)
end Go.Proofs.YtiempdpjcddgfaaDoor
end
