/- Texts Slices Rank Look Run VRun BHaul Rows2 PlanT. -/
import Derived.Test.YtofmadjgbcopdaaGreatDoorJ04
section
set_option linter.unusedSimpArgs false
set_option maxRecDepth 100000
set_option maxHeartbeats 1000000
set_option linter.unusedVariables false
namespace Go.Proofs.YtofmadjgbcopdaaGreatDoor
open Go Go.X
set_option linter.defProp false
def y87_30 := And.intro @eqG_slice (And.intro (fun H => bin_eql_slice (H := H) Tryz.underlying22) (fun H => buildSlice0 (H := H) Tryz.underlying22 Tryz.sizeOf3))
def y145_30 := @callF165
def y146_30 := And.intro @callF166 (And.intro (fun H => len_slice (H := H) Tryz.underlying22) (And.intro (fun H => indexAt_slice (H := H) Tryz.underlying22 Tryz.sizeOf3) (And.intro (fun H => loadAt_one (H := H) Tryz.underlying3 rfl) (And.intro (fun H => storeAt_int (H := H) Tryz.sizeOf3) (And.intro (fun H => slice_hi (H := H) Tryz.underlying22 Tryz.sizeOf3) (And.intro (fun H => slice_lo (H := H) Tryz.underlying22 Tryz.sizeOf3) (fun H => slice_lohi (H := H) Tryz.underlying22 Tryz.sizeOf3)))))))
def y165_30 := And.intro (fun H => len_slice (H := H) Tryz.underlying22) (And.intro (fun H => indexAt_slice (H := H) Tryz.underlying22 Tryz.sizeOf3) (fun H => loadAt_one (H := H) Tryz.underlying3 rfl))
def y166_30 := And.intro (fun H => len_slice (H := H) Tryz.underlying22) (And.intro (fun H => indexAt_slice (H := H) Tryz.underlying22 Tryz.sizeOf3) (fun H => loadAt_one (H := H) Tryz.underlying3 rfl))
theorem z0_30 {p q : Prop} (g : q) (h : Hid q → p := by
  intro g
  repeat' (first
  | (refine wpX_stmtL rfl ?_; intro Kz hKz; simp -implicitDefEqProofs (disch := first | omega | (simp only [qd] <;> omega)) only [xq, ↓xp, qc, Nat.reduceAdd, List.range, List.range.loop, fine, Nat.reduceEqDiff, ↓reduceIte, yielded, reduceCtorEq, Nat.reduceLT, Nat.reduceMul, Nat.reduceSub, one, Nat.reduceLeDiff, runX_cons, y87_30, aq, ↓ap, qe0, qe1, qe2, *, -g, -hKz, Option.isNone_none]; try (refine hKz _ _ ?_; clear hKz Kz))
  | (refine wpX_lastL rfl ?_; intro Kz hKz; simp -implicitDefEqProofs (disch := first | omega | (simp only [qd] <;> omega)) only [xq, ↓xp, qc, Nat.reduceAdd, List.range, List.range.loop, fine, Nat.reduceEqDiff, ↓reduceIte, yielded, reduceCtorEq, Nat.reduceLT, Nat.reduceMul, Nat.reduceSub, one, Nat.reduceLeDiff, runX_cons, y87_30, aq, ↓ap, qe0, qe1, qe2, *, -g, -hKz, Option.isNone_none]; try (refine hKz _ _ ?_; clear hKz Kz; (try simp only [nq, ↓reduceIte, Nat.reduceEqDiff])))
  | (refine wpX_skip ?_; (try simp only [nq, ↓reduceIte, Nat.reduceEqDiff]))
  | (refine wpX_label ?_; (try simp only [nq, ↓reduceIte, Nat.reduceEqDiff]))
  | (refine wpX_exit ?_; (try simp only [nq, ↓reduceIte, Nat.reduceEqDiff]))
  | (refine wpX_goto ?_; (try simp only [nq, ↓reduceIte, Nat.reduceEqDiff]))
  | (refine wpX_condK (by simp only [act_eval, upd_get, Nat.reduceEqDiff, Nat.reduceLT, ↓reduceIte, *, -g]; rfl) ?_ ?_ <;> (intro hcz; first | (exfalso; simp -implicitDefEqProofs (disch := omega) only [*, -g, bq, reduceCtorEq] at hcz; done) | (simp only [dq, qe3, qe4, qe5, qe6] at hcz) | skip))
  | (refine wpX_scope0 ?_)
  | (refine wpX_block ?_)
  | (refine wpX_seq ?_))
  (try (revert Kz; refine unK ?_)); (repeat (revert hcz; refine unC ?_))
  exact Hid.out g) : Hid p := ⟨h ⟨g⟩⟩
theorem z1_30 {p q : Prop} (g : q) (h : Hid q → p := by
  intro g
  repeat' (first
  | (refine wpX_stmtL rfl ?_; intro Kz hKz; simp -implicitDefEqProofs (disch := first | omega | (simp only [qd] <;> omega)) only [xq, ↓xp, qc, Nat.reduceAdd, List.range, List.range.loop, fine, Nat.reduceEqDiff, ↓reduceIte, yielded, reduceCtorEq, Nat.reduceLT, Nat.reduceMul, Nat.reduceSub, one, Nat.reduceLeDiff, runX_cons, y87_30, aq, ↓ap, qe0, qe1, qe2, *, -g, -hKz, Option.isNone_some]; try (refine hKz _ _ ?_; clear hKz Kz))
  | (refine wpX_lastL rfl ?_; intro Kz hKz; simp -implicitDefEqProofs (disch := first | omega | (simp only [qd] <;> omega)) only [xq, ↓xp, qc, Nat.reduceAdd, List.range, List.range.loop, fine, Nat.reduceEqDiff, ↓reduceIte, yielded, reduceCtorEq, Nat.reduceLT, Nat.reduceMul, Nat.reduceSub, one, Nat.reduceLeDiff, runX_cons, y87_30, aq, ↓ap, qe0, qe1, qe2, *, -g, -hKz, Option.isNone_some]; try (refine hKz _ _ ?_; clear hKz Kz; (try simp only [nq, ↓reduceIte, Nat.reduceEqDiff])))
  | (refine wpX_skip ?_; (try simp only [nq, ↓reduceIte, Nat.reduceEqDiff]))
  | (refine wpX_label ?_; (try simp only [nq, ↓reduceIte, Nat.reduceEqDiff]))
  | (refine wpX_exit ?_; (try simp only [nq, ↓reduceIte, Nat.reduceEqDiff]))
  | (refine wpX_goto ?_; (try simp only [nq, ↓reduceIte, Nat.reduceEqDiff]))
  | (refine wpX_condK (by simp only [act_eval, upd_get, Nat.reduceEqDiff, Nat.reduceLT, ↓reduceIte, *, -g]; rfl) ?_ ?_ <;> (intro hcz; first | (exfalso; simp -implicitDefEqProofs (disch := omega) only [*, -g, bq, reduceCtorEq] at hcz; done) | (simp only [dq, qe3, qe4, qe5, qe6] at hcz) | skip))
  | (refine wpX_scope0 ?_)
  | (refine wpX_block ?_)
  | (refine wpX_seq ?_))
  (try (revert Kz; refine unK ?_)); (repeat (revert hcz; refine unC ?_))
  exact Hid.out g) : Hid p := ⟨h ⟨g⟩⟩
theorem z2_30 {p q : Prop} (g : q) (h : Hid q → p := by
  intro g
  repeat' (first
  | (refine wpX_stmtL rfl ?_; intro Kz hKz; simp -implicitDefEqProofs (disch := first | omega | (simp only [qd] <;> omega)) only [xq, ↓xp, qc, Nat.reduceAdd, List.range, List.range.loop, fine, Nat.reduceEqDiff, ↓reduceIte, yielded, reduceCtorEq, Nat.reduceLT, Nat.reduceMul, Nat.reduceSub, one, Nat.reduceLeDiff, runX_cons, y145_30, aq, ↓ap, qe0, qe1, qe2, *, -g, -hKz]; try (refine hKz _ _ ?_; clear hKz Kz))
  | (refine wpX_lastL rfl ?_; intro Kz hKz; simp -implicitDefEqProofs (disch := first | omega | (simp only [qd] <;> omega)) only [xq, ↓xp, qc, Nat.reduceAdd, List.range, List.range.loop, fine, Nat.reduceEqDiff, ↓reduceIte, yielded, reduceCtorEq, Nat.reduceLT, Nat.reduceMul, Nat.reduceSub, one, Nat.reduceLeDiff, runX_cons, y145_30, aq, ↓ap, qe0, qe1, qe2, *, -g, -hKz]; try (refine hKz _ _ ?_; clear hKz Kz; (try simp only [nq, ↓reduceIte, Nat.reduceEqDiff])))
  | (refine wpX_skip ?_; (try simp only [nq, ↓reduceIte, Nat.reduceEqDiff]))
  | (refine wpX_label ?_; (try simp only [nq, ↓reduceIte, Nat.reduceEqDiff]))
  | (refine wpX_exit ?_; (try simp only [nq, ↓reduceIte, Nat.reduceEqDiff]))
  | (refine wpX_goto ?_; (try simp only [nq, ↓reduceIte, Nat.reduceEqDiff]))
  | (refine wpX_condK (by simp only [act_eval, upd_get, Nat.reduceEqDiff, Nat.reduceLT, ↓reduceIte, *, -g]; rfl) ?_ ?_ <;> (intro hcz; first | (exfalso; simp -implicitDefEqProofs (disch := omega) only [*, -g, bq, reduceCtorEq] at hcz; done) | (simp only [dq, qe3, qe4, qe5, qe6] at hcz) | skip))
  | (refine wpX_scope0 ?_)
  | (refine wpX_block ?_)
  | (refine wpX_seq ?_))
  (try (revert Kz; refine unK ?_)); (repeat (revert hcz; refine unC ?_))
  exact Hid.out g) : Hid p := ⟨h ⟨g⟩⟩
theorem x3_30 {p q : Prop} (g : q) (h : Hid q → p := by
  intro g
  simp -implicitDefEqProofs (disch := first | omega | (simp only [qd] <;> omega)) only [xq, ↓xp, qc, Nat.reduceAdd, List.range, List.range.loop, fine, Nat.reduceEqDiff, ↓reduceIte, yielded, reduceCtorEq, Nat.reduceLT, Nat.reduceMul, Nat.reduceSub, one, Nat.reduceLeDiff, runX_cons, y145_30, aq, ↓ap, qe0, qe1, qe2, *, -g, -hK]
  exact Hid.out g) : Hid p := ⟨h ⟨g⟩⟩
theorem clone_spec (m : Md) (H : Hp) (v : Value) (xs : List Int) (hv : SlI H v xs) (hl : xs.length ≤ 1000000) :
    FnX Tryz.prog m 87 #[v] H fun e H' => ∃ w, e = .returned w ∧ RowX none H H' w 3 (ints xs) := by
  obtain ⟨a, cap, rfl, hcap, hx⟩ := hv
  refine FnX_start Tryz.func87 rfl Tryz.ntmps87 (by simp) ?_
  cases a with
  | none =>
    have : xs = [] := by
      cases xs with
      | nil => rfl
      | cons x xs => obtain ⟨b, o, p, c, fr, h, _⟩ := hx 0 x rfl; cases h
    subst this
    (refine @Hid.out _ ?_; refine z0_30 ?_; (repeat (refine inC ?_; intro hc)); try (refine inK ?_; intro K hK))
    (refine @Hid.out _ ?_; refine z9 Tryz.results87 ?_)
    exact ⟨_, rfl, RowX.nil⟩
  | some ad =>
    (refine @Hid.out _ ?_; refine z1_30 ?_; (repeat (refine inC ?_; intro hc)); try (refine inK ?_; intro K hK))
    intro nb hnb
    have hle : H.le (H.set nb (.cells #[] 3 (0, 0))) := Hp.le_set hnb
    have hrow0 : NewRow H (H.set nb (.cells #[] 3 (0, 0))) (.slice (some ⟨nb, 0, none⟩) 0 0) 3 1 0 (ints []) := .inr ⟨nb, #[], 0, hnb, rfl, rfl, rfl, rfl, Nat.le_refl _, fun i u hi => by simp [ints] at hi⟩
    obtain ⟨b, o, sp⟩ := ad
    cases xs with
    | nil =>
      ((try (refine @Hid.out _ ?_; refine zX y87_30 ?_)); (try (refine hK _ _ ?_; clear hK K; (try simp only [nq, ↓reduceIte, Nat.reduceEqDiff]))); refine @Hid.out _ ?_; refine zA y87_30 ?_; (repeat (refine inC ?_; intro hc)); try (refine inK ?_; intro K hK))
      refine append_zero Tryz.underlying22 Tryz.sizeOf3 _ _ _ _ _ _ _ (Nat.le_refl _) _ _ ?_
      ((try (refine @Hid.out _ ?_; refine zX y87_30 ?_)); (try (refine hK _ _ ?_; clear hK K; (try simp only [nq, ↓reduceIte, Nat.reduceEqDiff]))); refine @Hid.out _ ?_; refine zA y87_30 ?_; (repeat (refine inC ?_; intro hc)); try (refine inK ?_; intro K hK))
      (refine @Hid.out _ ?_; refine z9 Tryz.results87 ?_)
      exact ⟨_, rfl, Lex.of hle, .inr ⟨nb, #[], 0, hnb, set_at, rfl, rfl, Nat.le_refl _, fun i u hi => by simp [ints] at hi⟩⟩
    | cons x0 xs0 =>
      obtain ⟨b', o', p', c', fr', h', hb', _⟩ := hx 0 x0 rfl
      cases h'
      ((try (refine @Hid.out _ ?_; refine zX y87_30 ?_)); (try (refine hK _ _ ?_; clear hK K; (try simp only [nq, ↓reduceIte, Nat.reduceEqDiff]))); refine @Hid.out _ ?_; refine zA y87_30 ?_; (repeat (refine inC ?_; intro hc)); try (refine inK ?_; intro K hK))
      have hgne : b ≠ nb := ne_new hb' hnb
      refine append_ints hrow0 (Hp.le_refl _) (ys := x0 :: xs0) rfl (fun h => absurd h (by rw [hb']; simp)) (fun j y hj => ?_) (by simp at hl ⊢; omega) _ _ _ _ (fun v' H1 H2 hr hl2 => ?_)
      · obtain ⟨b2, o2, p2, c2, fr2, e2, hb2, hc2⟩ := hx j y hj
        cases e2
        rw [cell_set_ne hgne, cell_of hb2]
        exact hc2
      · ((try (refine @Hid.out _ ?_; refine zX y87_30 ?_)); (try (refine hK _ _ ?_; clear hK K; (try simp only [nq, ↓reduceIte, Nat.reduceEqDiff]))); refine @Hid.out _ ?_; refine zA y87_30 ?_; (repeat (refine inC ?_; intro hc)); try (refine inK ?_; intro K hK))
        (refine @Hid.out _ ?_; refine z9 Tryz.results87 ?_)
        refine ⟨_, rfl, ?_⟩
        have hlen := hr.len
        rcases hr with ⟨_, h0, _⟩ | ⟨b3, c3, cap3, hb3, rfl, rfl, hs3, hl3, hn3, hg3⟩
        · simp at h0
        · refine ⟨Lex.of (Hp.le_trans (Hp.le_set hb3) hl2), .inr ⟨b3, c3, cap3, hb3, hl2 _ _ set_at, ?_, by simpa using hs3, ?_, ?_⟩⟩
          · simp [ints]
          · simpa [ints] using hn3
          · intro i u hi; exact hg3 i u (by simpa using hi)
theorem index_spec (m : Md) (H : Hp) (v : Value) (xs : List Int) (n : Int) (hv : SlI H v xs) (hl : xs.length ≤ 1000000) :
    FnX Tryz.prog m 165 #[v, .int .i64 n] H fun e H' => (∃ r : Int, e = .returned (.int .i64 r) ∧ (0 ≤ r ↔ n ∈ xs)) ∧ H' = H := by
  have hvS := hv
  obtain ⟨a, cap, rfl, hcap, _⟩ := hv
  refine FnX_start Tryz.func165 rfl Tryz.ntmps165 (by simp) ?_
  (refine @Hid.out _ ?_; refine zA y165_30 ?_; (repeat (refine inC ?_; intro hc)); try (refine inK ?_; intro K hK))
  refine wpX_loop (fun w a' H' => ∃ e j, w = xs.length - j ∧ j ≤ xs.length ∧ n ∉ xs.take j ∧ a' = act 19 e [] ∧ e 0 = .slice a xs.length cap ∧ e 1 = .int .i64 n ∧ e 6 = .slice a xs.length cap ∧ e 7 = .int .i64 xs.length ∧ e 8 = .int .i64 (j : Nat) ∧ H' = H) (n := xs.length) ?_ ?_
  · exact ⟨_, 0, by omega, by omega, by simp, rfl, rfl, rfl, rfl, rfl, rfl, by trivial⟩
  · rintro w a' H' ⟨e, j, rfl, hj, hnot, rfl, e0, e1, e6, e7, e8, hH⟩
    rw [hH]; clear hH H'
    by_cases hlt : j < xs.length
    · obtain ⟨b, o, cap', p, c, fr, hve, _, hb, hx⟩ := hvS.cons (fun h => by simp [h] at hlt)
      cases hve
      have hxj := hx j xs[j] (List.getElem?_eq_getElem hlt)
      have hmem := List.getElem_mem hlt
      have hnext : n ≠ xs[j] → n ∉ xs.take (j + 1) := fun h1 h2 => by
        rw [List.take_add_one, List.getElem?_eq_getElem hlt] at h2
        rcases List.mem_append.1 h2 with h2 | h2
        · exact hnot h2
        · simp at h2; exact h1 h2
      generalize xs[j] = x at hxj hmem hnext
      repeat' (first
  | (refine wpX_stmtL rfl ?_; intro K hK; simp -implicitDefEqProofs (disch := first | omega | (simp only [qd] <;> omega)) only [xq, ↓xp, qc, Nat.reduceAdd, List.range, List.range.loop, fine, Nat.reduceEqDiff, ↓reduceIte, yielded, reduceCtorEq, Nat.reduceLT, Nat.reduceMul, Nat.reduceSub, one, Nat.reduceLeDiff, runX_cons, y165_30, aq, ↓ap, qe0, qe1, qe2, *, -hK]; try (refine hK _ _ ?_; clear hK K))
  | (refine wpX_lastL rfl ?_; intro K hK; simp -implicitDefEqProofs (disch := first | omega | (simp only [qd] <;> omega)) only [xq, ↓xp, qc, Nat.reduceAdd, List.range, List.range.loop, fine, Nat.reduceEqDiff, ↓reduceIte, yielded, reduceCtorEq, Nat.reduceLT, Nat.reduceMul, Nat.reduceSub, one, Nat.reduceLeDiff, runX_cons, y165_30, aq, ↓ap, qe0, qe1, qe2, *, -hK]; try (refine hK _ _ ?_; clear hK K; (try simp only [nq, ↓reduceIte, Nat.reduceEqDiff])))
  | (refine wpX_skip ?_; (try simp only [nq, ↓reduceIte, Nat.reduceEqDiff]))
  | (refine wpX_label ?_; (try simp only [nq, ↓reduceIte, Nat.reduceEqDiff]))
  | (refine wpX_exit ?_; (try simp only [nq, ↓reduceIte, Nat.reduceEqDiff]))
  | (refine wpX_goto ?_; (try simp only [nq, ↓reduceIte, Nat.reduceEqDiff]))
  | (refine wpX_condK (by simp only [act_eval, upd_get, Nat.reduceEqDiff, Nat.reduceLT, ↓reduceIte, *]; rfl) ?_ ?_ <;> (intro hc; first | (exfalso; simp -implicitDefEqProofs (disch := omega) only [*, bq, reduceCtorEq] at hc; done) | (simp only [dq, qe3, qe4, qe5, qe6] at hc) | skip))
  | (refine wpX_scope0 ?_)
  | (refine wpX_block ?_)
  | (refine wpX_seq ?_))
      · (refine @Hid.out _ ?_; refine z9 Tryz.results165 ?_)
        exact ⟨⟨_, rfl, ⟨fun _ => hc ▸ hmem, fun _ => by omega⟩⟩, by trivial⟩
      · exact ⟨_, by omega, _, j + 1, rfl, hlt, hnext hc, rfl, e0, e1, e6, e7, rfl, by trivial⟩
    · (refine @Hid.out _ ?_; refine zA y165_30 ?_; (repeat (refine inC ?_; intro hc)); try (refine inK ?_; intro K hK))
      (refine @Hid.out _ ?_; refine z9 Tryz.results165 ?_)
      refine ⟨⟨_, rfl, ⟨fun h => absurd h (by omega), fun h => absurd h ?_⟩⟩, by trivial⟩
      rwa [List.take_of_length_le (by omega)] at hnot
theorem contains_spec (m : Md) (H : Hp) (v : Value) (xs : List Int) (n : Int) (hv : SlI H v xs) (hl : xs.length ≤ 1000000) :
    FnX Tryz.prog m 145 #[v, .int .i64 n] H fun e H' => e = .returned (.bool (decide (n ∈ xs))) ∧ H' = H := by
  refine FnX_start Tryz.func145 rfl Tryz.ntmps145 (by simp) ?_
  (refine @Hid.out _ ?_; refine z2_30 ?_; (repeat (refine inC ?_; intro hc)); try (refine inK ?_; intro K hK))
  refine (index_spec m H v xs n hv hl).runs.mono ?_
  rintro _ _ ⟨⟨r, rfl, hr⟩, rfl⟩
  ((try (refine @Hid.out _ ?_; refine x3_30 ?_)); (try (refine hK _ _ ?_; clear hK K; (try simp only [nq, ↓reduceIte, Nat.reduceEqDiff]))); refine @Hid.out _ ?_; refine z2_30 ?_; (repeat (refine inC ?_; intro hc)); try (refine inK ?_; intro K hK))
  (refine @Hid.out _ ?_; refine z9 Tryz.results145 ?_)
  refine ⟨?_, by trivial⟩
  simp [hr]
def Own0 (H : Hp) (b : Nat) (cap : Nat) (xs : List Int) : Prop := ∃ c : Array Value, H b = some (true, .cells c 3 (0, 0)) ∧ c.size = cap ∧ xs.length ≤ cap ∧ ∀ (i : Nat) (x : Int), xs[i]? = some x → c[i]? = some (.int .i64 x)
def Tells (m : Md) (b : Nat) (H : Hp) (f : FuncId) (capt : List Value) (p : Int → Bool) : Prop := ∀ (H' : Hp) (x : Int), Lex (some b) H H' → FnX Tryz.prog m f (.int .i64 x :: capt).toArray H' fun e H'' => e = .returned (.bool (p x)) ∧ H'' = H'
theorem indexFunc_spec (m : Md) (H : Hp) (b cap : Nat) (xs : List Int) (f : FuncId) (capt : List Value) (p : Int → Bool) (hcall : ∀ (args : Array Value) (H : Hp) (K : Next → Hp → Prop) (E : Value → Hp → Prop), wpS Tryz.prog (callFunc f args) H K E = K (.enter f args) H)
    (ho : Own0 H b cap xs) (hf : Tells m b H f capt p) (hl : xs.length ≤ 1000000) :
    FnX Tryz.prog m 166 #[.slice (some ⟨b, 0, none⟩) xs.length cap, .func (.func f) #[] capt.toArray] H fun e H' => (∃ k : Nat, k ≤ xs.length ∧ (∀ x ∈ xs.take k, p x = false) ∧ ((k = xs.length ∧ e = .returned (.int .i64 (-1))) ∨ (∃ h : k < xs.length, p xs[k] = true ∧ e = .returned (.int .i64 k)))) ∧ H' = H := by
  obtain ⟨c, hb, hcs, hcap, hx⟩ := ho
  refine FnX_start Tryz.func166 rfl Tryz.ntmps166 (by simp) ?_
  (refine @Hid.out _ ?_; refine zA y166_30 ?_; (repeat (refine inC ?_; intro hc)); try (refine inK ?_; intro K hK))
  refine wpX_loop (fun w a' H' => ∃ e j, w = xs.length - j ∧ j ≤ xs.length ∧ (∀ x ∈ xs.take j, p x = false) ∧ a' = act 19 e [] ∧ e 0 = .slice (some ⟨b, 0, none⟩) xs.length cap ∧ e 1 = .func (.func f) #[] capt.toArray ∧ e 6 = .slice (some ⟨b, 0, none⟩) xs.length cap ∧ e 7 = .int .i64 xs.length ∧ e 8 = .int .i64 (j : Nat) ∧ H' = H) (n := xs.length) ?_ ?_
  · exact ⟨_, 0, by omega, by omega, by simp, rfl, rfl, rfl, rfl, rfl, rfl, by trivial⟩
  · rintro w a' H' ⟨e, j, rfl, hj, hnot, rfl, e0, e1, e6, e7, e8, hH⟩
    rw [hH]; clear hH H'
    by_cases hlt : j < xs.length
    · have hxj := hx j xs[j] (List.getElem?_eq_getElem hlt)
      have hnext : p xs[j] = false → ∀ x ∈ xs.take (j + 1), p x = false := fun h1 x h2 => by
        rw [List.take_add_one, List.getElem?_eq_getElem hlt] at h2
        rcases List.mem_append.1 h2 with h2 | h2
        · exact hnot x h2
        · simp at h2; rw [h2]; exact h1
      have hpx : ∀ h : j < xs.length, p xs[j] = p xs[j] := fun _ => rfl
      generalize hxe : xs[j] = x at hxj hnext
      (refine @Hid.out _ ?_; refine zA y166_30 ?_; (repeat (refine inC ?_; intro hc)); try (refine inK ?_; intro K hK))
      have hF := hf H x Lex.refl
      have hargs : (#[] ++ #[Value.int IntKind.i64 x] ++ capt.toArray) = (Value.int .i64 x :: capt).toArray := by simp
      rw [hargs]
      refine hF.runs.mono ?_
      rintro _ _ ⟨rfl, rfl⟩
      cases hpx' : p x
      · ((try (refine @Hid.out _ ?_; refine zX y166_30 ?_)); (try (refine hK _ _ ?_; clear hK K; (try simp only [nq, ↓reduceIte, Nat.reduceEqDiff]))); refine @Hid.out _ ?_; refine zA y166_30 ?_; (repeat (refine inC ?_; intro hc)); try (refine inK ?_; intro K hK))
        exact ⟨_, by omega, _, j + 1, rfl, hlt, hnext hpx', rfl, e0, e1, e6, e7, rfl, by trivial⟩
      · ((try (refine @Hid.out _ ?_; refine zX y166_30 ?_)); (try (refine hK _ _ ?_; clear hK K; (try simp only [nq, ↓reduceIte, Nat.reduceEqDiff]))); refine @Hid.out _ ?_; refine zA y166_30 ?_; (repeat (refine inC ?_; intro hc)); try (refine inK ?_; intro K hK))
        (refine @Hid.out _ ?_; refine z9 Tryz.results166 ?_)
        exact ⟨⟨j, hj, hnot, .inr ⟨hlt, by rw [hxe]; exact hpx', rfl⟩⟩, by trivial⟩
    · (refine @Hid.out _ ?_; refine zA y166_30 ?_; (repeat (refine inC ?_; intro hc)); try (refine inK ?_; intro K hK))
      (refine @Hid.out _ ?_; refine z9 Tryz.results166 ?_)
      have : j = xs.length := by omega
      exact ⟨⟨j, hj, hnot, .inl ⟨this, by trivial⟩⟩, by trivial⟩
theorem filter_take_succ (p : Int → Bool) (xs : List Int) (j : Nat) (h : j < xs.length) : (xs.take (j + 1)).filter p = (xs.take j).filter p ++ (if p xs[j] then [xs[j]] else []) := by
  rw [List.take_add_one, List.getElem?_eq_getElem h, List.filter_append]
  simp [List.filter_cons]
theorem deleteFunc_spec (m : Md) (H : Hp) (b cap : Nat) (xs : List Int) (f : FuncId) (capt : List Value) (p : Int → Bool) (hcall : ∀ (args : Array Value) (H : Hp) (K : Next → Hp → Prop) (E : Value → Hp → Prop), wpS Tryz.prog (callFunc f args) H K E = K (.enter f args) H)
    (ho : Own0 H b cap xs) (hf : Tells m b H f capt p) (hl : xs.length ≤ 1000000) :
    FnX Tryz.prog m 146 #[.slice (some ⟨b, 0, none⟩) xs.length cap, .func (.func f) #[] capt.toArray] H fun e H' => e = .returned (.slice (some ⟨b, 0, none⟩) (xs.filter fun x => !p x).length cap) ∧ Own0 H' b cap (xs.filter fun x => !p x) ∧ ∃ o, H' = H.set b o := by
  have hoS := ho
  obtain ⟨c, hb, hcs, hcap, hx⟩ := ho
  refine FnX_start Tryz.func146 rfl Tryz.ntmps146 (by simp) ?_
  (refine @Hid.out _ ?_; refine zA y146_30 ?_; (repeat (refine inC ?_; intro hc)); try (refine inK ?_; intro K hK))
  refine (indexFunc_spec m H b cap xs f capt p hcall hoS hf hl).runs.mono ?_
  rintro _ H2 ⟨⟨k, hk, hkp, hk'⟩, hH2⟩
  rw [hH2]; clear hH2 H2
  have hfk : (xs.take k).filter (fun x => !p x) = xs.take k := List.filter_eq_self.2 fun x hx => by rw [hkp x hx]; rfl
  rcases hk' with ⟨hke, rfl⟩ | ⟨hlt, hpk, rfl⟩
  · have hall : xs.filter (fun x => !p x) = xs := by have h9 := hfk; rw [hke, List.take_length] at h9; exact h9
    ((try (refine @Hid.out _ ?_; refine zX y146_30 ?_)); (try (refine hK _ _ ?_; clear hK K; (try simp only [nq, ↓reduceIte, Nat.reduceEqDiff]))); refine @Hid.out _ ?_; refine zA y146_30 ?_; (repeat (refine inC ?_; intro hc)); try (refine inK ?_; intro K hK))
    (refine @Hid.out _ ?_; refine z9 Tryz.results146 ?_)
    rw [hall]
    exact ⟨by trivial, hoS, _, (set_self hb).symm⟩
  · ((try (refine @Hid.out _ ?_; refine zX y146_30 ?_)); (try (refine hK _ _ ?_; clear hK K; (try simp only [nq, ↓reduceIte, Nat.reduceEqDiff]))); refine @Hid.out _ ?_; refine zA y146_30 ?_; (repeat (refine inC ?_; intro hc)); try (refine inK ?_; intro K hK))
    refine wpX_loop (fun w a' H' => ∃ e j, ∃ c' : Array Value, w = xs.length - j ∧ j ≤ xs.length ∧ k < j ∧ c'.size = cap ∧ ((xs.take j).filter fun x => !p x).length < j ∧ (∀ (i : Nat) (x : Int), ((xs.take j).filter fun x => !p x)[i]? = some x → c'[i]? = some (.int .i64 x)) ∧ (∀ (i : Nat) (x : Int), j ≤ i → xs[i]? = some x → c'[i]? = some (.int .i64 x)) ∧
      a' = act 42 e [] ∧ e 0 = .slice (some ⟨b, 0, none⟩) xs.length cap ∧ e 1 = .func (.func f) #[] capt.toArray ∧ e 5 = .int .i64 (((xs.take j).filter fun x => !p x).length : Nat) ∧ e 6 = .int .i64 (j : Nat) ∧ H' = H.set b (.cells c' 3 (0, 0))) (n := xs.length - (k + 1)) ?_ ?_
    · have hft : ((xs.take (k + 1)).filter fun x => !p x) = xs.take k := by
        rw [filter_take_succ _ _ _ hlt, hfk, hpk]; simp
      refine ⟨_, k + 1, c, rfl, hlt, by omega, hcs, ?_, ?_, fun i x _ h => hx i x h, rfl, rfl, rfl, ?_, rfl, (set_self hb).symm⟩
      · rw [hft]; simp; omega
      · rw [hft]
        intro i x h
        have hik : i < k := by
          have := (List.getElem?_eq_some_iff.1 h).1
          simp at this; omega
        rw [List.getElem?_take_of_lt hik] at h
        exact hx i x h
      · rw [hft]
        simp only [List.length_take]
        show Value.int .i64 _ = Value.int .i64 _
        congr 1
        omega
    · rintro w a' H' ⟨e, j, c', rfl, hj, hkj, hcs', hfl, hc1, hc2, rfl, e0, e1, e5, e6, hH⟩
      rw [hH]; clear hH H'
      have hb' : (H.set b (.cells c' 3 (0, 0))) b = some (true, .cells c' 3 (0, 0)) := set_at
      have hlexb : Lex (some b) H (H.set b (.cells c' 3 (0, 0))) := Lex.refl.set
      by_cases hlt2 : j < xs.length
      · have hxj := hc2 j xs[j] (Nat.le_refl _) (List.getElem?_eq_getElem hlt2)
        have hsucc := filter_take_succ (fun x => !p x) xs j hlt2
        generalize hxe : xs[j] = x at hxj hsucc
        generalize hfe : (xs.take j).filter (fun x => !p x) = fs at hfl hc1 hsucc e5
        (refine @Hid.out _ ?_; refine zA y146_30 ?_; (repeat (refine inC ?_; intro hc)); try (refine inK ?_; intro K hK))
        have hargs : (#[] ++ #[Value.int IntKind.i64 x] ++ capt.toArray) = (Value.int .i64 x :: capt).toArray := by simp
        rw [hargs]
        refine (hf _ x hlexb).runs.mono ?_
        rintro _ H2 ⟨rfl, hH2⟩
        rw [hH2]; clear hH2 H2
        cases hpx : p x
        · rw [hpx] at hsucc
          simp only [Bool.not_false, if_true] at hsucc
          have hfc : fs.length < cap := by omega
          ((try (refine @Hid.out _ ?_; refine zX y146_30 ?_)); (try (refine hK _ _ ?_; clear hK K; (try simp only [nq, ↓reduceIte, Nat.reduceEqDiff]))); refine @Hid.out _ ?_; refine zA y146_30 ?_; (repeat (refine inC ?_; intro hc)); try (refine inK ?_; intro K hK))
          refine ⟨_, ?_, _, j + 1, c'.setIfInBounds fs.length (.int .i64 x), rfl, hlt2, by omega, by simp [hcs'], ?_, ?_, ?_, rfl, e0, e1, ?_, rfl, rfl⟩
          · omega
          · rw [hsucc]; simp; omega
          · rw [hsucc]
            intro i y hi
            by_cases hif : i < fs.length
            · rw [List.getElem?_append_left hif] at hi
              rw [Array.getElem?_setIfInBounds_ne (by omega)]
              exact hc1 i y hi
            · have h1 := (List.getElem?_eq_some_iff.1 hi).1
              simp at h1
              obtain rfl : i = fs.length := by omega
              rw [List.getElem?_append_right (Nat.le_refl _)] at hi
              simp at hi
              subst hi
              simp [hcs', hfc]
          · intro i y hi hy
            rw [Array.getElem?_setIfInBounds_ne (by omega)]
            exact hc2 i y (by omega) hy
          · rw [hsucc]
            simp only [List.length_append, List.length_cons, List.length_nil]
            rfl
        · rw [hpx] at hsucc
          simp only [Bool.not_true, Bool.false_eq_true, if_false, List.append_nil] at hsucc
          ((try (refine @Hid.out _ ?_; refine zX y146_30 ?_)); (try (refine hK _ _ ?_; clear hK K; (try simp only [nq, ↓reduceIte, Nat.reduceEqDiff]))); refine @Hid.out _ ?_; refine zA y146_30 ?_; (repeat (refine inC ?_; intro hc)); try (refine inK ?_; intro K hK))
          exact ⟨_, by omega, _, j + 1, c', rfl, hlt2, by omega, hcs', by rw [hsucc]; omega, by rw [hsucc]; exact hc1, fun i y h1 h2 => hc2 i y (by omega) h2, rfl, e0, e1, by rw [hsucc]; exact e5, rfl, rfl⟩
      · obtain rfl : j = xs.length := by omega
        rw [List.take_length] at hfl hc1 e5
        generalize hfe : xs.filter (fun x => !p x) = fs at hfl hc1 e5
        have hcne : ¬ cap = fs.length := by omega
        (refine @Hid.out _ ?_; refine zA y146_30 ?_; (repeat (refine inC ?_; intro hc)); try (refine inK ?_; intro K hK))
        refine clear_slice Tryz.underlying22 Tryz.zeroValue3 rfl _ _ _ _ _ _ hb' (by rw [hcs']; omega) _ _ ?_
        ((try (refine @Hid.out _ ?_; refine zX y146_30 ?_)); (try (refine hK _ _ ?_; clear hK K; (try simp only [nq, ↓reduceIte, Nat.reduceEqDiff]))); refine @Hid.out _ ?_; refine zA y146_30 ?_; (repeat (refine inC ?_; intro hc)); try (refine inK ?_; intro K hK))
        (refine @Hid.out _ ?_; refine z9 Tryz.results146 ?_)
        refine ⟨by trivial, ⟨_, set_at, by rw [over_size, hcs'], by omega, ?_⟩, _, rfl⟩
        intro i x hi
        have h1 := (List.getElem?_eq_some_iff.1 hi).1
        rw [over_get i (by rw [hcs']; omega), if_neg (by omega)]
        exact hc1 i x hi
end Go.Proofs.YtofmadjgbcopdaaGreatDoor
end
section
set_option linter.unusedSimpArgs false
set_option maxRecDepth 100000
set_option maxHeartbeats 1000000
set_option linter.unusedVariables false
namespace Go.Proofs.YtofmadjgbcopdaaGreatDoor
open Go Go.X
set_option linter.defProp false
def y193_31 := And.intro (fun H => fieldAt_eq (H := H) Tryz.underlying172 (i := 0) rfl (off := 0) rfl Tryz.sizeOf170) (And.intro (fun H => indexAt_array (H := H) Tryz.underlying170 Tryz.sizeOf3) (fun H => loadAt_one (H := H) Tryz.underlying3 rfl))
def y194_31 := And.intro (fun H => fieldAt_eq (H := H) Tryz.underlying172 (i := 1) rfl (off := 6) rfl Tryz.sizeOf170) (And.intro (fun H => indexAt_array (H := H) Tryz.underlying170 Tryz.sizeOf3) (fun H => loadAt_one (H := H) Tryz.underlying3 rfl))
def y195_31 := And.intro (fun H => fieldAt_eq (H := H) Tryz.underlying172 (i := 2) rfl (off := 12) rfl Tryz.sizeOf170) (And.intro (fun H => indexAt_array (H := H) Tryz.underlying170 Tryz.sizeOf3) (fun H => loadAt_one (H := H) Tryz.underlying3 rfl))
def rankF (r : Int) (came asked later : List Int) (p : Int) : Int :=
  if r = 0 then p else if r = 1 then came.getD p.toNat 0 else if r = 2 then asked.getD p.toNat 0 else - later.getD p.toNat 0
abbrev histO (came asked later : List Int) : Obj := .cells (ints (came ++ (asked ++ later))).toArray 172 (0, 0)
theorem hist_cell {came asked later : List Int} (h1 : came.length = 6) (h2 : asked.length = 6) (h3 : later.length = 6) (p : Int) (h0 : 0 ≤ p) (h6 : p < 6) :
    (ints (came ++ (asked ++ later)))[p.toNat]? = some (.int .i64 (came.getD p.toNat 0)) ∧ (ints (came ++ (asked ++ later)))[6 + p.toNat]? = some (.int .i64 (asked.getD p.toNat 0)) ∧ (ints (came ++ (asked ++ later)))[12 + p.toNat]? = some (.int .i64 (later.getD p.toNat 0)) := by
  have key : ∀ (k : Nat) (xs : List Int), (came ++ (asked ++ later))[k]? = xs[p.toNat]? → k < 18 → (ints (came ++ (asked ++ later)))[k]? = some (.int .i64 (xs.getD p.toNat 0)) := fun k xs he hk => by
    have hl : k < (came ++ (asked ++ later)).length := by simp; omega
    rw [ints_get (List.getElem?_eq_getElem hl)]
    rw [List.getElem?_eq_getElem hl] at he
    simp only [List.getD, ← he, Option.getD_some]
  refine ⟨key _ _ ?_ (by omega), key _ _ ?_ (by omega), key _ _ ?_ (by omega)⟩
  · rw [List.getElem?_append_left (by omega)]
  · rw [List.getElem?_append_right (by omega), List.getElem?_append_left (by omega)]
    congr 1; omega
  · rw [List.getElem?_append_right (by omega), List.getElem?_append_right (by omega)]
    congr 1; omega
theorem quiet_le {P : Program} {main : Md} {H : Hp} {f : FuncId} {args : Array Value} {v : Value} (h : FnX P main f args H fun e H' => e = .returned v ∧ H.le H') : Runs P main (Frame.enter P f args .normal) H fun
      | .returned u, H₁ => u = v ∧ H₁ = H
      | _, _ => False :=
  h.runs.less fun e H₁ he => by obtain ⟨rfl, hl⟩ := he; exact ⟨H, hl, rfl, rfl⟩
theorem low_spec (m : Md) (H : Hp) (p : Int) (h : Value) :
    FnX Tryz.prog m 192 #[.agg #[], .int .i64 p, h] H fun e H' => e = .returned (.int .i64 p) ∧ H.le H' := by
  refine FnX_start Tryz.func192 rfl Tryz.ntmps192 (by simp) ?_
  (refine @Hid.out _ ?_; refine zA trivial ?_; (repeat (refine inC ?_; intro hc)); try (refine inK ?_; intro K hK))
  (intro rb hrb; generalize hG : Hp.set _ rb _ = H1; have lH1 := le_of_set hG hrb; have vrb := at_of_set hG; clear hG)
  ((try (refine @Hid.out _ ?_; refine zX trivial ?_)); (try (refine hK _ _ ?_; clear hK K; (try simp only [nq, ↓reduceIte, Nat.reduceEqDiff]))); refine @Hid.out _ ?_; refine zA trivial ?_; (repeat (refine inC ?_; intro hc)); try (refine inK ?_; intro K hK))
  (refine @Hid.out _ ?_; refine z9 Tryz.results192 ?_)
  exact ⟨by trivial, lH1⟩
theorem old_spec (m : Md) (H : Hp) (p : Int) (hb : Nat) (came asked later : List Int) (h1 : came.length = 6) (h2 : asked.length = 6) (h3 : later.length = 6) (h0 : 0 ≤ p) (h6 : p < 6) (hH : H hb = some (true, histO came asked later)) :
    FnX Tryz.prog m 193 #[.agg #[], .int .i64 p, .pointer (some ⟨hb, 0, none⟩)] H fun e H' => e = .returned (.int .i64 (came.getD p.toNat 0)) ∧ H.le H' := by
  obtain ⟨c1, c2, c3⟩ := hist_cell h1 h2 h3 p h0 h6
  refine FnX_start Tryz.func193 rfl Tryz.ntmps193 (by simp) ?_
  (refine @Hid.out _ ?_; refine zA y193_31 ?_; (repeat (refine inC ?_; intro hc)); try (refine inK ?_; intro K hK))
  (intro rb hrb; generalize hG : Hp.set _ rb _ = H1; have lH1 := le_of_set hG hrb; have vrb := at_of_set hG; clear hG)
  have hH1 := lH1 _ _ hH
  ((try (refine @Hid.out _ ?_; refine zX y193_31 ?_)); (try (refine hK _ _ ?_; clear hK K; (try simp only [nq, ↓reduceIte, Nat.reduceEqDiff]))); refine @Hid.out _ ?_; refine zA y193_31 ?_; (repeat (refine inC ?_; intro hc)); try (refine inK ?_; intro K hK))
  (refine @Hid.out _ ?_; refine z9 Tryz.results193 ?_)
  exact ⟨by trivial, lH1⟩
theorem stale_spec (m : Md) (H : Hp) (p : Int) (hb : Nat) (came asked later : List Int) (h1 : came.length = 6) (h2 : asked.length = 6) (h3 : later.length = 6) (h0 : 0 ≤ p) (h6 : p < 6) (hH : H hb = some (true, histO came asked later)) :
    FnX Tryz.prog m 194 #[.agg #[], .int .i64 p, .pointer (some ⟨hb, 0, none⟩)] H fun e H' => e = .returned (.int .i64 (asked.getD p.toNat 0)) ∧ H.le H' := by
  obtain ⟨c1, c2, c3⟩ := hist_cell h1 h2 h3 p h0 h6
  refine FnX_start Tryz.func194 rfl Tryz.ntmps194 (by simp) ?_
  (refine @Hid.out _ ?_; refine zA y194_31 ?_; (repeat (refine inC ?_; intro hc)); try (refine inK ?_; intro K hK))
  (intro rb hrb; generalize hG : Hp.set _ rb _ = H1; have lH1 := le_of_set hG hrb; have vrb := at_of_set hG; clear hG)
  have hH1 := lH1 _ _ hH
  ((try (refine @Hid.out _ ?_; refine zX y194_31 ?_)); (try (refine hK _ _ ?_; clear hK K; (try simp only [nq, ↓reduceIte, Nat.reduceEqDiff]))); refine @Hid.out _ ?_; refine zA y194_31 ?_; (repeat (refine inC ?_; intro hc)); try (refine inK ?_; intro K hK))
  (refine @Hid.out _ ?_; refine z9 Tryz.results194 ?_)
  exact ⟨by trivial, lH1⟩
theorem late_spec (m : Md) (H : Hp) (p : Int) (hb : Nat) (came asked later : List Int) (h1 : came.length = 6) (h2 : asked.length = 6) (h3 : later.length = 6) (hl : ∀ x ∈ later, 0 ≤ x ∧ x ≤ 1000) (h0 : 0 ≤ p) (h6 : p < 6) (hH : H hb = some (true, histO came asked later)) :
    FnX Tryz.prog m 195 #[.agg #[], .int .i64 p, .pointer (some ⟨hb, 0, none⟩)] H fun e H' => e = .returned (.int .i64 (- later.getD p.toNat 0)) ∧ H.le H' := by
  obtain ⟨c1, c2, c3⟩ := hist_cell h1 h2 h3 p h0 h6
  have hlp : 0 ≤ later.getD p.toNat 0 ∧ later.getD p.toNat 0 ≤ 1000 := by
    simp [List.getD, List.getElem?_eq_getElem (show p.toNat < later.length by omega)]
    exact hl _ (List.getElem_mem _)
  refine FnX_start Tryz.func195 rfl Tryz.ntmps195 (by simp) ?_
  (refine @Hid.out _ ?_; refine zA y195_31 ?_; (repeat (refine inC ?_; intro hc)); try (refine inK ?_; intro K hK))
  (intro rb hrb; generalize hG : Hp.set _ rb _ = H1; have lH1 := le_of_set hG hrb; have vrb := at_of_set hG; clear hG)
  have hH1 := lH1 _ _ hH
  ((try (refine @Hid.out _ ?_; refine zX y195_31 ?_)); (try (refine hK _ _ ?_; clear hK K; (try simp only [nq, ↓reduceIte, Nat.reduceEqDiff]))); refine @Hid.out _ ?_; refine zA y195_31 ?_; (repeat (refine inC ?_; intro hc)); try (refine inK ?_; intro K hK))
  (refine @Hid.out _ ?_; refine z9 Tryz.results195 ?_)
  exact ⟨by simp, lH1⟩
end Go.Proofs.YtofmadjgbcopdaaGreatDoor
end
section
set_option linter.unusedSimpArgs false
set_option maxRecDepth 100000
set_option maxHeartbeats 1000000
set_option linter.unusedVariables false
namespace Go.Proofs.YtofmadjgbcopdaaGreatDoor
open Go Go.X
set_option linter.defProp false
def y130_32 := And.intro (fun H => fieldAt_eq (H := H) Tryz.underlying172 (i := 2) rfl (off := 12) rfl Tryz.sizeOf170) (And.intro (fun H => slice_arr (H := H) Tryz.underlying170 Tryz.sizeOf3) (And.intro (fun H => slice_arr_hi (H := H) Tryz.underlying170 Tryz.sizeOf3) (And.intro (fun H => fieldAt_eq (H := H) Tryz.underlying175 (i := 1) rfl (off := 4) rfl Tryz.sizeOf22) (And.intro (fun H => loadAt_one (H := H) Tryz.underlying22 rfl) (And.intro (fun H => len_slice (H := H) Tryz.underlying22) (And.intro (fun H => indexAt_array (H := H) Tryz.underlying170 Tryz.sizeOf3) (And.intro (fun H => storeAt_int (H := H) Tryz.sizeOf3) (And.intro (fun H => indexAt_slice (H := H) Tryz.underlying22 Tryz.sizeOf3) (fun H => loadAt_one (H := H) Tryz.underlying3 rfl)))))))))
def nxt (ts : List Int) (k : Nat) (p : Int) : Nat := k + (ts.drop k).findIdx (· == p)
theorem nxt_step (ts : List Int) (k : Nat) (p : Int) (h : k < ts.length) : nxt ts k p = if ts[k] = p then k else nxt ts (k + 1) p := by
  unfold nxt
  rw [List.drop_eq_getElem_cons h, List.findIdx_cons]
  by_cases e : ts[k] = p
  · simp [e]
  · have : (ts[k] == p) = false := by simpa using e
    rw [this, if_neg e]
    simp only [cond_false]
    omega
theorem nxt_end (ts : List Int) (p : Int) : nxt ts ts.length p = ts.length := by
  unfold nxt; simp
theorem nxt_le (ts : List Int) (k : Nat) (p : Int) (h : k ≤ ts.length) : nxt ts k p ≤ ts.length := by
  unfold nxt
  have := List.findIdx_le_length (xs := ts.drop k) (p := (· == p))
  simp at this
  omega
def laterL (ts : List Int) (k : Nat) : List Int := (List.range 6).map fun p : Nat => (nxt ts k (p : Int) : Int)
theorem laterL_len (ts : List Int) (k : Nat) : (laterL ts k).length = 6 := by simp [laterL]
theorem laterL_get (ts : List Int) (k : Nat) (p : Int) (h0 : 0 ≤ p) (h6 : p < 6) : (laterL ts k).getD p.toNat 0 = nxt ts k p := by
  have : (p.toNat : Int) = p := by omega
  simp [laterL, List.getD, List.getElem?_map, List.getElem?_range (show p.toNat < 6 by omega), this]
theorem laterL_set (ts : List Int) (k : Nat) (h : k < ts.length) (h0 : 0 ≤ ts[k]) (h6 : ts[k] < 6) : (laterL ts (k + 1)).set (ts[k]).toNat (k : Int) = laterL ts k := by
  apply List.ext_getElem
  · simp [laterL]
  · intro i h1 h2
    simp only [laterL, List.getElem_map, List.getElem_range, List.getElem_set]
    rw [nxt_step ts k _ h]
    by_cases e : (ts[k]).toNat = i
    · rw [if_pos e, if_pos (by omega)]
    · rw [if_neg e, if_neg (by omega)]
theorem hist_set {came asked later : List Int} (h1 : came.length = 6) (h2 : asked.length = 6) (p : Nat) (x : Int) :
    (ints (came ++ (asked ++ later))).set (12 + p) (.int .i64 x) = ints (came ++ (asked ++ later.set p x)) := by
  rw [ints_setL, List.set_append_right _ _ (by omega), List.set_append_right _ _ (by omega)]
  congr 5; omega
theorem hist_set1 {came asked later : List Int} (h1 : came.length = 6) (p : Nat) (hp : p < 6) (x : Int) :
    (ints (came ++ (asked ++ later))).set p (.int .i64 x) = ints (came.set p x ++ (asked ++ later)) := by
  rw [ints_setL, List.set_append_left _ _ (by omega)]
theorem hist_set2 {came asked later : List Int} (h1 : came.length = 6) (h2 : asked.length = 6) (p : Nat) (hp : p < 6) (x : Int) :
    (ints (came ++ (asked ++ later))).set (6 + p) (.int .i64 x) = ints (came ++ (asked.set p x ++ later)) := by
  rw [ints_setL, List.set_append_right _ _ (by omega), List.set_append_left _ _ (by omega)]
  congr 4; omega
theorem hist_len {came asked later : List Int} (h1 : came.length = 6) (h2 : asked.length = 6) (h3 : later.length = 6) : (ints (came ++ (asked ++ later))).length = 18 := by
  simp [ints]; omega
theorem over_hist {came asked later : List Int} (h1 : came.length = 6) (h2 : asked.length = 6) (h3 : later.length = 6) :
    over (ints (came ++ (asked ++ later))).toArray 12 (List.replicate 6 (.int .i64 0)) = (ints (came ++ (asked ++ List.replicate 6 0))).toArray := by
  have hl := hist_len h1 h2 h3
  rw [over_list _ _ _ (by simp [hl])]
  congr 1
  have ht : (came ++ (asked ++ later)).take 12 = came ++ asked := by rw [← List.append_assoc, List.take_left' (by simp; omega)]
  have hd : (came ++ (asked ++ later)).drop (12 + (List.replicate 6 (Value.int .i64 0)).length) = [] := List.drop_of_length_le (by simp; omega)
  unfold ints
  rw [← List.map_take, ← List.map_drop, ht, hd]
  simp
theorem look_spec (main : Md) (H : Hp) (db : Nat) (places pieces : Int) (sv cv tv : Value) (ts : List Int) (mb : Nat) (hdb : H db = some (true, dayO places pieces sv cv tv mb)) (hts : SlI H tv ts) (hb : Nat) (came asked later : List Int) (h1 : came.length = 6) (h2 : asked.length = 6) (h3 : later.length = 6)
    (hhb : H hb = some (true, histO came asked later)) (hne : hb ≠ db) (hl : ts.length ≤ 1000) (h6 : ∀ t ∈ ts, 0 ≤ t ∧ t < 6) (i : Nat) (hi : i < ts.length) :
    FnX Tryz.prog main 130 #[.pointer (some ⟨db, 0, none⟩), .pointer (some ⟨hb, 0, none⟩), .int .i64 i] H fun e H' => e = .returned (.tuple #[]) ∧ H' = H.set hb (histO came asked (laterL ts (i + 1))) := by
  have htsS := hts
  obtain ⟨ta, tc, rfl, htc, _⟩ := hts
  have hne' := hne.symm
  have hlen18 := hist_len h1 h2 h3
  refine FnX_start Tryz.func130 rfl Tryz.ntmps130 (by simp) ?_
  (refine @Hid.out _ ?_; refine zA y130_32 ?_; (repeat (refine inC ?_; intro hc)); try (refine inK ?_; intro K hK))
  refine clear_slice (by kernel_rfl) Tryz.zeroValue3 rfl _ _ _ _ _ _ hhb (by simp [hlen18]) _ _ ?_
  ((try (refine @Hid.out _ ?_; refine zX y130_32 ?_)); (try (refine hK _ _ ?_; clear hK K; (try simp only [nq, ↓reduceIte, Nat.reduceEqDiff]))); refine @Hid.out _ ?_; refine zA y130_32 ?_; (repeat (refine inC ?_; intro hc)); try (refine inK ?_; intro K hK))
  refine wpX_loop (fun w a' H' => ∃ e j L, w = 6 - j ∧ j ≤ 6 ∧ L.length = 6 ∧ (∀ k : Nat, k < j → L[k]? = some (ts.length : Int)) ∧ a' = act 49 e [] ∧ e 0 = .pointer (some ⟨db, 0, none⟩) ∧ e 1 = .pointer (some ⟨hb, 0, none⟩) ∧ e 2 = .int .i64 i ∧ e 12 = .int .i64 (j : Nat) ∧ H' = H.set hb (histO came asked L)) (n := 6) ?_ ?_
  · refine ⟨_, 0, List.replicate 6 0, rfl, by omega, by simp, fun k hk => by omega, rfl, rfl, rfl, rfl, rfl, ?_⟩
    congr 1
    simp only [histO]
    rw [over_hist h1 h2 h3]
  · rintro w a' H' ⟨e, j, L, rfl, hj, hL, hLj, rfl, e0, e1, e2, e12, hH⟩
    have vh : (H.set hb (histO came asked L)) hb = some (true, histO came asked L) := set_at
    have vd : (H.set hb (histO came asked L)) db = some (true, dayO places pieces sv cv (.slice ta ts.length tc) mb) := by rw [set_ne hne.symm]; exact hdb
    rw [hH]; clear hH H'
    have hlen18 := hist_len h1 h2 hL
    by_cases hlt : j < 6
    · (refine @Hid.out _ ?_; refine zA y130_32 ?_; (repeat (refine inC ?_; intro hc)); try (refine inK ?_; intro K hK))
      (refine wpX_dst1 10 [(true, 0), (true, 1), (true, 2), (true, 3), (true, 4), (true, 5), (true, 6), (true, 7), (true, 8), (true, 9), (false, 10)] (by kernel_rfl) (by kernel_rfl) (by simp) (by kernel_rfl) ?_; intro K hK; (iterate 10 (refine @Hid.out _ ?_; refine z3 y130_32 ?_)); refine plan_tail ?_; (refine @Hid.out _ ?_; refine zX y130_32 ?_); try (refine hK _ _ ?_; clear hK K; (try simp only [nq, ↓reduceIte, Nat.reduceEqDiff])))
      (refine @Hid.out _ ?_; refine zA y130_32 ?_; (repeat (refine inC ?_; intro hc)); try (refine inK ?_; intro K hK))
      refine ⟨_, by omega, _, j + 1, L.set j ts.length, rfl, hlt, by simp [hL], ?_, rfl, e0, e1, e2, rfl, ?_⟩
      · intro k hk
        rw [List.getElem?_set]
        split
        · rename_i hjk; subst hjk; rw [if_pos (by omega)]
        · exact hLj k (by omega)
      · rw [hist_set h1 h2]
    · obtain rfl : j = 6 := by omega
      have hLL : L = laterL ts ts.length := by
        apply List.ext_getElem?
        intro k
        by_cases hk : k < 6
        · rw [hLj k hk]
          simp only [laterL, List.getElem?_map, List.getElem?_range hk, Option.map_some, nxt_end]
        · rw [List.getElem?_eq_none (by omega), List.getElem?_eq_none (by rw [laterL_len]; omega)]
      rw [hLL] at vh vd ⊢
      clear hLj hLL hL L hlen18
      (refine @Hid.out _ ?_; refine zA y130_32 ?_; (repeat (refine inC ?_; intro hc)); try (refine inK ?_; intro K hK))
      refine wpX_loop (fun w a' H' => ∃ e k, w = k - (i + 1) ∧ i + 1 ≤ k ∧ k ≤ ts.length ∧ a' = act 49 e [] ∧ e 0 = .pointer (some ⟨db, 0, none⟩) ∧ e 1 = .pointer (some ⟨hb, 0, none⟩) ∧ e 2 = .int .i64 i ∧ e 7 = .int .i64 ((k : Nat) - 1 : Int) ∧ H' = H.set hb (histO came asked (laterL ts k))) (n := ts.length - (i + 1)) ?_ ?_
      · exact ⟨_, ts.length, rfl, by omega, by omega, rfl, e0, e1, e2, rfl, rfl⟩
      · rintro w a' H' ⟨e, k, rfl, hki, hkl, rfl, e0, e1, e2, e7, hH⟩
        have hlen18 := hist_len h1 h2 (laterL_len ts k)
        have hts' : SlI (H.set hb (histO came asked (laterL ts k))) (.slice ta ts.length tc) ts := htsS.set (fun p c fr h => by rw [hhb] at h; cases h)
        have vh : (H.set hb (histO came asked (laterL ts k))) hb = some (true, histO came asked (laterL ts k)) := set_at
        have vd : (H.set hb (histO came asked (laterL ts k))) db = some (true, dayO places pieces sv cv (.slice ta ts.length tc) mb) := by rw [set_ne hne']; exact hdb
        rw [hH]; clear hH H'
        by_cases hlt : i + 1 < k
        · obtain ⟨b, o, cap', p, c, fr, hve, _, hb', hx⟩ := hts'.cons (fun h => absurd (congrArg List.length h) (by simp only [List.length_nil]; omega))
          cases hve
          have hxk := hx (k - 1) (ts[k - 1]'(by omega)) (List.getElem?_eq_getElem (by omega))
          have hset := laterL_set ts (k - 1) (by omega) (h6 _ (List.getElem_mem _)).1 (h6 _ (List.getElem_mem _)).2
          have hbnd := h6 _ (List.getElem_mem (show k - 1 < ts.length by omega))
          have hk1 : k - 1 + 1 = k := by omega
          have hkc : ((k : Int) - 1).toNat = k - 1 := by omega
          have hkc2 : ((k - 1 : Nat) : Int) = (k : Int) - 1 := by omega
          rw [hk1, hkc2] at hset
          generalize ts[k - 1]'(by omega) = t at hxk hset hbnd
          generalize hGG : H.set hb (histO came asked (laterL ts k)) = HH at *
          (refine @Hid.out _ ?_; refine zA y130_32 ?_; (repeat (refine inC ?_; intro hc)); try (refine inK ?_; intro K hK))
          (refine wpX_dst1 12 [(true, 0), (true, 1), (true, 2), (true, 3), (true, 4), (true, 5), (true, 6), (true, 7), (true, 8), (true, 9), (true, 10), (true, 11), (false, 12)] (by kernel_rfl) (by kernel_rfl) (by simp) (by kernel_rfl) ?_; intro K hK; (iterate 12 (refine @Hid.out _ ?_; refine z3 y130_32 ?_)); refine plan_tail ?_; (refine @Hid.out _ ?_; refine zX y130_32 ?_); try (refine hK _ _ ?_; clear hK K; (try simp only [nq, ↓reduceIte, Nat.reduceEqDiff])))
          (refine @Hid.out _ ?_; refine zA y130_32 ?_; (repeat (refine inC ?_; intro hc)); try (refine inK ?_; intro K hK))
          refine ⟨_, ?_, _, k - 1, rfl, by omega, by omega, rfl, e0, e1, e2, ?_, ?_⟩
          · omega
          · show Value.int .i64 _ = Value.int .i64 _
            congr 1; omega
          · rw [← hGG, set_set, hist_set h1 h2, hset]
        · obtain rfl : k = i + 1 := by omega
          (refine @Hid.out _ ?_; refine zA y130_32 ?_; (repeat (refine inC ?_; intro hc)); try (refine inK ?_; intro K hK))
          (refine @Hid.out _ ?_; refine zD Tryz.results130 ?_)
          exact ⟨rfl, rfl⟩
end Go.Proofs.YtofmadjgbcopdaaGreatDoor
end
section
set_option linter.unusedSimpArgs false
set_option maxRecDepth 100000
set_option maxHeartbeats 1000000
set_option linter.unusedVariables false
namespace Go.X
open Go
theorem yielded_list {ops : List Oper} {tmps : Array Value} {j : Nat} : yielded ops.toArray tmps j = ylK (((ops[j]?).bind (·.dst)).bind (tmps[·]?)) := by
  unfold yielded ylK
  simp only [List.getElem?_toArray]
  rfl
end Go.X
namespace Go.Proofs.YtofmadjgbcopdaaGreatDoor
open Go Go.X
set_option linter.defProp false
def y86_33 := And.intro (fun H => ex_alloc (H := H) (P := Tryz.prog) (h := Tryz.zeroValue107)) (And.intro (fun H => ex_alloc (H := H) (P := Tryz.prog) (h := Tryz.zeroValue172)) (And.intro (fun H => fieldAt_eq (H := H) Tryz.underlying175 (i := 0) rfl (off := 0) rfl Tryz.sizeOf25) (And.intro (fun H => fieldAt_eq (H := H) Tryz.underlying25 (i := 2) rfl (off := 2) rfl Tryz.sizeOf22) (And.intro (fun H => loadAt_one (H := H) Tryz.underlying22 rfl) (And.intro (fun H => len_slice (H := H) Tryz.underlying22) (And.intro (fun H => indexAt_slice (H := H) Tryz.underlying22 Tryz.sizeOf3) (And.intro (fun H => loadAt_one (H := H) Tryz.underlying3 rfl) (And.intro (fun H => fieldAt_eq (H := H) Tryz.underlying172 (i := 0) rfl (off := 0) rfl Tryz.sizeOf170) (And.intro (fun H => indexAt_array (H := H) Tryz.underlying170 Tryz.sizeOf3) (And.intro (fun H => storeAt_int (H := H) Tryz.sizeOf3) (And.intro (fun H => fieldAt_eq (H := H) Tryz.underlying172 (i := 1) rfl (off := 6) rfl Tryz.sizeOf170) (And.intro @callF128 (And.intro (fun H => ex_alloc (H := H) (P := Tryz.prog) (h := Tryz.zeroValue178)) (And.intro (fun H => storeAt_agg (H := H) Tryz.sizeOf178) (And.intro (fun H => fieldAt_eq (H := H) Tryz.underlying175 (i := 1) rfl (off := 4) rfl Tryz.sizeOf22) (And.intro (fun H => indexAt_array (H := H) Tryz.underlying107 Tryz.sizeOf3) (And.intro (fun H => loadAt_aggE (H := H) Tryz.underlying178 rfl Tryz.sizeOf178) (And.intro @callF129 (And.intro (fun H st => assert_ok (H := H) (st := st) Tryz.underlying169 rfl Tryz.zeroValue169) (And.intro (fun H => ex_alloc (H := H) (P := Tryz.prog) (h := Tryz.zeroValue169)) (And.intro (fun H => storeAt_agg (H := H) Tryz.sizeOf169) (And.intro @callF130 (And.intro (fun H => fieldAt_eq (H := H) Tryz.underlying178 (i := 1) rfl (off := 1) rfl Tryz.sizeOf176) (And.intro (fun H => loadAt_one (H := H) Tryz.underlying176 rfl) (And.intro @callF131 (And.intro @meth_vault_low (And.intro @nilm_vault_low (And.intro @callF192 (And.intro @meth_vault_old (And.intro @nilm_vault_old (And.intro @callF193 (And.intro @meth_vault_stale (And.intro @nilm_vault_stale (And.intro @callF194 (And.intro @meth_vault_late (And.intro @nilm_vault_late (And.intro @callF195 (And.intro @bld_186__0 (And.intro (fun H => makeI (H := H) Tryz.underlying186 rfl) (And.intro @callF132 (And.intro (fun H => loadAt_aggE (H := H) Tryz.underlying107 rfl Tryz.sizeOf107) (fun H => storeAt_agg (H := H) Tryz.sizeOf107))))))))))))))))))))))))))))))))))))))))))
theorem z0_33 {p q : Prop} (g : q) (h : Hid q → p := by
  intro g
  repeat' (first
  | (refine wpX_stmtL rfl ?_; intro Kz hKz; simp -implicitDefEqProofs (disch := first | omega | (simp only [qd] <;> omega)) only [xq, ↓xp, qc, Nat.reduceAdd, List.range, List.range.loop, fine, Nat.reduceEqDiff, ↓reduceIte, yielded, reduceCtorEq, Nat.reduceLT, Nat.reduceMul, Nat.reduceSub, one, Nat.reduceLeDiff, runX_cons, y86_33, ↓ex_invoke, aq, ↓ap, qe0, qe1, qe2, *, -g, -hKz, assert_rule _ _ hr0 hr3]; try (refine hKz _ _ ?_; clear hKz Kz))
  | (refine wpX_lastL rfl ?_; intro Kz hKz; simp -implicitDefEqProofs (disch := first | omega | (simp only [qd] <;> omega)) only [xq, ↓xp, qc, Nat.reduceAdd, List.range, List.range.loop, fine, Nat.reduceEqDiff, ↓reduceIte, yielded, reduceCtorEq, Nat.reduceLT, Nat.reduceMul, Nat.reduceSub, one, Nat.reduceLeDiff, runX_cons, y86_33, ↓ex_invoke, aq, ↓ap, qe0, qe1, qe2, *, -g, -hKz, assert_rule _ _ hr0 hr3]; try (refine hKz _ _ ?_; clear hKz Kz; (try simp only [nq, ↓reduceIte, Nat.reduceEqDiff])))
  | (refine wpX_skip ?_; (try simp only [nq, ↓reduceIte, Nat.reduceEqDiff]))
  | (refine wpX_label ?_; (try simp only [nq, ↓reduceIte, Nat.reduceEqDiff]))
  | (refine wpX_exit ?_; (try simp only [nq, ↓reduceIte, Nat.reduceEqDiff]))
  | (refine wpX_goto ?_; (try simp only [nq, ↓reduceIte, Nat.reduceEqDiff]))
  | (refine wpX_condK (by simp only [act_eval, upd_get, Nat.reduceEqDiff, Nat.reduceLT, ↓reduceIte, *, -g]; rfl) ?_ ?_ <;> (intro hcz; first | (exfalso; simp -implicitDefEqProofs (disch := omega) only [*, -g, bq, reduceCtorEq] at hcz; done) | (simp only [dq, qe3, qe4, qe5, qe6] at hcz) | skip))
  | (refine wpX_scope0 ?_)
  | (refine wpX_block ?_)
  | (refine wpX_seq ?_))
  (try (revert Kz; refine unK ?_)); (repeat (revert hcz; refine unC ?_))
  exact Hid.out g) : Hid p := ⟨h ⟨g⟩⟩
theorem x1_33 {p q : Prop} (g : q) (h : Hid q → p := by
  intro g
  simp -implicitDefEqProofs (disch := first | omega | (simp only [qd] <;> omega)) only [xq, ↓xp, qc, Nat.reduceAdd, List.range, List.range.loop, fine, Nat.reduceEqDiff, ↓reduceIte, yielded, reduceCtorEq, Nat.reduceLT, Nat.reduceMul, Nat.reduceSub, one, Nat.reduceLeDiff, runX_cons, y86_33, ↓ex_invoke, aq, ↓ap, qe0, qe1, qe2, *, -g, -hK, assert_rule _ _ hr0 hr3]
  exact Hid.out g) : Hid p := ⟨h ⟨g⟩⟩
theorem z2_33 {p q : Prop} (g : q) (h : Hid q → p := by
  intro g
  repeat' (first
  | (refine wpX_stmtL rfl ?_; intro Kz hKz; simp -implicitDefEqProofs (disch := first | omega | (simp only [qd] <;> omega)) only [xq, ↓xp, qc, Nat.reduceAdd, List.range, List.range.loop, fine, Nat.reduceEqDiff, ↓reduceIte, yielded, reduceCtorEq, Nat.reduceLT, Nat.reduceMul, Nat.reduceSub, one, Nat.reduceLeDiff, runX_cons, y86_33, ↓ex_invoke, aq, ↓ap, qe0, qe1, qe2, *, -g, -hKz, storL_at hne0 vcb6]; try (refine hKz _ _ ?_; clear hKz Kz))
  | (refine wpX_lastL rfl ?_; intro Kz hKz; simp -implicitDefEqProofs (disch := first | omega | (simp only [qd] <;> omega)) only [xq, ↓xp, qc, Nat.reduceAdd, List.range, List.range.loop, fine, Nat.reduceEqDiff, ↓reduceIte, yielded, reduceCtorEq, Nat.reduceLT, Nat.reduceMul, Nat.reduceSub, one, Nat.reduceLeDiff, runX_cons, y86_33, ↓ex_invoke, aq, ↓ap, qe0, qe1, qe2, *, -g, -hKz, storL_at hne0 vcb6]; try (refine hKz _ _ ?_; clear hKz Kz; (try simp only [nq, ↓reduceIte, Nat.reduceEqDiff])))
  | (refine wpX_skip ?_; (try simp only [nq, ↓reduceIte, Nat.reduceEqDiff]))
  | (refine wpX_label ?_; (try simp only [nq, ↓reduceIte, Nat.reduceEqDiff]))
  | (refine wpX_exit ?_; (try simp only [nq, ↓reduceIte, Nat.reduceEqDiff]))
  | (refine wpX_goto ?_; (try simp only [nq, ↓reduceIte, Nat.reduceEqDiff]))
  | (refine wpX_condK (by simp only [act_eval, upd_get, Nat.reduceEqDiff, Nat.reduceLT, ↓reduceIte, *, -g]; rfl) ?_ ?_ <;> (intro hcz; first | (exfalso; simp -implicitDefEqProofs (disch := omega) only [*, -g, bq, reduceCtorEq] at hcz; done) | (simp only [dq, qe3, qe4, qe5, qe6] at hcz) | skip))
  | (refine wpX_scope0 ?_)
  | (refine wpX_block ?_)
  | (refine wpX_seq ?_))
  (try (revert Kz; refine unK ?_)); (repeat (revert hcz; refine unC ?_))
  exact Hid.out g) : Hid p := ⟨h ⟨g⟩⟩
theorem rank_yields (main : Md) (H : Hp) (r : Int) (p : Int) (hb : Nat) (came asked later : List Int) (h1 : came.length = 6) (h2 : asked.length = 6) (h3 : later.length = 6) (hl : ∀ x ∈ later, 0 ≤ x ∧ x ≤ 1000) (h0 : 0 ≤ p) (h6 : p < 6) (hH : H hb = some (true, histO came asked later))
    (hr0 : 0 ≤ r) (hr3 : r ≤ 3) : methK Tryz.prog (ruleV r) "gladstone/vault.rank" #[.int .i64 p, .pointer (some ⟨hb, 0, none⟩)] H (YN Tryz.prog main (.int .i64 (rankF r came asked later p)) H) fun _ _ => False := by
  have hcase : r = 0 ∨ r = 1 ∨ r = 2 ∨ r = 3 := by omega
  rcases hcase with rfl | rfl | rfl | rfl
  · show methK Tryz.prog (.iface 166 (.agg #[])) _ _ _ _ _
    rw [meth_vault_low, callF192, YN_enter]
    exact quiet_le (low_spec main H p _)
  · show methK Tryz.prog (.iface 167 (.agg #[])) _ _ _ _ _
    rw [meth_vault_old, callF193, YN_enter]
    exact quiet_le (old_spec main H p hb came asked later h1 h2 h3 h0 h6 hH)
  · show methK Tryz.prog (.iface 168 (.agg #[])) _ _ _ _ _
    rw [meth_vault_stale, callF194, YN_enter]
    exact quiet_le (stale_spec main H p hb came asked later h1 h2 h3 h0 h6 hH)
  · show methK Tryz.prog (.iface 169 (.agg #[])) _ _ _ _ _
    rw [meth_vault_late, callF195, YN_enter]
    exact quiet_le (late_spec main H p hb came asked later h1 h2 h3 hl h0 h6 hH)
theorem nil_rule (H : Hp) (r : Int) (K : Next → Hp → Prop) (E : Value → Hp → Prop) : nilK Tryz.prog (.func (.method "gladstone/vault.rank") #[ruleV r] #[]) H K E = K (.value (.func (.method "gladstone/vault.rank") #[ruleV r] #[])) H := by
  unfold ruleV
  split
  · exact nilm_vault_low K E _
  · split
    · exact nilm_vault_old K E _
    · split
      · exact nilm_vault_stale K E _
      · exact nilm_vault_late K E _
theorem assert_rule (H : Hp) (r : Int) (hr0 : 0 ≤ r) (hr3 : r ≤ 3) (st : TypeId) (K : Value → Hp → Prop) (E : Value → Hp → Prop) : wpS Tryz.prog (Instr.typeAssert (ruleV r) st 169 true) H K E = K (.tuple #[.agg #[], .bool (decide (r = 3))]) H := by
  unfold ruleV
  rw [assert_ok Tryz.underlying169 rfl Tryz.zeroValue169]
  have hcase : r = 0 ∨ r = 1 ∨ r = 2 ∨ r = 3 := by omega
  rcases hcase with rfl | rfl | rfl | rfl <;> rfl
structure RS where
  m : Nat
  came : List Int
  asked : List Int
  later : List Int
  cl : List Int
  f : Nat
def pickF (rk : Int → Int) (l : List Int) : Int := l.foldl (fun c q => if c < 0 ∨ rk q < rk c then q else c) (-1)
def sendB (pl : Int) (m : Nat) (t : Int) : Bool := !m.testBit t.toNat && decide (pl ≤ oCount m)
def rsent (pl r : Int) (ts : List Int) (i : Nat) (t : Int) (s : RS) : Int :=
  if sendB pl s.m t then pickF (rankF r s.came s.asked (if r = 3 then laterL ts (i + 1) else s.later)) (oList s.m) else -1
def rstep (pl r : Int) (ts : List Int) (i : Nat) (t : Int) (s : RS) : RS :=
  { m := oNext s.m (rsent pl r ts i t s) t
    came := if s.m.testBit t.toNat then s.came else s.came.set t.toNat i
    asked := s.asked.set t.toNat i
    later := if r = 3 ∧ sendB pl s.m t then laterL ts (i + 1) else s.later
    cl := s.cl.set i (rsent pl r ts i t s)
    f := s.f + if s.m.testBit t.toNat then 0 else 1 }
def rrun (pl r : Int) (ts : List Int) (s : RS) : Nat → RS
  | 0 => s
  | i + 1 => rstep pl r ts i (ts.getD i 0) (rrun pl r ts s i)
def initL (start : List Int) : Nat → List Int
  | 0 => List.replicate 6 0
  | j + 1 => (initL start j).set (start.getD j 0).toNat ((j : Int) - start.length)
theorem initL_len (start : List Int) : ∀ j, (initL start j).length = 6
  | 0 => by simp [initL]
  | j + 1 => by simp [initL, initL_len start j]
def rs0 (start : List Int) : RS := ⟨oOf start, initL start start.length, initL start start.length, List.replicate 6 0, List.replicate 8 0, 0⟩
structure RSOk (s : RS) (i : Nat) : Prop where
  m : s.m < 64
  came : s.came.length = 6
  asked : s.asked.length = 6
  later : s.later.length = 6
  bnd : ∀ x ∈ s.later, 0 ≤ x ∧ x ≤ 1000
  cl : s.cl.length = 8
  f : s.f ≤ i
theorem foldl_pick_mem (rk : Int → Int) : ∀ (l : List Int) (c : Int), l.foldl (fun c q => if c < 0 ∨ rk q < rk c then q else c) c = c ∨ l.foldl (fun c q => if c < 0 ∨ rk q < rk c then q else c) c ∈ l
  | [], c => .inl rfl
  | x :: l, c => by
    simp only [List.foldl_cons]
    split
    · rcases foldl_pick_mem rk l x with h | h
      · rw [h]; exact .inr List.mem_cons_self
      · exact .inr (List.mem_cons_of_mem _ h)
    · rcases foldl_pick_mem rk l c with h | h
      · exact .inl h
      · exact .inr (List.mem_cons_of_mem _ h)
theorem pickF_lt (rk : Int → Int) (m : Nat) : pickF rk (oList m) < 6 := by
  rcases foldl_pick_mem rk (oList m) (-1) with h | h
  · unfold pickF; rw [h]; omega
  · exact (oList_mem h).2.1
theorem laterL_bnd (ts : List Int) (k : Nat) (hk : k ≤ ts.length) (hl : ts.length ≤ 1000) : ∀ x ∈ laterL ts k, 0 ≤ x ∧ x ≤ 1000 := by
  intro x hx
  simp only [laterL, List.mem_map] at hx
  obtain ⟨p, _, rfl⟩ := hx
  have := nxt_le ts k p hk
  omega
theorem RSOk.step {s : RS} {i : Nat} (h : RSOk s i) (pl r : Int) (ts : List Int) (t : Int) (hi : i < ts.length) (hl : ts.length ≤ 1000) (h0 : 0 ≤ t) (h6 : t < 6) : RSOk (rstep pl r ts i t s) (i + 1) := by
  refine ⟨?_, ?_, ?_, ?_, ?_, ?_, ?_⟩
  · refine oNext_lt h.m ?_ h0 h6
    unfold rsent
    split
    · exact pickF_lt _ _
    · omega
  · simp only [rstep]; split <;> simp [h.came]
  · simp only [rstep]; simp [h.asked]
  · simp only [rstep]; split
    · exact laterL_len _ _
    · exact h.later
  · simp only [rstep]; split
    · exact laterL_bnd ts _ (by omega) hl
    · exact h.bnd
  · simp only [rstep]; simp [h.cl]
  · simp only [rstep]; have := h.f; split <;> omega
abbrev choiceO (cl : List Int) : Obj := .cells (ints cl).toArray 107 (0, 0)
abbrev spotO (c m : Nat) : Obj := .cells #[.int .i64 c, .int .u8 m] 178 (0, 0)
structure RunM (H0 H : Hp) (cb hb sb db : Nat) (dO : Obj) (tv : Value) (ts : List Int) (i : Nat) (cl came asked later : List Int) (m : Nat) : Prop where
  c : H cb = some (true, choiceO cl)
  h : H hb = some (true, histO came asked later)
  s : H sb = some (true, spotO i m)
  d : H db = some (true, dO)
  t : SlI H tv ts
  l : Lex none H0 H
structure RunE (e : Nat → Value) (cb hb sb db : Nat) (r : Int) (ta : Option Addr) (n tc : Nat) (f i : Nat) : Prop where
  e0 : e 0 = .pointer (some ⟨db, 0, none⟩)
  e1 : e 1 = ruleV r
  e2 : e 2 = .int .i64 n
  e6 : e 6 = .pointer (some ⟨cb, 0, none⟩)
  e7 : e 7 = .int .i64 f
  e8 : e 8 = .pointer (some ⟨hb, 0, none⟩)
  e11 : e 11 = .pointer (some ⟨sb, 0, none⟩)
  e59 : e 59 = .slice ta n tc
  e60 : e 60 = .int .i64 n
  e61 : e 61 = .int .i64 i
theorem RunM.le {H0 H H' : Hp} {cb hb sb db : Nat} {dO : Obj} {tv : Value} {ts : List Int} {i : Nat} {cl came asked later : List Int} {m : Nat} (h : RunM H0 H cb hb sb db dO tv ts i cl came asked later m) (hl : H.le H') : RunM H0 H' cb hb sb db dO tv ts i cl came asked later m :=
  ⟨hl _ _ h.c, hl _ _ h.h, hl _ _ h.s, hl _ _ h.d, h.t.le hl, h.l.le hl⟩
theorem RunM.setC {H0 H : Hp} {cb hb sb db : Nat} {dO : Obj} {tv : Value} {ts : List Int} {i : Nat} {cl came asked later : List Int} {m : Nat} (h : RunM H0 H cb hb sb db dO tv ts i cl came asked later m) (h0 : H0 cb = none) (n1 : hb ≠ cb) (n2 : sb ≠ cb) (n3 : db ≠ cb) (cl' : List Int) :
    RunM H0 (H.set cb (choiceO cl')) cb hb sb db dO tv ts i cl' came asked later m :=
  ⟨set_at, by rw [set_ne n1]; exact h.h, by rw [set_ne n2]; exact h.s, by rw [set_ne n3]; exact h.d, h.t.set (fun p c fr e => by rw [h.c] at e; cases e), h.l.own h0⟩
theorem RunM.setH {H0 H : Hp} {cb hb sb db : Nat} {dO : Obj} {tv : Value} {ts : List Int} {i : Nat} {cl came asked later : List Int} {m : Nat} (h : RunM H0 H cb hb sb db dO tv ts i cl came asked later m) (h0 : H0 hb = none) (n1 : cb ≠ hb) (n2 : sb ≠ hb) (n3 : db ≠ hb) (came' asked' later' : List Int) :
    RunM H0 (H.set hb (histO came' asked' later')) cb hb sb db dO tv ts i cl came' asked' later' m :=
  ⟨by rw [set_ne n1]; exact h.c, set_at, by rw [set_ne n2]; exact h.s, by rw [set_ne n3]; exact h.d, h.t.set (fun p c fr e => by rw [h.h] at e; cases e), h.l.own h0⟩
theorem RunM.setS {H0 H : Hp} {cb hb sb db : Nat} {dO : Obj} {tv : Value} {ts : List Int} {i : Nat} {cl came asked later : List Int} {m : Nat} (h : RunM H0 H cb hb sb db dO tv ts i cl came asked later m) (h0 : H0 sb = none) (n1 : cb ≠ sb) (n2 : hb ≠ sb) (n3 : db ≠ sb) (i' m' : Nat) :
    RunM H0 (H.set sb (spotO i' m')) cb hb sb db dO tv ts i' cl came asked later m' :=
  ⟨by rw [set_ne n1]; exact h.c, by rw [set_ne n2]; exact h.h, set_at, by rw [set_ne n3]; exact h.d, h.t.set (fun p c fr e => by rw [h.s] at e; cases e), h.l.own h0⟩
theorem run_spec (main : Md) (H : Hp) (db : Nat) (places pieces : Int) (sv cv tv : Value) (ts : List Int) (mb : Nat) (hdb : H db = some (true, dayO places pieces sv cv tv mb)) (hts : SlI H tv ts) (start : List Int) (hst : SlI H sv start) (hs6 : ∀ t ∈ start, 0 ≤ t ∧ t < 6) (hsl : start.length ≤ 1000)
    (hl : ts.length ≤ 8) (h6 : ∀ t ∈ ts, 0 ≤ t ∧ t < 6) (r : Int) (hr0 : 0 ≤ r) (hr3 : r ≤ 3) :
    FnX Tryz.prog main 86 #[.pointer (some ⟨db, 0, none⟩), ruleV r, .int .i64 ts.length] H fun e H' => e = .returned (.tuple #[.agg (ints (rrun places r ts (rs0 start) ts.length).cl).toArray, .int .i64 (rrun places r ts (rs0 start) ts.length).f]) ∧ H.le H' := by
  have htsS := hts
  have hstS := hst
  obtain ⟨ta, tc, rfl, htc, _⟩ := hts
  obtain ⟨sa, sc, rfl, hsc, _⟩ := hst
  refine FnX_start Tryz.func86 rfl Tryz.ntmps86 (by simp) ?_
  (refine @Hid.out _ ?_; refine zAi y86_33 ?_; (repeat (refine inC ?_; intro hc)); try (refine inK ?_; intro K hK))
  (intro cb hcb; generalize hG : Hp.set _ cb _ = H1; have lH1 := le_of_set hG hcb; have vcb := at_of_set hG; clear hG)
  have vdb1 := lH1 _ _ hdb
  have hts1 := htsS.le lH1
  have hst1 := hstS.le lH1
  ((try (refine @Hid.out _ ?_; refine zXi y86_33 ?_)); (try (refine hK _ _ ?_; clear hK K; (try simp only [nq, ↓reduceIte, Nat.reduceEqDiff]))); refine @Hid.out _ ?_; refine zAi y86_33 ?_; (repeat (refine inC ?_; intro hc)); try (refine inK ?_; intro K hK))
  (intro hb hhb; generalize hG : Hp.set _ hb _ = H2; have lH2 := le_of_set hG hhb; have vhb := at_of_set hG; clear hG)
  have vdb2 := lH2 _ _ vdb1
  have vcb2 := lH2 _ _ vcb
  have hts2 := hts1.le lH2
  have hst2 := hst1.le lH2
  have ncb : cb ≠ hb := ne_new vcb hhb
  have ncb' := ncb.symm
  have nhd : db ≠ hb := ne_new vdb1 hhb
  have nhd' := nhd.symm
  have ncd : db ≠ cb := ne_new hdb hcb
  have ncd' := ncd.symm
  have lH12 := Hp.le_trans lH1 lH2
  clear hdb htsS hstS vdb1 hts1 hst1
  ((try (refine @Hid.out _ ?_; refine zXi y86_33 ?_)); (try (refine hK _ _ ?_; clear hK K; (try simp only [nq, ↓reduceIte, Nat.reduceEqDiff]))); refine @Hid.out _ ?_; refine zAi y86_33 ?_; (repeat (refine inC ?_; intro hc)); try (refine inK ?_; intro K hK))
  refine wpX_loop (fun w a' H' => ∃ e j, w = start.length - j ∧ j ≤ start.length ∧ a' = act 142 e [] ∧ e 0 = .pointer (some ⟨db, 0, none⟩) ∧ e 1 = ruleV r ∧ e 2 = .int .i64 ts.length ∧ e 6 = .pointer (some ⟨cb, 0, none⟩) ∧ e 7 = .int .i64 0 ∧ e 8 = .pointer (some ⟨hb, 0, none⟩) ∧ e 24 = .slice sa start.length sc ∧ e 25 = .int .i64 start.length ∧ e 26 = .int .i64 (j : Nat) ∧
    H' = H2.set hb (histO (initL start j) (initL start j) (List.replicate 6 0))) (n := start.length) ?_ ?_
  · refine ⟨_, 0, by omega, by omega, rfl, rfl, rfl, rfl, rfl, rfl, rfl, rfl, rfl, rfl, ?_⟩
    exact (set_self vhb).symm
  · rintro w a' H' ⟨e, j, rfl, hj, rfl, e0, e1, e2, e6, e7, e8, e24, e25, e26, hH⟩
    generalize hG : H2.set hb (histO (initL start j) (initL start j) (List.replicate 6 0)) = H3 at hH
    have vhb3 := at_of_set hG
    have vdb3 := other_of_set hG vdb2 nhd
    have vcb3 := other_of_set hG vcb2 ncb
    have hst3 : SlI H3 (.slice sa start.length sc) start := by rw [← hG]; exact hst2.set (fun p c fr h => by rw [vhb] at h; cases h)
    rw [hH]; clear hH H'
    by_cases hlt : j < start.length
    · obtain ⟨b, o, cap', p, c, fr, hve, _, hb', hx⟩ := hst3.cons (fun h => absurd (congrArg List.length h) (by simp only [List.length_nil]; omega))
      cases hve
      have hxj := hx j start[j] (List.getElem?_eq_getElem hlt)
      have hbx := hs6 _ (List.getElem_mem hlt)
      have hini : initL start (j + 1) = (initL start j).set (start[j]).toNat ((j : Int) - start.length) := by simp [initL, List.getD, List.getElem?_eq_getElem hlt]
      have hil := initL_len start j
      generalize start[j] = x at hxj hbx hini
      have hlen18 := hist_len hil hil (show (List.replicate 6 (0 : Int)).length = 6 by simp)
      (refine @Hid.out _ ?_; refine zAi y86_33 ?_; (repeat (refine inC ?_; intro hc)); try (refine inK ?_; intro K hK))
      refine wpX_dlast (fun HX => HX db = some (true, dayO places pieces (.slice (some ⟨b, o, none⟩) start.length sc) cv (.slice ta ts.length tc) mb)) 24 [(true, 0), (true, 1), (true, 2), (true, 3), (true, 4), (true, 5), (true, 6), (true, 7), (true, 8), (true, 9), (true, 10), (true, 11), (true, 12), (true, 13), (true, 14), (true, 15), (true, 16), (true, 17), (true, 18), (true, 19), (true, 21), (false, 20), (true, 22), (false, 23)] (by kernel_rfl) (by kernel_rfl) (by simp) (by kernel_rfl) ?_; intro K hK
      have hdbS := vdb3
      (iterate 21 (refine @Hid.out _ ?_; refine z5i y86_33 ?_))
      refine planX_act ?_
      (refine @Hid.out _ ?_; refine zXi y86_33 ?_)
      refine ⟨.inr trivial, ?_⟩
      generalize hG4 : Hp.set H3 hb _ = H4
      have vhb4 := at_of_set hG4
      have vdb4 := other_of_set hG4 vdb3 nhd
      (refine @Hid.out _ ?_; refine z5i y86_33 ?_)
      refine planX_act ?_
      have hlen18' : ((ints (initL start j ++ (initL start j ++ List.replicate 6 0))).set x.toNat (Value.int .i64 ((j : Int) - start.length))).length = 18 := by rw [List.length_set]; exact hlen18
      (refine @Hid.out _ ?_; refine zXi y86_33 ?_)
      refine ⟨.inr trivial, plan_nil (hK _ _ ?_)⟩
      clear hK K
      (try simp only [nq, ↓reduceIte, Nat.reduceEqDiff])
      (refine @Hid.out _ ?_; refine zAi y86_33 ?_; (repeat (refine inC ?_; intro hc)); try (refine inK ?_; intro K hK))
      refine ⟨_, by omega, _, j + 1, rfl, hlt, rfl, e0, e1, e2, e6, e7, e8, e24, e25, rfl, ?_⟩
      rw [← hG4, ← hG, set_set, set_set, hist_set1 hil _ (by omega), hist_set2 (by rw [List.length_set]; exact hil) hil _ (by omega), ← hini]
    · obtain rfl : j = start.length := by omega
      have vdb3' := vdb3
      have hts3 : SlI H3 (.slice ta ts.length tc) ts := by rw [← hG]; exact hts2.set (fun p c fr h => by rw [vhb] at h; cases h)
      have lH3 : Lex none H H3 := by rw [← hG]; exact ((Lex.of lH12).own (Hp.le_none lH1 hhb))
      have hil := initL_len start start.length
      clear hG
      (refine @Hid.out _ ?_; refine zAi y86_33 ?_; (repeat (refine inC ?_; intro hc)); try (refine inK ?_; intro K hK))
      refine (first_spec main H3 db places pieces _ cv _ start mb vdb3 hst3 hs6 (by omega)).runs.mono ?_
      rintro _ H4 ⟨rfl, lH4⟩
      have vdb4 := lH4 _ _ vdb3
      have vcb4 := lH4 _ _ vcb3
      have vhb4 := lH4 _ _ vhb3
      have hts4 := hts3.le lH4
      clear hst3 hts3 vdb3 vcb3 vhb3 vdb3'
      ((try (refine @Hid.out _ ?_; refine zXi y86_33 ?_)); (try (refine hK _ _ ?_; clear hK K; (try simp only [nq, ↓reduceIte, Nat.reduceEqDiff]))); refine @Hid.out _ ?_; refine zAi y86_33 ?_; (repeat (refine inC ?_; intro hc)); try (refine inK ?_; intro K hK))
      (intro sb hsb; generalize hG : Hp.set _ sb _ = H5; have lH5 := le_of_set hG hsb; have vsb := at_of_set hG; clear hG)
      have vdb5 := lH5 _ _ vdb4
      have vcb5 := lH5 _ _ vcb4
      have vhb5 := lH5 _ _ vhb4
      have hts5 := hts4.le lH5
      have nsd : sb ≠ db := (ne_new vdb4 hsb).symm
      have nsc : sb ≠ cb := (ne_new vcb4 hsb).symm
      have nsh : sb ≠ hb := (ne_new vhb4 hsb).symm
      have nsd' := nsd.symm
      have nsc' := nsc.symm
      have nsh' := nsh.symm
      ((try (refine @Hid.out _ ?_; refine zXi y86_33 ?_)); (try (refine hK _ _ ?_; clear hK K; (try simp only [nq, ↓reduceIte, Nat.reduceEqDiff]))); refine @Hid.out _ ?_; refine zAi y86_33 ?_; (repeat (refine inC ?_; intro hc)); try (refine inK ?_; intro K hK))
      have h0c : H cb = none := hcb
      have h0h : H hb = none := Hp.le_none lH1 hhb
      have h0s : H sb = none := lH3.gone (Hp.le_none lH4 hsb)
      have hM0 : RunM H H5 cb hb sb db (dayO places pieces (.slice sa start.length sc) cv (.slice ta ts.length tc) mb) (.slice ta ts.length tc) ts 0 (rs0 start).cl (rs0 start).came (rs0 start).asked (rs0 start).later (rs0 start).m :=
        ⟨vcb5, vhb5, vsb, vdb5, hts5, (lH3.le lH4).le lH5⟩
      have hO0 : RSOk (rs0 start) 0 := ⟨oOf_lt start 0 (by omega) fun x hx => ⟨(hs6 x hx).1, (hs6 x hx).2⟩, hil, hil, by simp [rs0], fun x hx => by simp [rs0] at hx; omega, by simp [rs0], by simp [rs0]⟩
      clear vcb5 vhb5 vsb vdb5 hts5 lH5 hhb hcb hsb vhb4 vcb4 vdb4 hts4 lH4 lH3 vdb2 vcb2 hts2 hst2 lH1 lH2 lH12 vhb vcb hil
      refine wpX_loop (fun w a' H' => ∃ e i, w = ts.length - i ∧ i ≤ ts.length ∧ a' = act 142 e [] ∧ RSOk (rrun places r ts (rs0 start) i) i ∧ RunE e cb hb sb db r ta ts.length tc (rrun places r ts (rs0 start) i).f i ∧
        RunM H H' cb hb sb db (dayO places pieces (.slice sa start.length sc) cv (.slice ta ts.length tc) mb) (.slice ta ts.length tc) ts i (rrun places r ts (rs0 start) i).cl (rrun places r ts (rs0 start) i).came (rrun places r ts (rs0 start) i).asked (rrun places r ts (rs0 start) i).later (rrun places r ts (rs0 start) i).m) (n := ts.length) ?_ ?_
      · exact ⟨_, 0, by omega, by omega, rfl, hO0, ⟨e0, e1, e2, e6, e7, e8, rfl, rfl, rfl, rfl⟩, hM0⟩
      · rintro w a' H6 ⟨e, i, rfl, hi, rfl, hO, ⟨e0, e1, e2, e6, e7, e8, e11, e59, e60, e61⟩, hM⟩
        clear hM0 hO0
        by_cases hlt : i < ts.length
        · have hstep : rrun places r ts (rs0 start) (i + 1) = rstep places r ts i ts[i] (rrun places r ts (rs0 start) i) := by simp [rrun, List.getD, List.getElem?_eq_getElem hlt]
          have hti := List.getElem?_eq_getElem hlt
          have htb := h6 _ (List.getElem_mem hlt)
          have hO' := hO.step places r ts ts[i] hlt (by omega) htb.1 htb.2
          rw [← hstep] at hO'
          generalize hS1 : rrun places r ts (rs0 start) (i + 1) = S1 at hstep hO'
          generalize rrun places r ts (rs0 start) i = S at hstep hO e7 hM
          generalize ts[i] = t at hstep hti htb
          replace hstep := hstep.symm
          obtain ⟨b, o, cap', p, c, fr, hve, _, hb', hx⟩ := hM.t.cons (fun h => absurd (congrArg List.length h) (by simp only [List.length_nil]; omega))
          cases hve
          have hxi := hx i t hti
          have hcl : (ints S.cl).length = 8 := by rw [ints_len]; exact hO.cl
          have vcb6 := hM.c
          have vsb6 := hM.s
          have hi8 : i < 8 := by omega
          (refine @Hid.out _ ?_; refine zSi y86_33 ?_; (repeat (refine inC ?_; intro hc)); try (refine inK ?_; intro K hK))
          refine wpX_seq ?_
          (refine @Hid.out _ ?_; refine zSi y86_33 ?_; (repeat (refine inC ?_; intro hc)); try (refine inK ?_; intro K hK))
          refine wpX_seq (wpX_block ?_)
          (refine @Hid.out _ ?_; refine zSi y86_33 ?_; (repeat (refine inC ?_; intro hc)); try (refine inK ?_; intro K hK))
          rw [ints_setL]
          have hM7 := hM.setC h0c ncb' nsc ncd (S.cl.set i (-1))
          generalize H6.set cb (choiceO (S.cl.set i (-1))) = H7 at *
          clear hM vcb6 vsb6 hb' hxi hx hcl
          refine (needs_spec main H7 db places pieces _ cv _ ts mb hM7.d hM7.t i S.m t hti htb.1 htb.2 hO.m).runs.mono ?_
          rintro _ H8 ⟨rfl, lH8⟩
          have hM8 := hM7.le lH8
          clear hM7 lH8
          ((try (refine @Hid.out _ ?_; refine zXi y86_33 ?_)); (try (refine hK _ _ ?_; clear hK K; (try simp only [nq, ↓reduceIte, Nat.reduceEqDiff]))); refine @Hid.out _ ?_; refine zSi y86_33 ?_; (repeat (refine inC ?_; intro hc)); try (refine inK ?_; intro K hK))
          refine wpX_cut (fun a' H' => ∃ e, a' = act 142 e [] ∧ RunE e cb hb sb db r (some ⟨b, o, none⟩) ts.length tc S.f i ∧ e 12 = .int .i64 i ∧ e 13 = .int .i64 t ∧ e 14 = .bool (!S.m.testBit t.toNat) ∧ e 15 = .bool (sendB places S.m t) ∧
            RunM H H' cb hb sb db (dayO places pieces (.slice sa start.length sc) cv (.slice (some ⟨b, o, none⟩) ts.length tc) mb) (.slice (some ⟨b, o, none⟩) ts.length tc) ts i (S.cl.set i (-1)) S.came S.asked S1.later S.m) ?_ ?_
          · have hlat : S1.later = if r = 3 ∧ sendB places S.m t then laterL ts (i + 1) else S.later := by rw [← hstep]; rfl
            (refine @Hid.out _ ?_; refine z0_33 ?_; (repeat (refine inC ?_; intro hc)); try (refine inK ?_; intro K hK))
            (intro nb hnb; generalize hG : Hp.set _ nb _ = H9; have lH9 := le_of_set hG hnb; have vnb := at_of_set hG; clear hG)
            have hM9 := hM8.le lH9
            clear hM8 lH9 vnb hnb
            have vhb9 := hM9.h
            cases hsnd : sendB places S.m t
            · rw [hsnd] at hlat
              simp only [Bool.false_eq_true, and_false, if_false] at hlat
              have hsb : (!S.m.testBit t.toNat && decide (places ≤ ↑(oCount S.m))) = false := hsnd
              rw [hsb]
              have hM9' := hlat.symm ▸ hM9
              by_cases hr : r = 3
              · ((try (refine @Hid.out _ ?_; refine x1_33 ?_)); (try (refine hK _ _ ?_; clear hK K; (try simp only [nq, ↓reduceIte, Nat.reduceEqDiff]))); refine @Hid.out _ ?_; refine z0_33 ?_; (repeat (refine inC ?_; intro hc)); try (refine inK ?_; intro K hK))
                exact ⟨_, rfl, ⟨e0, e1, e2, e6, e7, e8, e11, e59, e60, e61⟩, rfl, rfl, rfl, by rw [hsnd]; rfl, hM9'⟩
              · ((try (refine @Hid.out _ ?_; refine x1_33 ?_)); (try (refine hK _ _ ?_; clear hK K; (try simp only [nq, ↓reduceIte, Nat.reduceEqDiff]))); refine @Hid.out _ ?_; refine z0_33 ?_; (repeat (refine inC ?_; intro hc)); try (refine inK ?_; intro K hK))
                exact ⟨_, rfl, ⟨e0, e1, e2, e6, e7, e8, e11, e59, e60, e61⟩, rfl, rfl, rfl, by rw [hsnd]; rfl, hM9'⟩
            · rw [hsnd] at hlat
              have hsb : (!S.m.testBit t.toNat && decide (places ≤ ↑(oCount S.m))) = true := hsnd
              rw [hsb]
              by_cases hr : r = 3
              · rw [if_pos ⟨hr, rfl⟩] at hlat
                ((try (refine @Hid.out _ ?_; refine x1_33 ?_)); (try (refine hK _ _ ?_; clear hK K; (try simp only [nq, ↓reduceIte, Nat.reduceEqDiff]))); refine @Hid.out _ ?_; refine z0_33 ?_; (repeat (refine inC ?_; intro hc)); try (refine inK ?_; intro K hK))
                refine (look_spec main H9 db places pieces _ cv _ ts mb hM9.d hM9.t hb S.came S.asked S.later hO.came hO.asked hO.later hM9.h nhd' (by omega) h6 i hlt).runs.mono ?_
                rintro _ H10 ⟨rfl, hH10⟩
                rw [hH10]; clear hH10 H10
                have hM10 := hM9.setH h0h ncb nsh nhd S.came S.asked (laterL ts (i + 1))
                rw [← hlat] at hM10 ⊢
                clear hlat
                ((try (refine @Hid.out _ ?_; refine zXi y86_33 ?_)); (try (refine hK _ _ ?_; clear hK K; (try simp only [nq, ↓reduceIte, Nat.reduceEqDiff]))); refine @Hid.out _ ?_; refine zAi y86_33 ?_; (repeat (refine inC ?_; intro hc)); try (refine inK ?_; intro K hK))
                exact ⟨_, rfl, ⟨e0, e1, e2, e6, e7, e8, e11, e59, e60, e61⟩, rfl, rfl, rfl, by rw [hsnd]; rfl, hM10⟩
              · rw [if_neg (fun h => hr h.1)] at hlat
                have hM9' := hlat.symm ▸ hM9
                ((try (refine @Hid.out _ ?_; refine x1_33 ?_)); (try (refine hK _ _ ?_; clear hK K; (try simp only [nq, ↓reduceIte, Nat.reduceEqDiff]))); refine @Hid.out _ ?_; refine z0_33 ?_; (repeat (refine inC ?_; intro hc)); try (refine inK ?_; intro K hK))
                exact ⟨_, rfl, ⟨e0, e1, e2, e6, e7, e8, e11, e59, e60, e61⟩, rfl, rfl, rfl, by rw [hsnd]; rfl, hM9'⟩
          · rintro a' H9 ⟨e', rfl, ⟨e0', e1', e2', e6', e7', e8', e11', e59', e60', e61'⟩, e12', e13', e14', e15', hM9⟩
            clear hM8 e0 e1 e2 e6 e7 e8 e11 e59 e60 e61
            rename_i eold
            clear eold
            refine wpX_cut (fun a' H' => ∃ e, a' = act 142 e [] ∧ RunE e cb hb sb db r (some ⟨b, o, none⟩) ts.length tc S.f i ∧ e 12 = .int .i64 i ∧ e 13 = .int .i64 t ∧ e 14 = .bool (!S.m.testBit t.toNat) ∧
              RunM H H' cb hb sb db (dayO places pieces (.slice sa start.length sc) cv (.slice (some ⟨b, o, none⟩) ts.length tc) mb) (.slice (some ⟨b, o, none⟩) ts.length tc) ts i S1.cl S.came S.asked S1.later S.m) ?_ ?_
            · have hcl1 : S1.cl = S.cl.set i (if sendB places S.m t then pickF (rankF r S.came S.asked S1.later) (oList S.m) else -1) := by
                rw [← hstep]
                simp only [rstep, rsent]
                cases sendB places S.m t
                · rfl
                · simp only [if_true, and_true]
              have vsb9 := hM9.s
              cases hsnd : sendB places S.m t
              · rw [hsnd] at hcl1 e15'
                simp only [Bool.false_eq_true, if_false] at hcl1
                rw [← hcl1] at hM9
                clear hcl1
                (refine @Hid.out _ ?_; refine zAi y86_33 ?_; (repeat (refine inC ?_; intro hc)); try (refine inK ?_; intro K hK))
                exact ⟨_, rfl, ⟨e0', e1', e2', e6', e7', e8', e11', e59', e60', e61'⟩, e12', e13', e14', hM9⟩
              · rw [hsnd] at hcl1 e15'
                simp only [if_true] at hcl1
                (refine @Hid.out _ ?_; refine zAi y86_33 ?_; (repeat (refine inC ?_; intro hc)); try (refine inK ?_; intro K hK))
                refine (list_spec main H9 S.m hO.m).runs.mono ?_
                rintro _ H10 ⟨lv, rfl, hlv, lH10⟩
                have hM10 := hM9.le lH10
                have hlm : ∀ x ∈ oList S.m, 0 ≤ x ∧ x < 6 := fun x hx => ⟨(oList_mem hx).1, (oList_mem hx).2.1⟩
                have hll : (oList S.m).length ≤ 6 := oListN_len S.m 6
                clear hM9 lH10
                have hlvS := hlv
                obtain ⟨la, lc, rfl, hlc, _⟩ := hlv
                generalize hL : oList S.m = L at *
                ((try (refine @Hid.out _ ?_; refine zXi y86_33 ?_)); (try (refine hK _ _ ?_; clear hK K; (try simp only [nq, ↓reduceIte, Nat.reduceEqDiff]))); refine @Hid.out _ ?_; refine zAi y86_33 ?_; (repeat (refine inC ?_; intro hc)); try (refine inK ?_; intro K hK))
                refine wpX_loop (fun w a' H' => ∃ e k, w = L.length - k ∧ k ≤ L.length ∧ a' = act 142 e [] ∧ RunE e cb hb sb db r (some ⟨b, o, none⟩) ts.length tc S.f i ∧ e 12 = .int .i64 i ∧ e 13 = .int .i64 t ∧ e 14 = .bool (!S.m.testBit t.toNat) ∧ e 89 = .slice la L.length lc ∧ e 90 = .int .i64 L.length ∧ e 91 = .int .i64 k ∧ SlI H' (.slice la L.length lc) L ∧
                  RunM H H' cb hb sb db (dayO places pieces (.slice sa start.length sc) cv (.slice (some ⟨b, o, none⟩) ts.length tc) mb) (.slice (some ⟨b, o, none⟩) ts.length tc) ts i (S.cl.set i (pickF (rankF r S.came S.asked S1.later) (L.take k))) S.came S.asked S1.later S.m) (n := L.length) ?_ ?_
                · exact ⟨_, 0, by omega, by omega, rfl, ⟨e0', e1', e2', e6', e7', e8', e11', e59', e60', e61'⟩, e12', e13', e14', rfl, rfl, rfl, hlvS, hM10⟩
                · clear hM10 e0' e1' e2' e6' e7' e8' e11' e59' e60' e61' e12' e13' e14' e15' hlvS
                  rename_i eold
                  clear eold
                  rintro w a' H11 ⟨e, k, rfl, hk, rfl, ⟨e0, e1, e2, e6, e7, e8, e11, e59, e60, e61⟩, e12, e13, e14, e89, e90, e91, hlv, hM⟩
                  by_cases hltk : k < L.length
                  · obtain ⟨b2, o2, cap2, p2, c2, fr2, hve, _, hb2, hx2⟩ := hlv.cons (fun h => absurd (congrArg List.length h) (by simp only [List.length_nil]; omega))
                    cases hve
                    have hxk := hx2 k L[k] (List.getElem?_eq_getElem hltk)
                    have hqb := hlm _ (List.getElem_mem hltk)
                    have hfold : pickF (rankF r S.came S.asked S1.later) (L.take (k + 1)) = if pickF (rankF r S.came S.asked S1.later) (L.take k) < 0 ∨ rankF r S.came S.asked S1.later L[k] < rankF r S.came S.asked S1.later (pickF (rankF r S.came S.asked S1.later) (L.take k)) then L[k] else pickF (rankF r S.came S.asked S1.later) (L.take k) := by
                      unfold pickF
                      rw [List.take_add_one, List.getElem?_eq_getElem hltk, List.foldl_append]
                      rfl
                    have hcr : pickF (rankF r S.came S.asked S1.later) (L.take k) = -1 ∨ 0 ≤ pickF (rankF r S.came S.asked S1.later) (L.take k) ∧ pickF (rankF r S.came S.asked S1.later) (L.take k) < 6 := by
                      rcases foldl_pick_mem (rankF r S.came S.asked S1.later) (L.take k) (-1) with h | h
                      · exact .inl h
                      · exact .inr (hlm _ (List.mem_of_mem_take h))
                    generalize L[k] = q at hxk hqb hfold
                    generalize hce : pickF (rankF r S.came S.asked S1.later) (L.take (k + 1)) = c' at hfold
                    generalize pickF (rankF r S.came S.asked S1.later) (L.take k) = c0 at hfold hcr hM
                    have vcb11 := hM.c
                    have vhb11 := hM.h
                    have hcl8 : (S.cl.set i c0).length = 8 := by rw [List.length_set]; exact hO.cl
                    have hcl8i : (ints (S.cl.set i c0)).length = 8 := by rw [ints_len]; exact hcl8
                    have hci : (ints (S.cl.set i c0))[i]? = some (.int .i64 c0) := by
                      refine ints_get ?_
                      rw [List.getElem?_set_self (by have := hO.cl; omega)]
                    have hrb : ∀ x ∈ S1.later, 0 ≤ x ∧ x ≤ 1000 := hO'.bnd
                    (refine @Hid.out _ ?_; refine zSi y86_33 ?_; (repeat (refine inC ?_; intro hc)); try (refine inK ?_; intro K hK))
                    refine wpX_seq ?_
                    (refine @Hid.out _ ?_; refine zSi y86_33 ?_; (repeat (refine inC ?_; intro hc)); try (refine inK ?_; intro K hK))
                    refine wpX_seq (wpX_block ?_)
                    (refine @Hid.out _ ?_; refine zSi y86_33 ?_; (repeat (refine inC ?_; intro hc)); try (refine inK ?_; intro K hK))
                    rcases hcr with rfl | ⟨hc1, hc2⟩
                    · refine wpX_dst0 18 [(true, 0), (true, 1), (true, 2), (true, 3), (true, 4), (true, 5), (true, 6), (true, 7), (true, 8), (true, 9), (true, 10), (true, 11), (true, 12), (true, 13), (true, 14), (true, 15), (true, 16), (true, 17)] (by kernel_rfl) (by kernel_rfl) (by simp) (by kernel_rfl) ?_; intro K hK
                      (iterate 5 (refine @Hid.out _ ?_; refine z3i y86_33 ?_))
                      (iterate 12 (apply plan_skip rfl (by simp -implicitDefEqProofs (disch := omega) only [wanted_some, yielded_list, ylK_bool, List.getElem?_cons_succ, List.getElem?_cons_zero, Option.bind_some, act_get?, upd_get, Nat.reduceEqDiff, ↓reduceIte, *]; rfl); simp -implicitDefEqProofs (disch := first | omega | (simp only [qd] <;> omega)) only [act_put, act_put_none]))
                      (refine @Hid.out _ ?_; refine z3i y86_33 ?_)
                      refine plan_nil (hK _ _ ?_); clear hK K
                      (refine @Hid.out _ ?_; refine zAi y86_33 ?_; (repeat (refine inC ?_; intro hc)); try (refine inK ?_; intro K hK))
                      have hc' : c' = q := by rw [hfold]; simp
                      have hset : (ints (S.cl.set i (-1))).set i (Value.int .i64 q) = ints (S.cl.set i c') := by rw [ints_setL, List.set_set, hc']
                      rw [hset]
                      exact ⟨_, by omega, _, k + 1, rfl, hltk, rfl, ⟨e0, e1, e2, e6, e7, e8, e11, e59, e60, e61⟩, e12, e13, e14, e89, e90, rfl, hlv.set (fun p c fr h => by rw [hM.c] at h; cases h), by rw [hce]; exact hM.setC h0c ncb' nsc ncd _⟩
                    · refine wpX_dst0 18 [(true, 0), (true, 1), (true, 2), (true, 3), (true, 4), (true, 5), (true, 6), (true, 7), (true, 8), (true, 9), (true, 10), (true, 11), (true, 12), (true, 13), (true, 14), (true, 15), (true, 16), (true, 17)] (by kernel_rfl) (by kernel_rfl) (by simp) (by kernel_rfl) ?_; intro K hK
                      (iterate 5 (refine @Hid.out _ ?_; refine z3i y86_33 ?_))
                      (iterate 2 (refine @Hid.out _ ?_; refine z6i y86_33 ?_))
                      (apply plan_take rfl (by simp -implicitDefEqProofs (disch := omega) only [wanted_some, yielded_list, ylK_bool, List.getElem?_cons_succ, List.getElem?_cons_zero, Option.bind_some, act_get?, upd_get, Nat.reduceEqDiff, ↓reduceIte, beq_self_eq_true, *]) rfl; (focus ((refine @Hid.out _ ?_; refine zXi y86_33 ?_); exact rank_yields main _ r q hb _ _ _ hO.came hO.asked hO'.later hrb hqb.1 hqb.2 hM.h hr0 hr3)); simp -implicitDefEqProofs (disch := first | omega | (simp only [qd] <;> omega)) only [act_put, act_put_none])
                      (iterate 5 (refine @Hid.out _ ?_; refine z6i y86_33 ?_))
                      (refine @Hid.out _ ?_; refine z6i (And.intro y86_33 @nil_rule) ?_)
                      (refine @Hid.out _ ?_; refine z6i y86_33 ?_)
                      (apply plan_take rfl (by simp -implicitDefEqProofs (disch := omega) only [wanted_some, yielded_list, ylK_bool, List.getElem?_cons_succ, List.getElem?_cons_zero, Option.bind_some, act_get?, upd_get, Nat.reduceEqDiff, ↓reduceIte, beq_self_eq_true, *]) rfl; (focus ((refine @Hid.out _ ?_; refine zXi y86_33 ?_); exact rank_yields main _ r c0 hb _ _ _ hO.came hO.asked hO'.later hrb hc1 hc2 hM.h hr0 hr3)); simp -implicitDefEqProofs (disch := first | omega | (simp only [qd] <;> omega)) only [act_put, act_put_none])
                      (refine @Hid.out _ ?_; refine z6i y86_33 ?_)
                      (refine @Hid.out _ ?_; refine z3i y86_33 ?_)
                      refine plan_nil (hK _ _ ?_); clear hK K
                      repeat' (first
  | (refine wpX_stmtL rfl ?_; intro K hK; simp -implicitDefEqProofs (disch := first | omega | (simp only [qd] <;> omega)) only [xq, ↓xp, qc, Nat.reduceAdd, List.range, List.range.loop, fine, Nat.reduceEqDiff, ↓reduceIte, yielded, reduceCtorEq, Nat.reduceLT, Nat.reduceMul, Nat.reduceSub, one, Nat.reduceLeDiff, runX_cons, y86_33, ↓ex_invoke, aq, ↓ap, qe0, qe1, qe2, *, -hK]; try (refine hK _ _ ?_; clear hK K))
  | (refine wpX_lastL rfl ?_; intro K hK; simp -implicitDefEqProofs (disch := first | omega | (simp only [qd] <;> omega)) only [xq, ↓xp, qc, Nat.reduceAdd, List.range, List.range.loop, fine, Nat.reduceEqDiff, ↓reduceIte, yielded, reduceCtorEq, Nat.reduceLT, Nat.reduceMul, Nat.reduceSub, one, Nat.reduceLeDiff, runX_cons, y86_33, ↓ex_invoke, aq, ↓ap, qe0, qe1, qe2, *, -hK]; try (refine hK _ _ ?_; clear hK K; (try simp only [nq, ↓reduceIte, Nat.reduceEqDiff])))
  | (refine wpX_skip ?_; (try simp only [nq, ↓reduceIte, Nat.reduceEqDiff]))
  | (refine wpX_label ?_; (try simp only [nq, ↓reduceIte, Nat.reduceEqDiff]))
  | (refine wpX_exit ?_; (try simp only [nq, ↓reduceIte, Nat.reduceEqDiff]))
  | (refine wpX_goto ?_; (try simp only [nq, ↓reduceIte, Nat.reduceEqDiff]))
  | (refine wpX_condK (by simp only [act_eval, upd_get, Nat.reduceEqDiff, Nat.reduceLT, ↓reduceIte, *]; rfl) ?_ ?_ <;> (intro hc; first | (exfalso; simp -implicitDefEqProofs (disch := omega) only [*, bq, reduceCtorEq] at hc; done) | (simp only [dq, qe3, qe4, qe5, qe6] at hc) | skip))
  | (refine wpX_scope0 ?_)
  | (refine wpX_block ?_)
  | (refine wpX_seq ?_))
                      · have hc' : c' = q := by rw [hfold, if_pos (.inr hc)]
                        have hset : (ints (S.cl.set i c0)).set i (Value.int .i64 q) = ints (S.cl.set i c') := by rw [ints_setL, List.set_set, hc']
                        rw [hset]
                        exact ⟨_, by omega, _, k + 1, rfl, hltk, rfl, ⟨e0, e1, e2, e6, e7, e8, e11, e59, e60, e61⟩, e12, e13, e14, e89, e90, rfl, hlv.set (fun p c fr h => by rw [hM.c] at h; cases h), by rw [hce]; exact hM.setC h0c ncb' nsc ncd _⟩
                      · have hc' : c' = c0 := by rw [hfold, if_neg (by omega)]
                        exact ⟨_, by omega, _, k + 1, rfl, hltk, rfl, ⟨e0, e1, e2, e6, e7, e8, e11, e59, e60, e61⟩, e12, e13, e14, e89, e90, rfl, hlv, by rw [hce, hc']; exact hM⟩
                  · obtain rfl : k = L.length := by omega
                    rw [List.take_length, ← hcl1] at hM
                    clear hcl1
                    (refine @Hid.out _ ?_; refine zAi y86_33 ?_; (repeat (refine inC ?_; intro hc)); try (refine inK ?_; intro K hK))
                    exact ⟨_, rfl, ⟨e0, e1, e2, e6, e7, e8, e11, e59, e60, e61⟩, e12, e13, e14, hM⟩
            · rintro a' H9 ⟨e, rfl, ⟨e0, e1, e2, e6, e7, e8, e11, e59, e60, e61⟩, e12, e13, e14, hM⟩
              clear hM9 e0' e1' e2' e6' e7' e8' e11' e59' e60' e61' e12' e13' e14' e15'
              rename_i eold
              clear eold
              have hSf : S1.f = S.f + if S.m.testBit t.toNat then 0 else 1 := by rw [← hstep]; rfl
              have hSc : S1.came = if S.m.testBit t.toNat then S.came else S.came.set t.toNat i := by rw [← hstep]; rfl
              refine wpX_cut (fun a' H' => ∃ e, a' = act 142 e [] ∧ RunE e cb hb sb db r (some ⟨b, o, none⟩) ts.length tc S1.f i ∧ e 12 = .int .i64 i ∧ e 13 = .int .i64 t ∧
                RunM H H' cb hb sb db (dayO places pieces (.slice sa start.length sc) cv (.slice (some ⟨b, o, none⟩) ts.length tc) mb) (.slice (some ⟨b, o, none⟩) ts.length tc) ts i S1.cl S1.came S.asked S1.later S.m) ?_ ?_
              · have vhb9 := hM.h
                have hlen18 := hist_len hO.came hO.asked hO'.later
                have hf8 : S.f ≤ i := hO.f
                cases hbit : S.m.testBit t.toNat
                · rw [hbit] at hSf hSc e14
                  simp only [Bool.false_eq_true, if_false] at hSf hSc
                  (refine @Hid.out _ ?_; refine zAi y86_33 ?_; (repeat (refine inC ?_; intro hc)); try (refine inK ?_; intro K hK))
                  rw [hist_set1 hO.came _ (by omega), ← hSc]
                  refine ⟨_, rfl, ⟨e0, e1, e2, e6, ?_, e8, e11, e59, e60, e61⟩, e12, e13, hM.setH h0h ncb nsh nhd _ _ _⟩
                  rw [hSf]; rfl
                · rw [hbit] at hSf hSc e14
                  simp only [if_true, Nat.add_zero] at hSf hSc
                  (refine @Hid.out _ ?_; refine zAi y86_33 ?_; (repeat (refine inC ?_; intro hc)); try (refine inK ?_; intro K hK))
                  exact ⟨_, rfl, ⟨e0, e1, e2, e6, by rw [hSf]; exact e7, e8, e11, e59, e60, e61⟩, e12, e13, by rw [hSc]; exact hM⟩
              · clear hM e0 e1 e2 e6 e7 e8 e11 e59 e60 e61 e12 e13 e14 hSf hSc
                rename_i eold
                clear eold
                rintro a' H9 ⟨e, rfl, ⟨e0, e1, e2, e6, e7, e8, e11, e59, e60, e61⟩, e12, e13, hM⟩
                have hSa : S1.asked = S.asked.set t.toNat i := by rw [← hstep]; rfl
                have hSm : S1.m = oNext S.m (rsent places r ts i t S) t := by rw [← hstep]; rfl
                have hScl : S1.cl = S.cl.set i (rsent places r ts i t S) := by rw [← hstep]; rfl
                have hcli : S1.cl[i]? = some (rsent places r ts i t S) := by rw [hScl, List.getElem?_set_self (by have := hO.cl; omega)]
                have hcl8i : (ints S1.cl).length = 8 := by rw [ints_len]; exact hO'.cl
                have hci := ints_get hcli
                have hs6' : rsent places r ts i t S < 6 := by
                  unfold rsent
                  split
                  · exact pickF_lt _ _
                  · omega
                have hf' := hO'.f
                have vhb9 := hM.h
                have hlen18 := hist_len hO'.came hO.asked hO'.later
                generalize rsent places r ts i t S = sent at hSm hci hs6'
                clear hcli hScl
                (refine @Hid.out _ ?_; refine zAi y86_33 ?_; (repeat (refine inC ?_; intro hc)); try (refine inK ?_; intro K hK))
                rw [hist_set2 hO'.came hO.asked _ (by omega), ← hSa]
                have hM10 := hM.setH h0h ncb nsh nhd S1.came S1.asked S1.later
                generalize H9.set hb (histO S1.came S1.asked S1.later) = H10 at *
                clear hM vhb9 hlen18
                have vcb10 := hM10.c
                have vsb10 := hM10.s
                refine wpX_dst1 6 [(true, 0), (true, 1), (true, 2), (true, 3), (true, 4), (true, 5), (false, 6)] (by kernel_rfl) (by kernel_rfl) (by simp) (by kernel_rfl) ?_; intro K hK
                (iterate 5 (refine @Hid.out _ ?_; refine z3i y86_33 ?_))
                (apply plan_take rfl rfl rfl; (focus ((refine @Hid.out _ ?_; refine zXi y86_33 ?_); exact quiet_le (vnext_spec main H10 db places pieces _ cv _ ts mb hM10.d hM10.t (by omega) i S.m sent t hti htb.1 htb.2 hO.m hs6'))); simp -implicitDefEqProofs (disch := first | omega | (simp only [qd] <;> omega)) only [act_put, act_put_none])
                refine plan_tail ?_
                ((try (refine @Hid.out _ ?_; refine zXi y86_33 ?_)); (try (refine hK _ _ ?_; clear hK K; (try simp only [nq, ↓reduceIte, Nat.reduceEqDiff]))); refine @Hid.out _ ?_; refine zAi y86_33 ?_; (repeat (refine inC ?_; intro hc)); try (refine inK ?_; intro K hK))
                have hM11 := hM10.setS h0s nsc' nsh' nsd' (i + 1) (oNext S.m sent t)
                rw [← hSm] at hM11
                refine ⟨_, ?_, _, i + 1, rfl, hlt, rfl, by rw [hS1]; exact hO', ⟨e0, e1, e2, e6, by rw [hS1]; exact e7, e8, e11, e59, e60, rfl⟩, ?_⟩
                · omega
                · rw [hS1, ← hSm]; exact hM11
        · obtain rfl : i = ts.length := by omega
          have vcb6 := hM.c
          have hcl8 : (ints (rrun places r ts (rs0 start) ts.length).cl).length = 8 := by rw [ints_len]; exact hO.cl
          generalize (rrun places r ts (rs0 start) ts.length).f = F at *
          generalize (rrun places r ts (rs0 start) ts.length).cl = C at *
          have htk : (ints C).take 8 = ints C := List.take_of_length_le (by omega)
          have hne0 : ints C ≠ [] := fun h => by rw [h] at hcl8; cases hcl8
          have hone : (ints C).all one = true := List.all_eq_true.2 (ints_one C)
          have hov : over (ints C).toArray 0 (ints C) = (ints C).toArray := by
            rw [over_list _ _ _ (by omega)]
            simp
          (refine @Hid.out _ ?_; refine z2_33 ?_; (repeat (refine inC ?_; intro hc)); try (refine inK ?_; intro K hK))
          (refine wpX_ret ?_; (try simp only [nq, ↓reduceIte, Nat.reduceEqDiff]); rw [bodyX_ret, results_cell_tmp Tryz.results86 (by decide) (by decide) (b := cb) (o := 0) ?hcell Tryz.underlying107 rfl Tryz.sizeOf107]; (case hcell => exact e6); simp -implicitDefEqProofs (disch := first | omega | (simp only [qd] <;> omega)) only [xq, ↓xp, qc, Nat.reduceAdd, List.range, List.range.loop, fine, Nat.reduceEqDiff, ↓reduceIte, yielded, reduceCtorEq, Nat.reduceLT, Nat.reduceMul, Nat.reduceSub, one, Nat.reduceLeDiff, runX_cons, y86_33, ↓ex_invoke, loadA_set, htk, hcl8, Nat.le_refl])
          exact (hM.l.own h0c).toLe
end Go.Proofs.YtofmadjgbcopdaaGreatDoor
end
section
set_option linter.unusedSimpArgs false
set_option maxRecDepth 100000
set_option maxHeartbeats 1000000
set_option linter.unusedVariables false
namespace Go.Proofs.YtofmadjgbcopdaaGreatDoor
open Go Go.X
set_option linter.defProp false
def y39_34 := And.intro (fun H => loadAt_aggE (H := H) Tryz.underlying25 rfl Tryz.sizeOf25) (And.intro @callF84 (And.intro @callF85 (And.intro @eqG_iface (And.intro @eqG_nil (And.intro (fun H => bin_eql_nil (H := H) Tryz.underlying104) (And.intro (fun H => bin_eql_iface (H := H) Tryz.underlying104) (And.intro (fun H => bin_neq_nil (H := H) Tryz.underlying104) (And.intro (fun H => bin_neq_iface (H := H) Tryz.underlying104) (And.intro (fun H => len_slice (H := H) Tryz.underlying22) (And.intro @callF86 (And.intro (fun H => ex_alloc (H := H) (P := Tryz.prog) (h := Tryz.zeroValue107)) (And.intro (fun H => storeAt_agg (H := H) Tryz.sizeOf107) (And.intro (fun H => slice_arr (H := H) Tryz.underlying107 Tryz.sizeOf3) (And.intro (fun H => slice_arr_hi (H := H) Tryz.underlying107 Tryz.sizeOf3) @callF87))))))))))))))
def y87_34 := And.intro @eqG_slice (And.intro (fun H => bin_eql_slice (H := H) Tryz.underlying22) (fun H => buildSlice0 (H := H) Tryz.underlying22 Tryz.sizeOf3))
theorem z0_34 {p q : Prop} (g : q) (h : Hid q → p := by
  intro g
  repeat' (first
  | (refine wpX_stmtL rfl ?_; intro Kz hKz; simp -implicitDefEqProofs (disch := first | omega | (simp only [qd] <;> omega)) only [xq, ↓xp, qc, Nat.reduceAdd, List.range, List.range.loop, fine, Nat.reduceEqDiff, ↓reduceIte, yielded, reduceCtorEq, Nat.reduceLT, Nat.reduceMul, Nat.reduceSub, one, Nat.reduceLeDiff, runX_cons, y87_34, aq, ↓ap, qe0, qe1, qe2, *, -g, -hKz, Option.isNone_some]; try (refine hKz _ _ ?_; clear hKz Kz))
  | (refine wpX_lastL rfl ?_; intro Kz hKz; simp -implicitDefEqProofs (disch := first | omega | (simp only [qd] <;> omega)) only [xq, ↓xp, qc, Nat.reduceAdd, List.range, List.range.loop, fine, Nat.reduceEqDiff, ↓reduceIte, yielded, reduceCtorEq, Nat.reduceLT, Nat.reduceMul, Nat.reduceSub, one, Nat.reduceLeDiff, runX_cons, y87_34, aq, ↓ap, qe0, qe1, qe2, *, -g, -hKz, Option.isNone_some]; try (refine hKz _ _ ?_; clear hKz Kz; (try simp only [nq, ↓reduceIte, Nat.reduceEqDiff])))
  | (refine wpX_skip ?_; (try simp only [nq, ↓reduceIte, Nat.reduceEqDiff]))
  | (refine wpX_label ?_; (try simp only [nq, ↓reduceIte, Nat.reduceEqDiff]))
  | (refine wpX_exit ?_; (try simp only [nq, ↓reduceIte, Nat.reduceEqDiff]))
  | (refine wpX_goto ?_; (try simp only [nq, ↓reduceIte, Nat.reduceEqDiff]))
  | (refine wpX_condK (by simp only [act_eval, upd_get, Nat.reduceEqDiff, Nat.reduceLT, ↓reduceIte, *, -g]; rfl) ?_ ?_ <;> (intro hcz; first | (exfalso; simp -implicitDefEqProofs (disch := omega) only [*, -g, bq, reduceCtorEq] at hcz; done) | (simp only [dq, qe3, qe4, qe5, qe6] at hcz) | skip))
  | (refine wpX_scope0 ?_)
  | (refine wpX_block ?_)
  | (refine wpX_seq ?_))
  (try (revert Kz; refine unK ?_)); (repeat (revert hcz; refine unC ?_))
  exact Hid.out g) : Hid p := ⟨h ⟨g⟩⟩
theorem TruthOk.bnd {xss : List (List Int)} {ts : List Int} {places pieces : Int} {start : List Int} (h : TruthOk xss ts) (ho : VaultOk places pieces start xss) : ∀ t ∈ ts, 0 ≤ t ∧ t < 6 := by
  intro t ht
  obtain ⟨i, hi, rfl⟩ := List.getElem_of_mem ht
  have hix : i < xss.length := by rw [← h.1]; exact hi
  have := h.2 i ts[i] xss[i] (List.getElem?_eq_getElem hi) (List.getElem?_eq_getElem hix)
  have h2 := (ho.2.2.2.2.2.2.2 _ (List.getElem_mem hix)).2.2 _ this
  have h3 := ho.2.2.2.1
  omega
theorem rrun_ok (pl r : Int) (ts start : List Int) (hs6 : ∀ t ∈ start, 0 ≤ t ∧ t < 6) (h6 : ∀ t ∈ ts, 0 ≤ t ∧ t < 6) (hl : ts.length ≤ 1000) : ∀ i, i ≤ ts.length → RSOk (rrun pl r ts (rs0 start) i) i
  | 0, _ => ⟨oOf_lt start 0 (by omega) fun x hx => ⟨(hs6 x hx).1, (hs6 x hx).2⟩, initL_len _ _, initL_len _ _, by simp [rrun, rs0], fun x hx => by simp [rrun, rs0] at hx; omega, by simp [rrun, rs0], by simp [rrun, rs0]⟩
  | i + 1, h => by
    have := rrun_ok pl r ts start hs6 h6 hl i (by omega)
    have hg : ts.getD i 0 = ts[i]'(by omega) := by simp [List.getD, List.getElem?_eq_getElem (show i < ts.length by omega)]
    have hb := h6 _ (List.getElem_mem (show i < ts.length by omega))
    unfold rrun
    rw [hg]
    exact this.step pl r ts _ (by omega) hl hb.1 hb.2
theorem clone2_spec (m : Md) (H : Hp) (b o n cap : Nat) (xs : List Int) (hx : ∀ (j : Nat) (y : Int), xs[j]? = some y → H.cell ⟨b, o + j, none⟩ = some (.int .i64 y)) (hn : xs.length = n) (hl : n ≤ 1000000) (hb : ∃ x, H b = some x) :
    FnX Tryz.prog m 87 #[.slice (some ⟨b, o, none⟩) n cap] H fun e H' => ∃ w, e = .returned w ∧ RowX none H H' w 3 (ints xs) := by
  obtain ⟨x0, hb⟩ := hb
  refine FnX_start Tryz.func87 rfl Tryz.ntmps87 (by simp) ?_
  (refine @Hid.out _ ?_; refine z0_34 ?_; (repeat (refine inC ?_; intro hc)); try (refine inK ?_; intro K hK))
  intro nb hnb
  have hle : H.le (H.set nb (.cells #[] 3 (0, 0))) := Hp.le_set hnb
  have hrow0 : NewRow H (H.set nb (.cells #[] 3 (0, 0))) (.slice (some ⟨nb, 0, none⟩) 0 0) 3 1 0 (ints []) := .inr ⟨nb, #[], 0, hnb, rfl, rfl, rfl, rfl, Nat.le_refl _, fun i u hi => by simp [ints] at hi⟩
  have hgne : b ≠ nb := ne_new hb hnb
  ((try (refine @Hid.out _ ?_; refine zX y87_34 ?_)); (try (refine hK _ _ ?_; clear hK K; (try simp only [nq, ↓reduceIte, Nat.reduceEqDiff]))); refine @Hid.out _ ?_; refine zA y87_34 ?_; (repeat (refine inC ?_; intro hc)); try (refine inK ?_; intro K hK))
  refine append_ints hrow0 (Hp.le_refl _) (ys := xs) hn (fun h => absurd h (by rw [hb]; simp)) (fun j y hj => ?_) (by omega) _ _ _ _ (fun v' H1 H2 hr hl2 => ?_)
  · rw [cell_set_ne hgne]
    exact hx j y hj
  · ((try (refine @Hid.out _ ?_; refine zX y87_34 ?_)); (try (refine hK _ _ ?_; clear hK K; (try simp only [nq, ↓reduceIte, Nat.reduceEqDiff]))); refine @Hid.out _ ?_; refine zA y87_34 ?_; (repeat (refine inC ?_; intro hc)); try (refine inK ?_; intro K hK))
    (refine @Hid.out _ ?_; refine z9 Tryz.results87 ?_)
    refine ⟨_, rfl, ?_⟩
    rcases hr with ⟨rfl, h0, hnil, hHe⟩ | ⟨b3, c3, cap3, hb3, rfl, rfl, hs3, hl3, hn3, hg3⟩
    · simp only [List.nil_append] at hnil
      rw [hnil]
      exact ⟨Lex.of (by rw [hHe] at hl2; exact hl2), .inl ⟨rfl, rfl⟩⟩
    · refine ⟨Lex.of (Hp.le_trans (Hp.le_set hb3) hl2), .inr ⟨b3, c3, cap3, hb3, hl2 _ _ set_at, ?_, by simpa using hs3, ?_, ?_⟩⟩
      · simp [ints, hn]
      · simp [ints]; omega
      · intro i u hi; exact hg3 i u (by simpa using hi)
theorem vrun_spec (main : Md) (H : Hp) (places pieces : Int) (sv cv tv : Value) (start : List Int) (xss : List (List Int)) (ts : List Int) (hd : DayIn H places pieces sv cv tv start xss ts) (r : Int) (hr0 : 0 ≤ r) (hr3 : r ≤ 3) :
    FnX Tryz.prog main 39 #[.agg #[.int .i64 places, .int .i64 pieces, sv, cv], tv, .int .i64 r] H fun e H' => ∃ v, e = .returned (.tuple #[v, .int .i64 (rrun places r ts (rs0 start) ts.length).f, .int .i64 0]) ∧ H.le H' ∧ SlI H' v ((rrun places r ts (rs0 start) ts.length).cl.take ts.length) := by
  obtain ⟨sa, sn, sc, rfl⟩ := hd.st.isSlice
  obtain ⟨ca, cn, cc, rfl⟩ := hd.calls.isSlice
  have htv := hd.truth
  obtain ⟨ta, tc, rfl, htc, _⟩ := htv
  have hs6 : ∀ t ∈ start, 0 ≤ t ∧ t < 6 := fun t ht => by
    have h1 := hd.ok.2.2.2.2.2.2.1 t ht
    have h2 := hd.ok.2.2.2.1
    omega
  have hsl : start.length ≤ 1000 := by
    have h1 := hd.ok.2.2.2.2.1
    have h2 := hd.ok.2.1
    omega
  have htb := hd.true.bnd hd.ok
  have htl : ts.length ≤ 8 := by have h1 := hd.true.1; have h2 := hd.few; omega
  have hOk := rrun_ok places r ts start hs6 htb (by omega) ts.length (Nat.le_refl _)
  have hnil : ruleV r ≠ .nilIface := by unfold ruleV; simp
  refine FnX_start Tryz.func39 rfl Tryz.ntmps39 (by simp) ?_
  (refine @Hid.out _ ?_; refine zA y39_34 ?_; (repeat (refine inC ?_; intro hc)); try (refine inK ?_; intro K hK))
  (intro vb hvb; generalize hG : Hp.set _ vb _ = H1; have lH1 := le_of_set hG hvb; have vvb := at_of_set hG; clear hG)
  have hd1 := hd.le lH1
  ((try (refine @Hid.out _ ?_; refine zX y39_34 ?_)); (try (refine hK _ _ ?_; clear hK K; (try simp only [nq, ↓reduceIte, Nat.reduceEqDiff]))); refine @Hid.out _ ?_; refine zA y39_34 ?_; (repeat (refine inC ?_; intro hc)); try (refine inK ?_; intro K hK))
  refine (begin_spec main H1 places pieces _ _ _ start xss ts hd1).runs.mono ?_
  rintro _ H2 ⟨db, mb, rfl, lH2, hdm, hdb, hmb, vdb, vmb⟩
  have hd2 := hd1.le lH2
  ((try (refine @Hid.out _ ?_; refine zX y39_34 ?_)); (try (refine hK _ _ ?_; clear hK K; (try simp only [nq, ↓reduceIte, Nat.reduceEqDiff]))); refine @Hid.out _ ?_; refine zA y39_34 ?_; (repeat (refine inC ?_; intro hc)); try (refine inK ?_; intro K hK))
  refine (ruleOf_spec main H2 r hr0 hr3).runs.mono ?_
  rintro _ H3 ⟨rfl, hH3⟩
  rw [hH3]; clear hH3 H3
  ((try (refine @Hid.out _ ?_; refine zX y39_34 ?_)); (try (refine hK _ _ ?_; clear hK K; (try simp only [nq, ↓reduceIte, Nat.reduceEqDiff]))); refine @Hid.out _ ?_; refine zA y39_34 ?_; (repeat (refine inC ?_; intro hc)); try (refine inK ?_; intro K hK))
  refine (run_spec main H2 db places pieces _ _ _ ts mb vdb hd2.truth start hd2.st hs6 hsl htl htb r hr0 hr3).runs.mono ?_
  rintro _ H3 ⟨rfl, lH3⟩
  have hd3 := hd2.le lH3
  generalize hC : (rrun places r ts (rs0 start) ts.length).cl = C at *
  generalize (rrun places r ts (rs0 start) ts.length).f = F at *
  have hcl8 : C.length = 8 := by rw [← hC]; exact hOk.cl
  clear hC hOk
  match C, hcl8 with
  | [c0, c1, c2, c3, c4, c5, c6, c7], _ =>
  simp only [ints, List.map_cons, List.map_nil]
  ((try (refine @Hid.out _ ?_; refine zX y39_34 ?_)); (try (refine hK _ _ ?_; clear hK K; (try simp only [nq, ↓reduceIte, Nat.reduceEqDiff]))); refine @Hid.out _ ?_; refine zA y39_34 ?_; (repeat (refine inC ?_; intro hc)); try (refine inK ?_; intro K hK))
  (intro cb hcb; generalize hG : Hp.set _ cb _ = H4; have lH4 := le_of_set hG hcb; have vcb := at_of_set hG; clear hG)
  ((try (refine @Hid.out _ ?_; refine zX y39_34 ?_)); (try (refine hK _ _ ?_; clear hK K; (try simp only [nq, ↓reduceIte, Nat.reduceEqDiff]))); refine @Hid.out _ ?_; refine zA y39_34 ?_; (repeat (refine inC ?_; intro hc)); try (refine inK ?_; intro K hK))
  refine (clone2_spec main H4 cb 0 ts.length 8 ([c0, c1, c2, c3, c4, c5, c6, c7].take ts.length) (fun j y hj => ?_) (by simp; omega) (by omega) ⟨_, vcb⟩).runs.mono ?_
  · have hj2 : j < ts.length := by
      have := (List.getElem?_eq_some_iff.1 hj).1
      simp at this; omega
    rw [List.getElem?_take_of_lt hj2] at hj
    rw [Nat.zero_add, cell_of vcb]
    have := ints_get hj
    simpa [ints] using this
  · rintro _ H5 ⟨w, rfl, hrow⟩
    ((try (refine @Hid.out _ ?_; refine zX y39_34 ?_)); (try (refine hK _ _ ?_; clear hK K; (try simp only [nq, ↓reduceIte, Nat.reduceEqDiff]))); refine @Hid.out _ ?_; refine zA y39_34 ?_; (repeat (refine inC ?_; intro hc)); try (refine inK ?_; intro K hK))
    (refine @Hid.out _ ?_; refine zC Tryz.results39 ?_)
    exact ⟨w, rfl, Hp.le_trans lH1 (Hp.le_trans lH2 (Hp.le_trans lH3 (Hp.le_trans lH4 hrow.1.toLe))), hrow.ints⟩
end Go.Proofs.YtofmadjgbcopdaaGreatDoor
end
section
set_option linter.unusedSimpArgs false
set_option maxRecDepth 100000
set_option maxHeartbeats 1000000
set_option linter.unusedVariables false
namespace Go.Proofs.YtofmadjgbcopdaaGreatDoor
open Go Go.X
set_option linter.defProp false
def y28_35 := And.intro (fun H => fieldAt_eq (H := H) Tryz.underlying29 (i := 0) rfl (off := 0) rfl Tryz.sizeOf25) (And.intro (fun H => loadAt_aggE (H := H) Tryz.underlying25 rfl Tryz.sizeOf25) (And.intro (fun H => fieldAt_eq (H := H) Tryz.underlying29 (i := 1) rfl (off := 4) rfl Tryz.sizeOf22) (And.intro (fun H => loadAt_one (H := H) Tryz.underlying22 rfl) (And.intro (fun H => fieldAt_eq (H := H) Tryz.underlying29 (i := 2) rfl (off := 5) rfl Tryz.sizeOf3) (And.intro (fun H => loadAt_one (H := H) Tryz.underlying3 rfl) (And.intro @callF39 (And.intro (fun H => fieldAt_eq (H := H) Tryz.underlying29 (i := 3) rfl (off := 6) rfl Tryz.sizeOf22) (And.intro (fun H => len_slice (H := H) Tryz.underlying22) (And.intro @callF70 (And.intro (fun H => fieldAt_eq (H := H) Tryz.underlying29 (i := 4) rfl (off := 7) rfl Tryz.sizeOf3) (And.intro @callF71 (And.intro (fun H => fieldAt_eq (H := H) Tryz.underlying29 (i := 5) rfl (off := 8) rfl Tryz.sizeOf3) (And.intro (fun H => fieldAt_eq (H := H) Tryz.underlying29 (i := 6) rfl (off := 9) rfl Tryz.sizeOf3) (And.intro (fun H => fieldAt_eq (H := H) Tryz.underlying29 (i := 7) rfl (off := 10) rfl Tryz.sizeOf27) (And.intro (fun H => fieldAt_eq (H := H) Tryz.underlying27 (i := 0) rfl (off := 0) rfl Tryz.sizeOf3) (fun H => fieldAt_eq (H := H) Tryz.underlying27 (i := 1) rfl (off := 1) rfl Tryz.sizeOf3))))))))))))))))
structure HN where
  places : Int
  pieces : Int
  rule : Int
  notice : Int
  load : Int
  barrows : Int
  lo : Int
  hi : Int
  start : List Int
  xss : List (List Int)
  ts : List Int
  xs : List Int
structure HV where
  sv : Value
  cv : Value
  tv : Value
  xv : Value
def HN.agg (n : HN) (v : HV) : Value := .agg #[.int .i64 n.places, .int .i64 n.pieces, v.sv, v.cv, v.tv, .int .i64 n.rule, v.xv, .int .i64 n.notice, .int .i64 n.load, .int .i64 n.barrows, .int .i64 n.lo, .int .i64 n.hi]
structure HaulIn (H : Hp) (n : HN) (v : HV) : Prop where
  day : DayIn H n.places n.pieces v.sv v.cv v.tv n.start n.xss n.ts
  times : SlI H v.xv n.xs
  ok : TimesOk n.xss.length n.xs
  r0 : 0 ≤ n.rule
  r3 : n.rule ≤ 3
  n0 : 0 ≤ n.notice
  n30 : n.notice ≤ 30
  l1 : 1 ≤ n.load
  l3 : n.load ≤ 3
  b1 : 1 ≤ n.barrows
  b4 : n.barrows ≤ 4
  t1 : 1 ≤ n.lo
  t2 : n.lo ≤ n.hi
  t20 : n.hi ≤ 20
theorem HaulIn.le {H H' : Hp} {n : HN} {v : HV} (h : HaulIn H n v) (hl : H.le H') : HaulIn H' n v := { h with day := h.day.le hl, times := h.times.le hl }
theorem HaulIn.xlen {H : Hp} {n : HN} {v : HV} (h : HaulIn H n v) : n.xs.length = n.ts.length := by
  rw [h.ok.1, h.day.true.1]
theorem binside_spec (m : Md) (H : Hp) (n lo hi : Int) (h0 : lo ≤ n) (h1 : n ≤ hi) :
    FnX Tryz.prog m 71 #[.int .i64 n, .int .i64 lo, .int .i64 hi] H fun e H' => e = .returned (.bool true) ∧ H' = H :=
  (bwithin_spec m H n lo hi).mono fun e H' ⟨he, hH⟩ => ⟨by rw [he, decide_eq_true h0, decide_eq_true h1]; rfl, hH⟩
theorem checkTimes2 (m : Md) (H : Hp) (v : Value) (xs : List Int) (k : Nat) (hk : k = xs.length) (hv : SlI H v xs) {n : Nat} (hok : TimesOk n xs) (hl : xs.length ≤ 1000) :
    FnX Tryz.prog m 70 #[v, .int .i64 k] H fun e H' => e = .returned (.int .i64 0) ∧ H' = H := by
  subst hk
  exact checkTimes_spec m H v xs hv hok hl
theorem bcheck_spec (main : Md) (H : Hp) (n : HN) (v : HV) (hd : HaulIn H n v) :
    FnX Tryz.prog main 28 #[n.agg v] H fun e H' => e = .returned (.int .i64 0) ∧ H.le H' := by
  obtain ⟨sv, cv, tv, xv⟩ := v
  obtain ⟨places, pieces, rule, notice, load, barrows, lo, hi, start, xss, ts, xs⟩ := n
  have hxl := hd.xlen
  replace hxl : xs.length ≤ ts.length ∧ ts.length ≤ xs.length := by simp only [] at hxl; omega
  obtain ⟨hday, htimes, hok, r0, r3, n0, n30, l1, l3, b1, b4, t1, t2, t20⟩ := hd
  simp only [] at hday htimes hok r0 r3 n0 n30 l1 l3 b1 b4 t1 t2 t20
  obtain ⟨sa, sn, sc, rfl⟩ := hday.st.isSlice
  obtain ⟨ca, cn, cc, rfl⟩ := hday.calls.isSlice
  have htv := hday.truth
  obtain ⟨ta, tc, rfl, htc, _⟩ := htv
  have hxv := htimes
  obtain ⟨xa, xc, rfl, hxc, _⟩ := hxv
  simp only [HN.agg]
  have hxl' : xs.length ≤ 1000 := by have := hday.true.1; have := hday.few; omega
  refine FnX_start Tryz.func28 rfl Tryz.ntmps28 (by simp) ?_
  (refine @Hid.out _ ?_; refine zA y28_35 ?_; (repeat (refine inC ?_; intro hc)); try (refine inK ?_; intro K hK))
  (intro vb hvb; generalize hG : Hp.set _ vb _ = H1; have lH1 := le_of_set hG hvb; have vvb := at_of_set hG; clear hG)
  have hday1 := hday.le lH1
  have htimes1 := htimes.le lH1
  ((try (refine @Hid.out _ ?_; refine zX y28_35 ?_)); (try (refine hK _ _ ?_; clear hK K; (try simp only [nq, ↓reduceIte, Nat.reduceEqDiff]))); refine @Hid.out _ ?_; refine zA y28_35 ?_; (repeat (refine inC ?_; intro hc)); try (refine inK ?_; intro K hK))
  refine (vrun_spec main H1 places pieces _ _ _ start xss ts hday1 rule r0 r3).runs.mono ?_
  rintro _ H2 ⟨w, rfl, lH2, _⟩
  have hday2 := hday1.le lH2
  have htimes2 := htimes1.le lH2
  have vvb2 := lH2 _ _ vvb
  ((try (refine @Hid.out _ ?_; refine zX y28_35 ?_)); (try (refine hK _ _ ?_; clear hK K; (try simp only [nq, ↓reduceIte, Nat.reduceEqDiff]))); refine @Hid.out _ ?_; refine zA y28_35 ?_; (repeat (refine inC ?_; intro hc)); try (refine inK ?_; intro K hK))
  refine (checkTimes2 main H2 _ xs _ (by omega) htimes2 hok hxl').runs.mono ?_
  rintro _ H3 ⟨rfl, hH3⟩
  rw [hH3]; clear hH3 H3
  ((try (refine @Hid.out _ ?_; refine zX y28_35 ?_)); (try (refine hK _ _ ?_; clear hK K; (try simp only [nq, ↓reduceIte, Nat.reduceEqDiff]))); refine @Hid.out _ ?_; refine zA y28_35 ?_; (repeat (refine inC ?_; intro hc)); try (refine inK ?_; intro K hK))
  refine (binside_spec main H2 notice 0 30 n0 n30).runs.mono ?_; rintro _ HQ ⟨rfl, hHQ⟩; rw [hHQ]; clear hHQ HQ; ((try (refine @Hid.out _ ?_; refine zX y28_35 ?_)); (try (refine hK _ _ ?_; clear hK K; (try simp only [nq, ↓reduceIte, Nat.reduceEqDiff]))); refine @Hid.out _ ?_; refine zA y28_35 ?_; (repeat (refine inC ?_; intro hc)); try (refine inK ?_; intro K hK))
  refine (binside_spec main H2 load 1 3 l1 l3).runs.mono ?_; rintro _ HQ ⟨rfl, hHQ⟩; rw [hHQ]; clear hHQ HQ; ((try (refine @Hid.out _ ?_; refine zX y28_35 ?_)); (try (refine hK _ _ ?_; clear hK K; (try simp only [nq, ↓reduceIte, Nat.reduceEqDiff]))); refine @Hid.out _ ?_; refine zA y28_35 ?_; (repeat (refine inC ?_; intro hc)); try (refine inK ?_; intro K hK))
  refine (binside_spec main H2 barrows 1 4 b1 b4).runs.mono ?_; rintro _ HQ ⟨rfl, hHQ⟩; rw [hHQ]; clear hHQ HQ; ((try (refine @Hid.out _ ?_; refine zX y28_35 ?_)); (try (refine hK _ _ ?_; clear hK K; (try simp only [nq, ↓reduceIte, Nat.reduceEqDiff]))); refine @Hid.out _ ?_; refine zA y28_35 ?_; (repeat (refine inC ?_; intro hc)); try (refine inK ?_; intro K hK))
  refine (binside_spec main H2 lo 1 20 t1 (by omega)).runs.mono ?_; rintro _ HQ ⟨rfl, hHQ⟩; rw [hHQ]; clear hHQ HQ; ((try (refine @Hid.out _ ?_; refine zX y28_35 ?_)); (try (refine hK _ _ ?_; clear hK K; (try simp only [nq, ↓reduceIte, Nat.reduceEqDiff]))); refine @Hid.out _ ?_; refine zA y28_35 ?_; (repeat (refine inC ?_; intro hc)); try (refine inK ?_; intro K hK))
  refine (binside_spec main H2 hi 1 20 (by omega) t20).runs.mono ?_; rintro _ HQ ⟨rfl, hHQ⟩; rw [hHQ]; clear hHQ HQ; ((try (refine @Hid.out _ ?_; refine zX y28_35 ?_)); (try (refine hK _ _ ?_; clear hK K; (try simp only [nq, ↓reduceIte, Nat.reduceEqDiff]))); refine @Hid.out _ ?_; refine zA y28_35 ?_; (repeat (refine inC ?_; intro hc)); try (refine inK ?_; intro K hK))
  (refine @Hid.out _ ?_; refine z9 Tryz.results28 ?_)
  exact ⟨by trivial, Hp.le_trans lH1 lH2⟩
end Go.Proofs.YtofmadjgbcopdaaGreatDoor
end
section
set_option linter.unusedSimpArgs false
set_option maxRecDepth 100000
set_option maxHeartbeats 1000000
set_option linter.unusedVariables false
namespace Go.X
open Go
theorem plan_takeS {P : Program} {main : Md} {lp : Option Nat} {Q : Exit → Act → Hp → Prop} {a : Act} {H : Hp} {S : Hp → Prop} {t i : Nat} {ops : List Oper} {o : Oper} {rest : List (Bool × Nat)} {v : Value} (ho : ops[i]? = some o) (hw : Region.wanted o (yielded ops.toArray a.tmps) = true) (hf : fine lp o = true)
    (hS : S H) (h : ∀ H', S H' → wpS P (execOp a.eval o) H' (YN P main v H') fun _ _ => False) (hk : planX P main lp ops.toArray Q S t rest (a.put o.dst v) H) : planX P main lp ops.toArray Q S t ((true, i) :: rest) a H :=
  ⟨hS, o, by simpa using ho, v, .inl ⟨hw, hf, h⟩, hk⟩
end Go.X
namespace Go.Proofs.YtofmadjgbcopdaaGreatDoor
open Go Go.X
set_option linter.defProp false
def y146_36 := And.intro @callF166 (And.intro (fun H => len_slice (H := H) Tryz.underlying22) (And.intro (fun H => indexAt_slice (H := H) Tryz.underlying22 Tryz.sizeOf3) (And.intro (fun H => loadAt_one (H := H) Tryz.underlying3 rfl) (And.intro (fun H => storeAt_int (H := H) Tryz.sizeOf3) (And.intro (fun H => slice_hi (H := H) Tryz.underlying22 Tryz.sizeOf3) (And.intro (fun H => slice_lo (H := H) Tryz.underlying22 Tryz.sizeOf3) (fun H => slice_lohi (H := H) Tryz.underlying22 Tryz.sizeOf3)))))))
def y166_36 := And.intro (fun H => len_slice (H := H) Tryz.underlying22) (And.intro (fun H => indexAt_slice (H := H) Tryz.underlying22 Tryz.sizeOf3) (fun H => loadAt_one (H := H) Tryz.underlying3 rfl))
def rowB : Value → Option Nat
  | .slice (some a) _ _ => some a.block
  | _ => none
theorem append_row2 {P : Program} {tt e : TypeId} {z : Value} {inf : TypeInfo} (hu : P.underlying tt = some (.slice e)) (hs : ∀ w, (sizeOf e).run P w = .ok 1 w) (hz : ∀ w, (zeroValue e).run P w = .ok z w) (hzc : z.cells.size = 1)
    (hi : ∀ w, (typeInfo e).run P w = .ok inf w) (hby : inf.bytes ≤ 1024) (hby0 : 0 < inf.bytes)
    {t : Option Nat} {H₀ H : Hp} {v : Value} {cs : List Value} (h : RowX t H₀ H v e cs) {g : Nat} {w : Value} (hg : H g = none) (hw : one w = true) (hn : cs.length ≤ 1000000) (ty : TypeId) (cb : Array Bool) (K : Next → Hp → Prop) (E : Value → Hp → Prop)
    (h' : ∀ v' H', RowX t H₀ H' v' e (cs ++ [w]) → (∀ x u, H x = some u → rowB v ≠ some x → H' x = some u) → (∀ x, rowB v' = some x → rowB v = some x ∨ H x = none) → K (.value v') H') :
    wpS P (builtin .append #[tt, tt] ty cb #[v, .slice (some ⟨g, 0, none⟩) 1 1]) (H.set g (.cells #[w] e (0, 0))) K E := by
  obtain ⟨hlex, hrow⟩ := h
  have hws : ∀ (j : Nat) (u : Value), [w][j]? = some u → (H.set g (.cells #[w] e (0, 0))).cell ⟨g, 0 + j, none⟩ = some u := by
    intro j u hj
    rw [Nat.zero_add, cell_of (b := g) (p := true) (c := #[w]) (e := e) (f := (0, 0)) (by rw [get_set, if_pos rfl])]
    simpa using hj
  have h1w : ∀ u ∈ [w], one u = true := by simp [hw]
  rcases hrow with ⟨rfl, rfl⟩ | ⟨b, c, cap, hb0, hb, rfl, hcs, hcap, hget⟩
  · refine append_law (P := P) hu hs hz hzc hi hby hby0 (NewRow.nil H e 1) (Hp.le_set hg) (by simp) id hws h1w (by omega) ty cb K E (fun v' H1 H2 hr hl => ?_)
    have hle : H.le H2 := fun x u hx => hl _ _ (hr.le _ _ hx)
    refine h' v' H2 ⟨hlex.le hle, ?_⟩ (fun x u hx _ => hle _ _ hx) ?_
    · rcases hr with ⟨_, hn0, _⟩ | ⟨b', c', cap', hb', rfl, rfl, hs', hl', hn', hg'⟩
      · simp at hn0
      · refine .inr ⟨b', c', cap', hlex.gone hb', hl _ _ (by rw [get_set, if_pos rfl]), by simp, by omega, by simpa using hn', fun i u hi => hg' i u hi⟩
    · intro x hx
      rcases hr with ⟨_, hn0, _⟩ | ⟨b', c', cap', hb', rfl, rfl, hs', hl', hn', hg'⟩
      · simp at hn0
      · simp only [rowB, Option.some.injEq] at hx
        subst hx
        exact .inr hb'
  · have hgb : g ≠ b := fun e => by rw [e, hb] at hg; cases hg
    have hD : (fun x => if x = b then none else H x : Hp) b = none := by simp
    have hH : H = Hp.set (fun x => if x = b then none else H x) b (.cells c e (0, 0)) := by
      funext x
      unfold Hp.set
      by_cases e : x = b
      · subst e; simp [hb]
      · simp [e]
    refine append_law (P := P) hu hs hz hzc hi hby hby0 (H₀ := fun x => if x = b then none else H x) (H := H) (n := cs.length) (cs := cs) (.inr ⟨b, c, cap, hD, hH, rfl, by omega, by omega, hcap, hget⟩) (Hp.le_set hg) (by simp) (fun _ => hg) hws h1w (by omega) ty cb K E (fun v' H1 H2 hr hl => ?_)
    have hkeep : ∀ x u, x ≠ b → H x = some u → H2 x = some u := fun x u hn hx => hl _ _ (hr.le _ _ (by simp only [hn, if_false]; exact hx))
    rcases hr with ⟨_, hn0, _⟩ | ⟨b', c', cap', hb', rfl, rfl, hs', hl', hn', hg'⟩
    · simp at hn0
    · have hb2 : H2 b' = some (true, .cells c' e (0, 0)) := hl _ _ (by rw [get_set, if_pos rfl])
      have hb'0 : H₀ b' = none := by
        by_cases e : b' = b
        · rw [e]; exact hb0
        · simp only [e, if_false] at hb'; exact hlex.gone hb'
      refine h' _ H2 ⟨fun x u hx => ?_, .inr ⟨b', c', cap', hb'0, hb2, by simp, by omega, by simpa using hn', hg'⟩⟩ (fun x u hx ho => hkeep x _ (fun e => ho (by rw [e]; rfl)) hx) (fun x hx => ?_)
      · obtain ⟨u', hu', e'⟩ := hlex x u hx
        exact ⟨u', hkeep x u' (fun e => by rw [e, hb0] at hx; cases hx) hu', e'⟩
      · simp only [rowB, Option.some.injEq] at hx
        subst hx
        by_cases e : b' = b
        · exact .inl (by rw [e]; rfl)
        · simp only [e, if_false] at hb'; exact .inr hb'
theorem SlI.lexO {H H' : Hp} {v : Value} {xs : List Int} (h : SlI H v xs) {b : Nat} (hl : Lex (some b) H H') (hb : ∀ p c fr, H b ≠ some (p, .cells c 3 fr)) : SlI H' v xs :=
  h.move fun x p c fr hx => hl.keeps hx fun e => hb p c fr (e ▸ hx)
theorem row_own0 {t : Option Nat} {H₀ H : Hp} {xs : List Int} {b : Nat} {n cap : Nat} (h : RowX t H₀ H (.slice (some ⟨b, 0, none⟩) n cap) 3 (ints xs)) : n = xs.length ∧ H₀ b = none ∧ Own0 H b cap xs := by
  rcases h.2 with ⟨h1, _⟩ | ⟨b', c, cap', h0, hb, he, hc, hle, hget⟩
  · cases h1
  · simp only [Value.slice.injEq, Option.some.injEq, Addr.mk.injEq] at he
    obtain ⟨⟨rfl, _, _⟩, rfl, rfl⟩ := he
    rw [ints_len] at hle ⊢
    exact ⟨rfl, h0, c, hb, hc, hle, fun i x hi => hget i _ (ints_get hi)⟩
theorem deleteNil_spec (m : Md) (H : Hp) (f : FuncId) (capt : Array Value) :
    FnX Tryz.prog m 146 #[.slice none 0 0, .func (.func f) #[] capt] H fun e H' => e = .returned (.slice none 0 0) ∧ H' = H := by
  have hix : FnX Tryz.prog m 166 #[.slice none 0 0, .func (.func f) #[] capt] H fun e H' => e = .returned (.int .i64 (-1)) ∧ H' = H := by
    refine FnX_start Tryz.func166 rfl Tryz.ntmps166 (by simp) ?_
    (refine @Hid.out _ ?_; refine zA y166_36 ?_; (repeat (refine inC ?_; intro hc)); try (refine inK ?_; intro K hK))
    refine wpX_loop (fun w a' H' => ∃ e, a' = act 19 e [] ∧ e 7 = .int .i64 (0 : Nat) ∧ e 8 = .int .i64 (0 : Nat) ∧ H' = H) (n := 0) ?_ ?_
    · exact ⟨_, rfl, rfl, rfl, by trivial⟩
    · rintro w a' H' ⟨e, rfl, e7, e8, hH⟩
      rw [hH]; clear hH H'
      (refine @Hid.out _ ?_; refine zA y166_36 ?_; (repeat (refine inC ?_; intro hc)); try (refine inK ?_; intro K hK))
      (refine @Hid.out _ ?_; refine z9 Tryz.results166 ?_)
      (refine ⟨?_, ?_⟩ <;> first | rfl | trivial | assumption)
  refine FnX_start Tryz.func146 rfl Tryz.ntmps146 (by simp) ?_
  (refine @Hid.out _ ?_; refine zA y146_36 ?_; (repeat (refine inC ?_; intro hc)); try (refine inK ?_; intro K hK))
  refine (hix).runs.mono ?_; rintro _ HQ ⟨rfl, hHQ⟩; rw [hHQ]; clear hHQ HQ; ((try (refine @Hid.out _ ?_; refine zX y146_36 ?_)); (try (refine hK _ _ ?_; clear hK K; (try simp only [nq, ↓reduceIte, Nat.reduceEqDiff]))); refine @Hid.out _ ?_; refine zA y146_36 ?_; (repeat (refine inC ?_; intro hc)); try (refine inK ?_; intro K hK))
  (refine @Hid.out _ ?_; refine z9 Tryz.results146 ?_)
  (refine ⟨?_, ?_⟩ <;> first | rfl | trivial | assumption)
theorem deleteRow_spec (m : Md) (t : Option Nat) (H₀ H : Hp) (v : Value) (xs : List Int) (f : FuncId) (capt : List Value) (p : Int → Bool) (hcall : ∀ (args : Array Value) (H : Hp) (K : Next → Hp → Prop) (E : Value → Hp → Prop), wpS Tryz.prog (callFunc f args) H K E = K (.enter f args) H)
    (hr : RowX t H₀ H v 3 (ints xs)) (hf : ∀ b, rowB v = some b → H₀ b = none → Tells m b H f capt p) (hl : xs.length ≤ 1000000) :
    FnX Tryz.prog m 146 #[v, .func (.func f) #[] capt.toArray] H fun e H' => ∃ v', e = .returned v' ∧ RowX t H₀ H' v' 3 (ints (xs.filter fun x => !p x)) ∧ rowB v' = rowB v ∧ ∀ x u, H x = some u → rowB v ≠ some x → H' x = some u := by
  have hrr := hr
  rcases hr.2 with ⟨rfl, hx⟩ | ⟨b, c, cap, h0, hb, rfl, hc, hle, hget⟩
  · have : xs = [] := by simpa [ints] using hx
    subst this
    exact (deleteNil_spec m H f _).mono fun e H' ⟨he, hH⟩ => ⟨_, he, by rw [hH]; exact hrr, rfl, fun x u hx _ => by rw [hH]; exact hx⟩
  · obtain ⟨_, _, hown⟩ := row_own0 hrr
    rw [ints_len]
    refine (deleteFunc_spec m H b cap xs f capt p hcall hown (hf b rfl h0) hl).mono fun e H' ⟨he, ho, o, hH⟩ => ⟨_, he, ?_, rfl, fun x u hx hn => ?_⟩
    · obtain ⟨c', hb', hc', hle', hget'⟩ := ho
      refine ⟨by rw [hH]; exact hr.1.own h0, .inr ⟨b, c', cap, h0, hb', by rw [ints_len], hc', by rw [ints_len]; exact hle', fun i u hi => ?_⟩⟩
      simp only [ints, List.getElem?_map, Option.map_eq_some_iff] at hi
      obtain ⟨y, hy, rfl⟩ := hi
      exact hget' i y hy
    · rw [hH, set_ne (fun e => hn (by rw [e]; rfl))]
      exact hx
end Go.Proofs.YtofmadjgbcopdaaGreatDoor
end
section
set_option linter.unusedSimpArgs false
namespace Go.X
open Go
inductive PT where
  | nil
  | take (i : Nat) (p : PT)
  | one (i : Nat) (p : PT)
  | two (i : Nat) (p : PT) (j : Nat) (q : PT)
def PT.depth : PT → Nat
  | .nil => 0
  | .take _ p => p.depth + 1
  | .one _ p => p.depth + 1
  | .two _ p _ q => max p.depth q.depth + 1
section
variable {P : Program} {main : Md} {lp : Option Nat} {Q : Exit → Act → Hp → Prop} {ops : Array Oper} {S : Hp → Prop}
def planT (P : Program) (main : Md) (lp : Option Nat) (ops : Array Oper) (Q : Exit → Act → Hp → Prop) (S : Hp → Prop) : PT → Act → Hp → Prop
  | .nil, a, H => Q .normal a H
  | .take i p, a, H => S H ∧ ∃ o, ops[i]? = some o ∧ ∃ v, YieldsX P main lp ops S o v a ∧ planT P main lp ops Q S p (a.put o.dst v) H
  | .one i p, a, H => numX P main lp ops i Q (fun a' H' => S H' ∧ planT P main lp ops Q S p a' H') a H
  | .two i p j q, a, H => numX P main lp ops i Q (fun a' H' => S H' ∧ planT P main lp ops Q S p a' H') a H ∧ numX P main lp ops j Q (fun a' H' => S H' ∧ planT P main lp ops Q S q a' H') a H
def planTOK (ops : Array Oper) : PT → Array Bool → Bool
  | .nil, listed => (Region.ready .any ops listed).isEmpty
  | .take i p, listed => Region.free .any ops listed i && (Region.ready .any ops listed).contains i && planTOK ops p (listed.setIfInBounds i true)
  | .one i p, listed => (Region.ready .any ops listed == [i]) && planTOK ops p (listed.setIfInBounds i true)
  | .two i p j q, listed => (Region.ready .any ops listed == [i, j]) && planTOK ops p (listed.setIfInBounds i true) && planTOK ops q (listed.setIfInBounds j true)
theorem planT_sound (hsel : Region.noSelect ops = true) (hQ : ∀ c a H d v, Q (.panic c) (a.put d v) H → Q (.panic c) a H) :
    ∀ (plan : PT) (fuel : Nat) (listed : Array Bool) (a : Act) (H : Hp), plan.depth ≤ fuel → Closed ops listed → planTOK ops plan listed = true →
      planT P main lp ops Q S plan a H → anyS P main lp ops Q S ops.size fuel listed a H
  | .nil, fuel, listed, a, H, _, _, hok, h => by
    have hr : Region.ready .any ops listed = [] := by simpa [planTOK] using hok
    cases fuel with
    | zero => exact ⟨hr, h⟩
    | succ n => exact ⟨fun _ => h, by rw [hr]; simp⟩
  | .take i p, 0, _, _, _, hl, _, _, _ => by simp [PT.depth] at hl
  | .one i p, 0, _, _, _, hl, _, _, _ => by simp [PT.depth] at hl
  | .two i p j q, 0, _, _, _, hl, _, _, _ => by simp [PT.depth] at hl
  | .take i p, fuel + 1, listed, a, H, hl, hcl, hok, h => by
    simp only [planTOK, Bool.and_eq_true] at hok
    obtain ⟨⟨hf, hr⟩, hok⟩ := hok
    obtain ⟨hS, o, ho, v, hy, h⟩ := h
    have hr' : i ∈ Region.ready .any ops listed := by simpa using hr
    have hlt : i < ops.size := (Array.getElem?_eq_some_iff.1 ho).1
    exact anyS_first ho (Region.noSelect_spec hsel) (by omega) (fun hlt => absurd hlt (Nat.lt_irrefl _)) (fun c a H => hQ c a H _ _) fuel listed a H hcl (Region.free_spec ho hf) hr' hy hS
      (planT_sound hsel hQ p fuel _ _ _ (by simp [PT.depth] at hl; omega) (hcl.set hr') hok h)
  | .one i p, fuel + 1, listed, a, H, hl, hcl, hok, h => by
    simp only [planTOK, Bool.and_eq_true, beq_iff_eq] at hok
    obtain ⟨hr, hok⟩ := hok
    refine ⟨fun h0 => (by rw [hr] at h0; cases h0), fun j hj => ?_⟩
    have hji : j = i := by rw [hr] at hj; simpa using hj
    subst hji
    exact numX_mono (fun a' H' h' => ⟨.inr h'.1, planT_sound hsel hQ p fuel _ _ _ (by simp [PT.depth] at hl; omega) (hcl.set hj) hok h'.2⟩) h
  | .two i p j q, fuel + 1, listed, a, H, hl, hcl, hok, h => by
    simp only [planTOK, Bool.and_eq_true, beq_iff_eq] at hok
    obtain ⟨⟨hr, hok1⟩, hok2⟩ := hok
    refine ⟨fun h0 => (by rw [hr] at h0; cases h0), fun k hk => ?_⟩
    have hkk : k = i ∨ k = j := by rw [hr] at hk; simpa using hk
    rcases hkk with rfl | rfl
    · exact numX_mono (fun a' H' h' => ⟨.inr h'.1, planT_sound hsel hQ p fuel _ _ _ (by simp [PT.depth] at hl; omega) (hcl.set hk) hok1 h'.2⟩) h.1
    · exact numX_mono (fun a' H' h' => ⟨.inr h'.1, planT_sound hsel hQ q fuel _ _ _ (by simp [PT.depth] at hl; omega) (hcl.set hk) hok2 h'.2⟩) h.2
theorem wpX_planT {id : Nat} {a : Act} {H : Hp} (S : Hp → Prop) (plan : PT) (hm : P.follows .mixedOrders = true) (hsel : Region.noSelect ops = true) (hlen : plan.depth ≤ ops.size)
    (hok : planTOK ops plan (Array.replicate ops.size false) = true)
    (hQ : ∀ c a H d v, Q (.panic c) (a.put d v) H → Q (.panic c) a H) (h : planT P main lp ops Q S plan a H) : wpX P main lp (.region id ops true) Q a H :=
  wpX_draw (fun _ => True) hm (anyX_of_anyS _ _ _ _ (planT_sound hsel hQ plan _ _ _ _ hlen .start hok h))
theorem wpX_tlast {id : Nat} {ops : Array Oper} {a : Act} {H : Hp} (S : Hp → Prop) (plan : PT) (hm : P.follows .mixedOrders = true) (hsel : Region.noSelect ops = true) (hlen : plan.depth ≤ ops.size)
    (hok : planTOK ops plan (Array.replicate ops.size false) = true)
    (h : ∀ K : Act → Hp → Prop, (∀ a' H', Q .normal a' H' → K a' H') → planT P main lp ops (only K) S plan a H) :
    wpX P main lp (.region id ops true) Q a H := by
  refine wpX_mono (Q := only fun a' H' => Q .normal a' H') (wpX_planT S plan hm hsel hlen hok (fun c a H d v h => h) (h _ fun _ _ h => h)) fun e a H q => ?_
  cases e <;> first | exact q | exact q.elim
theorem planT_take {S : Hp → Prop} {a : Act} {H : Hp} {i : Nat} {ops : List Oper} {o : Oper} {p : PT} {v : Value} (ho : ops[i]? = some o) (hw : Region.wanted o (yielded ops.toArray a.tmps) = true) (hf : fine lp o = true)
    (hS : S H) (h : ∀ H', S H' → wpS P (execOp a.eval o) H' (YN P main v H') fun _ _ => False) (hk : planT P main lp ops.toArray Q S p (a.put o.dst v) H) : planT P main lp ops.toArray Q S (.take i p) a H :=
  ⟨hS, o, by simpa using ho, v, .inl ⟨hw, hf, h⟩, hk⟩
theorem planT_one {S : Hp → Prop} {a : Act} {H : Hp} {i : Nat} {ops : Array Oper} {p : PT} (h : numX P main lp ops i Q (fun a' H' => S H' ∧ planT P main lp ops Q S p a' H') a H) : planT P main lp ops Q S (.one i p) a H := h
theorem planT_two {S : Hp → Prop} {a : Act} {H : Hp} {i j : Nat} {ops : Array Oper} {p q : PT} (h : numX P main lp ops i Q (fun a' H' => S H' ∧ planT P main lp ops Q S p a' H') a H) (h' : numX P main lp ops j Q (fun a' H' => S H' ∧ planT P main lp ops Q S q a' H') a H) : planT P main lp ops Q S (.two i p j q) a H := ⟨h, h'⟩
theorem planT_nil {S : Hp → Prop} {a : Act} {H : Hp} {ops : Array Oper} (h : Q .normal a H) : planT P main lp ops Q S .nil a H := h
@[congr] theorem planT_congr {S : Hp → Prop} {ops : Array Oper} {p : PT} {a a' : Act} {H H' : Hp} (ha : a = a') (hH : H = H') : planT P main lp ops Q S p a H = planT P main lp ops Q S p a' H' := by subst ha hH; rfl
end
end Go.X
end
