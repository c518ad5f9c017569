/- Texts Look Run. -/
import Derived.Test.YtiempdpjcddgfaaDoorJ05
section
/- When pieces are asked for next. -/
set_option linter.unusedSimpArgs false
set_option maxRecDepth 100000
set_option maxHeartbeats 1000000
set_option linter.unusedVariables false
namespace Go.Proofs.YtiempdpjcddgfaaDoor
open Go Go.X
set_option linter.defProp false
def y75_31 := And.intro (fun H => fieldAt_eq (H := H) Tryd.underlying167 (i := 2) rfl (off := 12) rfl Tryd.sizeOf165) (And.intro (fun H => slice_arr (H := H) Tryd.underlying165 Tryd.sizeOf3) (And.intro (fun H => slice_arr_hi (H := H) Tryd.underlying165 Tryd.sizeOf3) (And.intro (fun H => fieldAt_eq (H := H) Tryd.underlying93 (i := 1) rfl (off := 4) rfl Tryd.sizeOf22) (And.intro (fun H => loadAt_one (H := H) Tryd.underlying22 rfl) (And.intro (fun H => len_slice (H := H) Tryd.underlying22) (And.intro (fun H => indexAt_array (H := H) Tryd.underlying165 Tryd.sizeOf3) (And.intro (fun H => storeAt_int (H := H) Tryd.sizeOf3) (And.intro (fun H => indexAt_slice (H := H) Tryd.underlying22 Tryd.sizeOf3) (fun H => loadAt_one (H := H) Tryd.underlying3 rfl)))))))))

/-- The first index from k on at which a piece is asked for; the length if it is not. -/
def nxt (ts : List Int) (k : Nat) (p : Int) : Nat := k + (ts.drop k).findIdx (· == p)
theorem nxt_step (ts : List Int) (k : Nat) (p : Int) (h : k < ts.length) : nxt ts k p = if ts[k] = p then k else nxt ts (k + 1) p := by
  unfold nxt
  rw [List.drop_eq_getElem_cons h, List.findIdx_cons]
  by_cases e : ts[k] = p
  · simp [e]
  · have : (ts[k] == p) = false := by simpa using e
    rw [this, if_neg e]
    simp only [cond_false]
    omega
theorem nxt_end (ts : List Int) (p : Int) : nxt ts ts.length p = ts.length := by
  unfold nxt; simp
theorem nxt_le (ts : List Int) (k : Nat) (p : Int) (h : k ≤ ts.length) : nxt ts k p ≤ ts.length := by
  unfold nxt
  have := List.findIdx_le_length (xs := ts.drop k) (p := (· == p))
  simp at this
  omega
/-- When each piece is asked for next from k on. -/
def laterL (ts : List Int) (k : Nat) : List Int := (List.range 6).map fun p : Nat => (nxt ts k (p : Int) : Int)
theorem laterL_len (ts : List Int) (k : Nat) : (laterL ts k).length = 6 := by simp [laterL]
theorem laterL_get (ts : List Int) (k : Nat) (p : Int) (h0 : 0 ≤ p) (h6 : p < 6) : (laterL ts k).getD p.toNat 0 = nxt ts k p := by
  have : (p.toNat : Int) = p := by omega
  simp [laterL, List.getD, List.getElem?_map, List.getElem?_range (show p.toNat < 6 by omega), this]
theorem laterL_set (ts : List Int) (k : Nat) (h : k < ts.length) (h0 : 0 ≤ ts[k]) (h6 : ts[k] < 6) : (laterL ts (k + 1)).set (ts[k]).toNat (k : Int) = laterL ts k := by
  apply List.ext_getElem
  · simp [laterL]
  · intro i h1 h2
    simp only [laterL, List.getElem_map, List.getElem_range, List.getElem_set]
    rw [nxt_step ts k _ h]
    by_cases e : (ts[k]).toNat = i
    · rw [if_pos e, if_pos (by omega)]
    · rw [if_neg e, if_neg (by omega)]
theorem hist_set {came asked later : List Int} (h1 : came.length = 6) (h2 : asked.length = 6) (p : Nat) (x : Int) :
    (ints (came ++ (asked ++ later))).set (12 + p) (.int .i64 x) = ints (came ++ (asked ++ later.set p x)) := by
  rw [ints_setL, List.set_append_right _ _ (by omega), List.set_append_right _ _ (by omega)]
  congr 5; omega
theorem hist_set1 {came asked later : List Int} (h1 : came.length = 6) (p : Nat) (hp : p < 6) (x : Int) :
    (ints (came ++ (asked ++ later))).set p (.int .i64 x) = ints (came.set p x ++ (asked ++ later)) := by
  rw [ints_setL, List.set_append_left _ _ (by omega)]
theorem hist_set2 {came asked later : List Int} (h1 : came.length = 6) (h2 : asked.length = 6) (p : Nat) (hp : p < 6) (x : Int) :
    (ints (came ++ (asked ++ later))).set (6 + p) (.int .i64 x) = ints (came ++ (asked.set p x ++ later)) := by
  rw [ints_setL, List.set_append_right _ _ (by omega), List.set_append_left _ _ (by omega)]
  congr 4; omega
theorem hist_len {came asked later : List Int} (h1 : came.length = 6) (h2 : asked.length = 6) (h3 : later.length = 6) : (ints (came ++ (asked ++ later))).length = 18 := by
  simp [ints]; omega

theorem over_hist {came asked later : List Int} (h1 : came.length = 6) (h2 : asked.length = 6) (h3 : later.length = 6) :
    over (ints (came ++ (asked ++ later))).toArray 12 (List.replicate 6 (.int .i64 0)) = (ints (came ++ (asked ++ List.replicate 6 0))).toArray := by
  have hl := hist_len h1 h2 h3
  rw [over_list _ _ _ (by simp [hl])]
  congr 1
  have ht : (came ++ (asked ++ later)).take 12 = came ++ asked := by rw [← List.append_assoc, List.take_left' (by simp; omega)]
  have hd : (came ++ (asked ++ later)).drop (12 + (List.replicate 6 (Value.int .i64 0)).length) = [] := List.drop_of_length_le (by simp; omega)
  unfold ints
  rw [← List.map_take, ← List.map_drop, ht, hd]
  simp

theorem look_spec (main : Bool) (H : Hp) (db : Nat) (places pieces : Int) (sv cv tv : Value) (ts : List Int) (mb : Nat) (hdb : H db = some (true, dayO places pieces sv cv tv mb)) (hts : SlI H tv ts) (hb : Nat) (came asked later : List Int) (h1 : came.length = 6) (h2 : asked.length = 6) (h3 : later.length = 6)
    (hhb : H hb = some (true, histO came asked later)) (hne : hb ≠ db) (hl : ts.length ≤ 1000) (h6 : ∀ t ∈ ts, 0 ≤ t ∧ t < 6) (i : Nat) (hi : i < ts.length) :
    FnX Tryd.prog main 75 #[.pointer (some ⟨db, 0, none⟩), .pointer (some ⟨hb, 0, none⟩), .int .i64 i] H fun e H' => e = .returned (.tuple #[]) ∧ H' = H.set hb (histO came asked (laterL ts (i + 1))) := by
  have htsS := hts
  obtain ⟨ta, tc, rfl, htc, _⟩ := hts
  have hne' := hne.symm
  have hlen18 := hist_len h1 h2 h3
  refine FnX_start Tryd.func75 rfl Tryd.ntmps75 (by simp) ?_
  repeat' (first
  | (refine wpX_stmtL rfl ?_; intro K hK; simp -implicitDefEqProofs (disch := first | omega | (simp only [qd] <;> omega)) only [xq, ↓xp, qc, Nat.reduceAdd, List.range, List.range.loop, fine, Nat.reduceEqDiff, ↓reduceIte, yielded, reduceCtorEq, Nat.reduceLT, Nat.reduceMul, Nat.reduceSub, one, Nat.reduceLeDiff, runX_cons, y75_31, aq, ↓ap, qe0, qe1, qe2, *, -hK]; try (refine hK _ _ ?_; clear hK K))
  | (refine wpX_lastL rfl ?_; intro K hK; simp -implicitDefEqProofs (disch := first | omega | (simp only [qd] <;> omega)) only [xq, ↓xp, qc, Nat.reduceAdd, List.range, List.range.loop, fine, Nat.reduceEqDiff, ↓reduceIte, yielded, reduceCtorEq, Nat.reduceLT, Nat.reduceMul, Nat.reduceSub, one, Nat.reduceLeDiff, runX_cons, y75_31, aq, ↓ap, qe0, qe1, qe2, *, -hK]; try (refine hK _ _ ?_; clear hK K; (try simp only [nq, ↓reduceIte, Nat.reduceEqDiff])))
  | (refine wpX_skip ?_; (try simp only [nq, ↓reduceIte, Nat.reduceEqDiff]))
  | (refine wpX_label ?_; (try simp only [nq, ↓reduceIte, Nat.reduceEqDiff]))
  | (refine wpX_exit ?_; (try simp only [nq, ↓reduceIte, Nat.reduceEqDiff]))
  | (refine wpX_goto ?_; (try simp only [nq, ↓reduceIte, Nat.reduceEqDiff]))
  | (refine wpX_condK (by simp only [act_eval, upd_get, Nat.reduceEqDiff, Nat.reduceLT, ↓reduceIte, *]; rfl) ?_ ?_ <;> (intro hc; first | (exfalso; simp -implicitDefEqProofs (disch := omega) only [*, bq, reduceCtorEq] at hc; done) | (simp only [dq, qe3, qe4, qe5, qe6] at hc) | skip))
  | (refine wpX_scope0 ?_)
  | (refine wpX_block ?_)
  | (refine wpX_seq ?_))
  refine clear_slice (by kernel_rfl) Tryd.zeroValue3 rfl _ _ _ _ _ _ hhb (by simp [hlen18]) _ _ ?_
  (try simp -implicitDefEqProofs (disch := first | omega | (simp only [qd] <;> omega)) only [xq, ↓xp, qc, Nat.reduceAdd, List.range, List.range.loop, fine, Nat.reduceEqDiff, ↓reduceIte, yielded, reduceCtorEq, Nat.reduceLT, Nat.reduceMul, Nat.reduceSub, one, Nat.reduceLeDiff, runX_cons, y75_31, aq, ↓ap, qe0, qe1, qe2, *, -hK]); try (refine hK _ _ ?_; clear hK K; (try simp only [nq, ↓reduceIte, Nat.reduceEqDiff])); repeat' (first
  | (refine wpX_stmtL rfl ?_; intro K hK; simp -implicitDefEqProofs (disch := first | omega | (simp only [qd] <;> omega)) only [xq, ↓xp, qc, Nat.reduceAdd, List.range, List.range.loop, fine, Nat.reduceEqDiff, ↓reduceIte, yielded, reduceCtorEq, Nat.reduceLT, Nat.reduceMul, Nat.reduceSub, one, Nat.reduceLeDiff, runX_cons, y75_31, aq, ↓ap, qe0, qe1, qe2, *, -hK]; try (refine hK _ _ ?_; clear hK K))
  | (refine wpX_lastL rfl ?_; intro K hK; simp -implicitDefEqProofs (disch := first | omega | (simp only [qd] <;> omega)) only [xq, ↓xp, qc, Nat.reduceAdd, List.range, List.range.loop, fine, Nat.reduceEqDiff, ↓reduceIte, yielded, reduceCtorEq, Nat.reduceLT, Nat.reduceMul, Nat.reduceSub, one, Nat.reduceLeDiff, runX_cons, y75_31, aq, ↓ap, qe0, qe1, qe2, *, -hK]; try (refine hK _ _ ?_; clear hK K; (try simp only [nq, ↓reduceIte, Nat.reduceEqDiff])))
  | (refine wpX_skip ?_; (try simp only [nq, ↓reduceIte, Nat.reduceEqDiff]))
  | (refine wpX_label ?_; (try simp only [nq, ↓reduceIte, Nat.reduceEqDiff]))
  | (refine wpX_exit ?_; (try simp only [nq, ↓reduceIte, Nat.reduceEqDiff]))
  | (refine wpX_goto ?_; (try simp only [nq, ↓reduceIte, Nat.reduceEqDiff]))
  | (refine wpX_condK (by simp only [act_eval, upd_get, Nat.reduceEqDiff, Nat.reduceLT, ↓reduceIte, *]; rfl) ?_ ?_ <;> (intro hc; first | (exfalso; simp -implicitDefEqProofs (disch := omega) only [*, bq, reduceCtorEq] at hc; done) | (simp only [dq, qe3, qe4, qe5, qe6] at hc) | skip))
  | (refine wpX_scope0 ?_)
  | (refine wpX_block ?_)
  | (refine wpX_seq ?_))
  refine wpX_loop (fun w a' H' => ∃ e j L, w = 6 - j ∧ j ≤ 6 ∧ L.length = 6 ∧ (∀ k : Nat, k < j → L[k]? = some (ts.length : Int)) ∧ a' = act 49 e [] ∧ e 0 = .pointer (some ⟨db, 0, none⟩) ∧ e 1 = .pointer (some ⟨hb, 0, none⟩) ∧ e 2 = .int .i64 i ∧ e 12 = .int .i64 (j : Nat) ∧ H' = H.set hb (histO came asked L)) (n := 6) ?_ ?_
  · refine ⟨_, 0, List.replicate 6 0, rfl, by omega, by simp, fun k hk => by omega, rfl, rfl, rfl, rfl, rfl, ?_⟩
    congr 1
    simp only [histO]
    rw [over_hist h1 h2 h3]
  · rintro w a' H' ⟨e, j, L, rfl, hj, hL, hLj, rfl, e0, e1, e2, e12, hH⟩
    have vh : (H.set hb (histO came asked L)) hb = some (true, histO came asked L) := set_at
    have vd : (H.set hb (histO came asked L)) db = some (true, dayO places pieces sv cv (.slice ta ts.length tc) mb) := by rw [set_ne hne.symm]; exact hdb
    rw [hH]; clear hH H'
    have hlen18 := hist_len h1 h2 hL
    by_cases hlt : j < 6
    · repeat' (first
  | (refine wpX_stmtL rfl ?_; intro K hK; simp -implicitDefEqProofs (disch := first | omega | (simp only [qd] <;> omega)) only [xq, ↓xp, qc, Nat.reduceAdd, List.range, List.range.loop, fine, Nat.reduceEqDiff, ↓reduceIte, yielded, reduceCtorEq, Nat.reduceLT, Nat.reduceMul, Nat.reduceSub, one, Nat.reduceLeDiff, runX_cons, y75_31, aq, ↓ap, qe0, qe1, qe2, *, -hK]; try (refine hK _ _ ?_; clear hK K))
  | (refine wpX_lastL rfl ?_; intro K hK; simp -implicitDefEqProofs (disch := first | omega | (simp only [qd] <;> omega)) only [xq, ↓xp, qc, Nat.reduceAdd, List.range, List.range.loop, fine, Nat.reduceEqDiff, ↓reduceIte, yielded, reduceCtorEq, Nat.reduceLT, Nat.reduceMul, Nat.reduceSub, one, Nat.reduceLeDiff, runX_cons, y75_31, aq, ↓ap, qe0, qe1, qe2, *, -hK]; try (refine hK _ _ ?_; clear hK K; (try simp only [nq, ↓reduceIte, Nat.reduceEqDiff])))
  | (refine wpX_skip ?_; (try simp only [nq, ↓reduceIte, Nat.reduceEqDiff]))
  | (refine wpX_label ?_; (try simp only [nq, ↓reduceIte, Nat.reduceEqDiff]))
  | (refine wpX_exit ?_; (try simp only [nq, ↓reduceIte, Nat.reduceEqDiff]))
  | (refine wpX_goto ?_; (try simp only [nq, ↓reduceIte, Nat.reduceEqDiff]))
  | (refine wpX_condK (by simp only [act_eval, upd_get, Nat.reduceEqDiff, Nat.reduceLT, ↓reduceIte, *]; rfl) ?_ ?_ <;> (intro hc; first | (exfalso; simp -implicitDefEqProofs (disch := omega) only [*, bq, reduceCtorEq] at hc; done) | (simp only [dq, qe3, qe4, qe5, qe6] at hc) | skip))
  | (refine wpX_scope0 ?_)
  | (refine wpX_block ?_)
  | (refine wpX_seq ?_))
      (refine wpX_dst1 10 [(true, 0), (true, 1), (true, 2), (true, 3), (true, 4), (true, 5), (true, 6), (true, 7), (true, 8), (true, 9), (false, 10)] (by kernel_rfl) (by kernel_rfl) (by simp) (by kernel_rfl) ?_; intro K hK; (iterate 10 (apply plan_take rfl rfl rfl; (focus (simp -implicitDefEqProofs (disch := first | omega | (simp only [qd] <;> omega)) only [xq, ↓xp, qc, Nat.reduceAdd, List.range, List.range.loop, fine, Nat.reduceEqDiff, ↓reduceIte, yielded, reduceCtorEq, Nat.reduceLT, Nat.reduceMul, Nat.reduceSub, one, Nat.reduceLeDiff, runX_cons, y75_31, aq, ↓ap, qe0, qe1, qe2, *, -hK, YN_value] <;> (first | exact rfl | exact ⟨rfl, rfl⟩ | exact ⟨rfl, trivial⟩))); simp -implicitDefEqProofs (disch := first | omega | (simp only [qd] <;> omega)) only [act_put, act_put_none])); refine plan_tail ?_; simp -implicitDefEqProofs (disch := first | omega | (simp only [qd] <;> omega)) only [xq, ↓xp, qc, Nat.reduceAdd, List.range, List.range.loop, fine, Nat.reduceEqDiff, ↓reduceIte, yielded, reduceCtorEq, Nat.reduceLT, Nat.reduceMul, Nat.reduceSub, one, Nat.reduceLeDiff, runX_cons, y75_31, aq, ↓ap, qe0, qe1, qe2, *, -hK]; try (refine hK _ _ ?_; clear hK K; (try simp only [nq, ↓reduceIte, Nat.reduceEqDiff])))
      repeat' (first
  | (refine wpX_stmtL rfl ?_; intro K hK; simp -implicitDefEqProofs (disch := first | omega | (simp only [qd] <;> omega)) only [xq, ↓xp, qc, Nat.reduceAdd, List.range, List.range.loop, fine, Nat.reduceEqDiff, ↓reduceIte, yielded, reduceCtorEq, Nat.reduceLT, Nat.reduceMul, Nat.reduceSub, one, Nat.reduceLeDiff, runX_cons, y75_31, aq, ↓ap, qe0, qe1, qe2, *, -hK]; try (refine hK _ _ ?_; clear hK K))
  | (refine wpX_lastL rfl ?_; intro K hK; simp -implicitDefEqProofs (disch := first | omega | (simp only [qd] <;> omega)) only [xq, ↓xp, qc, Nat.reduceAdd, List.range, List.range.loop, fine, Nat.reduceEqDiff, ↓reduceIte, yielded, reduceCtorEq, Nat.reduceLT, Nat.reduceMul, Nat.reduceSub, one, Nat.reduceLeDiff, runX_cons, y75_31, aq, ↓ap, qe0, qe1, qe2, *, -hK]; try (refine hK _ _ ?_; clear hK K; (try simp only [nq, ↓reduceIte, Nat.reduceEqDiff])))
  | (refine wpX_skip ?_; (try simp only [nq, ↓reduceIte, Nat.reduceEqDiff]))
  | (refine wpX_label ?_; (try simp only [nq, ↓reduceIte, Nat.reduceEqDiff]))
  | (refine wpX_exit ?_; (try simp only [nq, ↓reduceIte, Nat.reduceEqDiff]))
  | (refine wpX_goto ?_; (try simp only [nq, ↓reduceIte, Nat.reduceEqDiff]))
  | (refine wpX_condK (by simp only [act_eval, upd_get, Nat.reduceEqDiff, Nat.reduceLT, ↓reduceIte, *]; rfl) ?_ ?_ <;> (intro hc; first | (exfalso; simp -implicitDefEqProofs (disch := omega) only [*, bq, reduceCtorEq] at hc; done) | (simp only [dq, qe3, qe4, qe5, qe6] at hc) | skip))
  | (refine wpX_scope0 ?_)
  | (refine wpX_block ?_)
  | (refine wpX_seq ?_))
      refine ⟨_, by omega, _, j + 1, L.set j ts.length, rfl, hlt, by simp [hL], ?_, rfl, e0, e1, e2, rfl, ?_⟩
      · intro k hk
        rw [List.getElem?_set]
        split
        · rename_i hjk; subst hjk; rw [if_pos (by omega)]
        · exact hLj k (by omega)
      · rw [hist_set h1 h2]
    · obtain rfl : j = 6 := by omega
      have hLL : L = laterL ts ts.length := by
        apply List.ext_getElem?
        intro k
        by_cases hk : k < 6
        · rw [hLj k hk]
          simp only [laterL, List.getElem?_map, List.getElem?_range hk, Option.map_some, nxt_end]
        · rw [List.getElem?_eq_none (by omega), List.getElem?_eq_none (by rw [laterL_len]; omega)]
      rw [hLL] at vh vd ⊢
      clear hLj hLL hL L hlen18
      repeat' (first
  | (refine wpX_stmtL rfl ?_; intro K hK; simp -implicitDefEqProofs (disch := first | omega | (simp only [qd] <;> omega)) only [xq, ↓xp, qc, Nat.reduceAdd, List.range, List.range.loop, fine, Nat.reduceEqDiff, ↓reduceIte, yielded, reduceCtorEq, Nat.reduceLT, Nat.reduceMul, Nat.reduceSub, one, Nat.reduceLeDiff, runX_cons, y75_31, aq, ↓ap, qe0, qe1, qe2, *, -hK]; try (refine hK _ _ ?_; clear hK K))
  | (refine wpX_lastL rfl ?_; intro K hK; simp -implicitDefEqProofs (disch := first | omega | (simp only [qd] <;> omega)) only [xq, ↓xp, qc, Nat.reduceAdd, List.range, List.range.loop, fine, Nat.reduceEqDiff, ↓reduceIte, yielded, reduceCtorEq, Nat.reduceLT, Nat.reduceMul, Nat.reduceSub, one, Nat.reduceLeDiff, runX_cons, y75_31, aq, ↓ap, qe0, qe1, qe2, *, -hK]; try (refine hK _ _ ?_; clear hK K; (try simp only [nq, ↓reduceIte, Nat.reduceEqDiff])))
  | (refine wpX_skip ?_; (try simp only [nq, ↓reduceIte, Nat.reduceEqDiff]))
  | (refine wpX_label ?_; (try simp only [nq, ↓reduceIte, Nat.reduceEqDiff]))
  | (refine wpX_exit ?_; (try simp only [nq, ↓reduceIte, Nat.reduceEqDiff]))
  | (refine wpX_goto ?_; (try simp only [nq, ↓reduceIte, Nat.reduceEqDiff]))
  | (refine wpX_condK (by simp only [act_eval, upd_get, Nat.reduceEqDiff, Nat.reduceLT, ↓reduceIte, *]; rfl) ?_ ?_ <;> (intro hc; first | (exfalso; simp -implicitDefEqProofs (disch := omega) only [*, bq, reduceCtorEq] at hc; done) | (simp only [dq, qe3, qe4, qe5, qe6] at hc) | skip))
  | (refine wpX_scope0 ?_)
  | (refine wpX_block ?_)
  | (refine wpX_seq ?_))
      refine wpX_loop (fun w a' H' => ∃ e k, w = k - (i + 1) ∧ i + 1 ≤ k ∧ k ≤ ts.length ∧ a' = act 49 e [] ∧ e 0 = .pointer (some ⟨db, 0, none⟩) ∧ e 1 = .pointer (some ⟨hb, 0, none⟩) ∧ e 2 = .int .i64 i ∧ e 7 = .int .i64 ((k : Nat) - 1 : Int) ∧ H' = H.set hb (histO came asked (laterL ts k))) (n := ts.length - (i + 1)) ?_ ?_
      · exact ⟨_, ts.length, rfl, by omega, by omega, rfl, e0, e1, e2, rfl, rfl⟩
      · rintro w a' H' ⟨e, k, rfl, hki, hkl, rfl, e0, e1, e2, e7, hH⟩
        have hlen18 := hist_len h1 h2 (laterL_len ts k)
        have hts' : SlI (H.set hb (histO came asked (laterL ts k))) (.slice ta ts.length tc) ts := htsS.set (fun p c fr h => by rw [hhb] at h; cases h)
        have vh : (H.set hb (histO came asked (laterL ts k))) hb = some (true, histO came asked (laterL ts k)) := set_at
        have vd : (H.set hb (histO came asked (laterL ts k))) db = some (true, dayO places pieces sv cv (.slice ta ts.length tc) mb) := by rw [set_ne hne']; exact hdb
        rw [hH]; clear hH H'
        by_cases hlt : i + 1 < k
        · obtain ⟨b, o, cap', p, c, fr, hve, _, hb', hx⟩ := hts'.cons (fun h => absurd (congrArg List.length h) (by simp only [List.length_nil]; omega))
          cases hve
          have hxk := hx (k - 1) (ts[k - 1]'(by omega)) (List.getElem?_eq_getElem (by omega))
          have hset := laterL_set ts (k - 1) (by omega) (h6 _ (List.getElem_mem _)).1 (h6 _ (List.getElem_mem _)).2
          have hbnd := h6 _ (List.getElem_mem (show k - 1 < ts.length by omega))
          have hk1 : k - 1 + 1 = k := by omega
          have hkc : ((k : Int) - 1).toNat = k - 1 := by omega
          have hkc2 : ((k - 1 : Nat) : Int) = (k : Int) - 1 := by omega
          rw [hk1, hkc2] at hset
          generalize ts[k - 1]'(by omega) = t at hxk hset hbnd
          generalize hGG : H.set hb (histO came asked (laterL ts k)) = HH at *
          repeat' (first
  | (refine wpX_stmtL rfl ?_; intro K hK; simp -implicitDefEqProofs (disch := first | omega | (simp only [qd] <;> omega)) only [xq, ↓xp, qc, Nat.reduceAdd, List.range, List.range.loop, fine, Nat.reduceEqDiff, ↓reduceIte, yielded, reduceCtorEq, Nat.reduceLT, Nat.reduceMul, Nat.reduceSub, one, Nat.reduceLeDiff, runX_cons, y75_31, aq, ↓ap, qe0, qe1, qe2, *, -hK]; try (refine hK _ _ ?_; clear hK K))
  | (refine wpX_lastL rfl ?_; intro K hK; simp -implicitDefEqProofs (disch := first | omega | (simp only [qd] <;> omega)) only [xq, ↓xp, qc, Nat.reduceAdd, List.range, List.range.loop, fine, Nat.reduceEqDiff, ↓reduceIte, yielded, reduceCtorEq, Nat.reduceLT, Nat.reduceMul, Nat.reduceSub, one, Nat.reduceLeDiff, runX_cons, y75_31, aq, ↓ap, qe0, qe1, qe2, *, -hK]; try (refine hK _ _ ?_; clear hK K; (try simp only [nq, ↓reduceIte, Nat.reduceEqDiff])))
  | (refine wpX_skip ?_; (try simp only [nq, ↓reduceIte, Nat.reduceEqDiff]))
  | (refine wpX_label ?_; (try simp only [nq, ↓reduceIte, Nat.reduceEqDiff]))
  | (refine wpX_exit ?_; (try simp only [nq, ↓reduceIte, Nat.reduceEqDiff]))
  | (refine wpX_goto ?_; (try simp only [nq, ↓reduceIte, Nat.reduceEqDiff]))
  | (refine wpX_condK (by simp only [act_eval, upd_get, Nat.reduceEqDiff, Nat.reduceLT, ↓reduceIte, *]; rfl) ?_ ?_ <;> (intro hc; first | (exfalso; simp -implicitDefEqProofs (disch := omega) only [*, bq, reduceCtorEq] at hc; done) | (simp only [dq, qe3, qe4, qe5, qe6] at hc) | skip))
  | (refine wpX_scope0 ?_)
  | (refine wpX_block ?_)
  | (refine wpX_seq ?_))
          (refine wpX_dst1 12 [(true, 0), (true, 1), (true, 2), (true, 3), (true, 4), (true, 5), (true, 6), (true, 7), (true, 8), (true, 9), (true, 10), (true, 11), (false, 12)] (by kernel_rfl) (by kernel_rfl) (by simp) (by kernel_rfl) ?_; intro K hK; (iterate 12 (apply plan_take rfl rfl rfl; (focus (simp -implicitDefEqProofs (disch := first | omega | (simp only [qd] <;> omega)) only [xq, ↓xp, qc, Nat.reduceAdd, List.range, List.range.loop, fine, Nat.reduceEqDiff, ↓reduceIte, yielded, reduceCtorEq, Nat.reduceLT, Nat.reduceMul, Nat.reduceSub, one, Nat.reduceLeDiff, runX_cons, y75_31, aq, ↓ap, qe0, qe1, qe2, *, -hK, YN_value] <;> (first | exact rfl | exact ⟨rfl, rfl⟩ | exact ⟨rfl, trivial⟩))); simp -implicitDefEqProofs (disch := first | omega | (simp only [qd] <;> omega)) only [act_put, act_put_none])); refine plan_tail ?_; simp -implicitDefEqProofs (disch := first | omega | (simp only [qd] <;> omega)) only [xq, ↓xp, qc, Nat.reduceAdd, List.range, List.range.loop, fine, Nat.reduceEqDiff, ↓reduceIte, yielded, reduceCtorEq, Nat.reduceLT, Nat.reduceMul, Nat.reduceSub, one, Nat.reduceLeDiff, runX_cons, y75_31, aq, ↓ap, qe0, qe1, qe2, *, -hK]; try (refine hK _ _ ?_; clear hK K; (try simp only [nq, ↓reduceIte, Nat.reduceEqDiff])))
          repeat' (first
  | (refine wpX_stmtL rfl ?_; intro K hK; simp -implicitDefEqProofs (disch := first | omega | (simp only [qd] <;> omega)) only [xq, ↓xp, qc, Nat.reduceAdd, List.range, List.range.loop, fine, Nat.reduceEqDiff, ↓reduceIte, yielded, reduceCtorEq, Nat.reduceLT, Nat.reduceMul, Nat.reduceSub, one, Nat.reduceLeDiff, runX_cons, y75_31, aq, ↓ap, qe0, qe1, qe2, *, -hK]; try (refine hK _ _ ?_; clear hK K))
  | (refine wpX_lastL rfl ?_; intro K hK; simp -implicitDefEqProofs (disch := first | omega | (simp only [qd] <;> omega)) only [xq, ↓xp, qc, Nat.reduceAdd, List.range, List.range.loop, fine, Nat.reduceEqDiff, ↓reduceIte, yielded, reduceCtorEq, Nat.reduceLT, Nat.reduceMul, Nat.reduceSub, one, Nat.reduceLeDiff, runX_cons, y75_31, aq, ↓ap, qe0, qe1, qe2, *, -hK]; try (refine hK _ _ ?_; clear hK K; (try simp only [nq, ↓reduceIte, Nat.reduceEqDiff])))
  | (refine wpX_skip ?_; (try simp only [nq, ↓reduceIte, Nat.reduceEqDiff]))
  | (refine wpX_label ?_; (try simp only [nq, ↓reduceIte, Nat.reduceEqDiff]))
  | (refine wpX_exit ?_; (try simp only [nq, ↓reduceIte, Nat.reduceEqDiff]))
  | (refine wpX_goto ?_; (try simp only [nq, ↓reduceIte, Nat.reduceEqDiff]))
  | (refine wpX_condK (by simp only [act_eval, upd_get, Nat.reduceEqDiff, Nat.reduceLT, ↓reduceIte, *]; rfl) ?_ ?_ <;> (intro hc; first | (exfalso; simp -implicitDefEqProofs (disch := omega) only [*, bq, reduceCtorEq] at hc; done) | (simp only [dq, qe3, qe4, qe5, qe6] at hc) | skip))
  | (refine wpX_scope0 ?_)
  | (refine wpX_block ?_)
  | (refine wpX_seq ?_))
          refine ⟨_, ?_, _, k - 1, rfl, by omega, by omega, rfl, e0, e1, e2, ?_, ?_⟩
          · omega
          · show Value.int .i64 _ = Value.int .i64 _
            congr 1; omega
          · rw [← hGG, set_set, hist_set h1 h2, hset]
        · obtain rfl : k = i + 1 := by omega
          repeat' (first
  | (refine wpX_stmtL rfl ?_; intro K hK; simp -implicitDefEqProofs (disch := first | omega | (simp only [qd] <;> omega)) only [xq, ↓xp, qc, Nat.reduceAdd, List.range, List.range.loop, fine, Nat.reduceEqDiff, ↓reduceIte, yielded, reduceCtorEq, Nat.reduceLT, Nat.reduceMul, Nat.reduceSub, one, Nat.reduceLeDiff, runX_cons, y75_31, aq, ↓ap, qe0, qe1, qe2, *, -hK]; try (refine hK _ _ ?_; clear hK K))
  | (refine wpX_lastL rfl ?_; intro K hK; simp -implicitDefEqProofs (disch := first | omega | (simp only [qd] <;> omega)) only [xq, ↓xp, qc, Nat.reduceAdd, List.range, List.range.loop, fine, Nat.reduceEqDiff, ↓reduceIte, yielded, reduceCtorEq, Nat.reduceLT, Nat.reduceMul, Nat.reduceSub, one, Nat.reduceLeDiff, runX_cons, y75_31, aq, ↓ap, qe0, qe1, qe2, *, -hK]; try (refine hK _ _ ?_; clear hK K; (try simp only [nq, ↓reduceIte, Nat.reduceEqDiff])))
  | (refine wpX_skip ?_; (try simp only [nq, ↓reduceIte, Nat.reduceEqDiff]))
  | (refine wpX_label ?_; (try simp only [nq, ↓reduceIte, Nat.reduceEqDiff]))
  | (refine wpX_exit ?_; (try simp only [nq, ↓reduceIte, Nat.reduceEqDiff]))
  | (refine wpX_goto ?_; (try simp only [nq, ↓reduceIte, Nat.reduceEqDiff]))
  | (refine wpX_condK (by simp only [act_eval, upd_get, Nat.reduceEqDiff, Nat.reduceLT, ↓reduceIte, *]; rfl) ?_ ?_ <;> (intro hc; first | (exfalso; simp -implicitDefEqProofs (disch := omega) only [*, bq, reduceCtorEq] at hc; done) | (simp only [dq, qe3, qe4, qe5, qe6] at hc) | skip))
  | (refine wpX_scope0 ?_)
  | (refine wpX_block ?_)
  | (refine wpX_seq ?_))
          ((try simp only [nq, ↓reduceIte, Nat.reduceEqDiff]); rw [bodyX_normal, results_zero Tryd.results75])
          exact ⟨rfl, rfl⟩
end Go.Proofs.YtiempdpjcddgfaaDoor
end
section
/- A rule runs. -/
set_option linter.unusedSimpArgs false
set_option maxRecDepth 100000
set_option maxHeartbeats 1000000
set_option linter.unusedVariables false
namespace Go.X
open Go
theorem yielded_list {ops : List Oper} {tmps : Array Value} {j : Nat} : yielded ops.toArray tmps j = ylK (((ops[j]?).bind (·.dst)).bind (tmps[·]?)) := by
  unfold yielded ylK
  simp only [List.getElem?_toArray]
  rfl
end Go.X
namespace Go.Proofs.YtiempdpjcddgfaaDoor
open Go Go.X
set_option linter.defProp false
def y71_32 := And.intro (fun H => ex_alloc (H := H) (P := Tryd.prog) (h := Tryd.zeroValue58)) (And.intro (fun H => ex_alloc (H := H) (P := Tryd.prog) (h := Tryd.zeroValue167)) (And.intro (fun H => fieldAt_eq (H := H) Tryd.underlying93 (i := 0) rfl (off := 0) rfl Tryd.sizeOf25) (And.intro (fun H => fieldAt_eq (H := H) Tryd.underlying25 (i := 2) rfl (off := 2) rfl Tryd.sizeOf22) (And.intro (fun H => loadAt_one (H := H) Tryd.underlying22 rfl) (And.intro (fun H => len_slice (H := H) Tryd.underlying22) (And.intro (fun H => indexAt_slice (H := H) Tryd.underlying22 Tryd.sizeOf3) (And.intro (fun H => loadAt_one (H := H) Tryd.underlying3 rfl) (And.intro (fun H => fieldAt_eq (H := H) Tryd.underlying167 (i := 0) rfl (off := 0) rfl Tryd.sizeOf165) (And.intro (fun H => indexAt_array (H := H) Tryd.underlying165 Tryd.sizeOf3) (And.intro (fun H => storeAt_int (H := H) Tryd.sizeOf3) (And.intro (fun H => fieldAt_eq (H := H) Tryd.underlying167 (i := 1) rfl (off := 6) rfl Tryd.sizeOf165) (And.intro @callF18 (And.intro (fun H => ex_alloc (H := H) (P := Tryd.prog) (h := Tryd.zeroValue62)) (And.intro (fun H => storeAt_agg (H := H) Tryd.sizeOf62) (And.intro (fun H => fieldAt_eq (H := H) Tryd.underlying93 (i := 1) rfl (off := 4) rfl Tryd.sizeOf22) (And.intro (fun H => indexAt_array (H := H) Tryd.underlying58 Tryd.sizeOf3) (And.intro (fun H => loadAt_aggE (H := H) Tryd.underlying62 rfl Tryd.sizeOf62) (And.intro @callF35 (And.intro (fun H st => assert_ok (H := H) (st := st) Tryd.underlying164 rfl Tryd.zeroValue164) (And.intro (fun H => ex_alloc (H := H) (P := Tryd.prog) (h := Tryd.zeroValue164)) (And.intro (fun H => storeAt_agg (H := H) Tryd.sizeOf164) (And.intro @callF75 (And.intro (fun H => fieldAt_eq (H := H) Tryd.underlying62 (i := 1) rfl (off := 1) rfl Tryd.sizeOf60) (And.intro (fun H => loadAt_one (H := H) Tryd.underlying60 rfl) (And.intro @callF36 (And.intro @meth_vault_low (And.intro @nilm_vault_low (And.intro @callF112 (And.intro @meth_vault_old (And.intro @nilm_vault_old (And.intro @callF113 (And.intro @meth_vault_stale (And.intro @nilm_vault_stale (And.intro @callF114 (And.intro @meth_vault_late (And.intro @nilm_vault_late (And.intro @callF115 (And.intro @bld_172__0 (And.intro (fun H => makeI (H := H) Tryd.underlying172 rfl) (And.intro @callF37 (And.intro (fun H => loadAt_aggE (H := H) Tryd.underlying58 rfl Tryd.sizeOf58) (fun H => storeAt_agg (H := H) Tryd.sizeOf58))))))))))))))))))))))))))))))))))))))))))

theorem rank_yields (main : Bool) (H : Hp) (r : Int) (p : Int) (hb : Nat) (came asked later : List Int) (h1 : came.length = 6) (h2 : asked.length = 6) (h3 : later.length = 6) (hl : ∀ x ∈ later, 0 ≤ x ∧ x ≤ 1000) (h0 : 0 ≤ p) (h6 : p < 6) (hH : H hb = some (true, histO came asked later))
    (hr0 : 0 ≤ r) (hr3 : r ≤ 3) : methK Tryd.prog (ruleV r) "gladstone/vault.rank" #[.int .i64 p, .pointer (some ⟨hb, 0, none⟩)] H (YN Tryd.prog main (.int .i64 (rankF r came asked later p)) H) fun _ _ => False := by
  have hcase : r = 0 ∨ r = 1 ∨ r = 2 ∨ r = 3 := by omega
  rcases hcase with rfl | rfl | rfl | rfl
  · show methK Tryd.prog (.iface 161 (.agg #[])) _ _ _ _ _
    rw [meth_vault_low, callF112, YN_enter]
    exact quiet_le (low_spec main H p _)
  · show methK Tryd.prog (.iface 162 (.agg #[])) _ _ _ _ _
    rw [meth_vault_old, callF113, YN_enter]
    exact quiet_le (old_spec main H p hb came asked later h1 h2 h3 h0 h6 hH)
  · show methK Tryd.prog (.iface 163 (.agg #[])) _ _ _ _ _
    rw [meth_vault_stale, callF114, YN_enter]
    exact quiet_le (stale_spec main H p hb came asked later h1 h2 h3 h0 h6 hH)
  · show methK Tryd.prog (.iface 164 (.agg #[])) _ _ _ _ _
    rw [meth_vault_late, callF115, YN_enter]
    exact quiet_le (late_spec main H p hb came asked later h1 h2 h3 hl h0 h6 hH)
theorem nil_rule (H : Hp) (r : Int) (K : Next → Hp → Prop) (E : Value → Hp → Prop) : nilK Tryd.prog (.func (.method "gladstone/vault.rank") #[ruleV r] #[]) H K E = K (.value (.func (.method "gladstone/vault.rank") #[ruleV r] #[])) H := by
  unfold ruleV
  split
  · exact nilm_vault_low K E _
  · split
    · exact nilm_vault_old K E _
    · split
      · exact nilm_vault_stale K E _
      · exact nilm_vault_late K E _
theorem assert_rule (H : Hp) (r : Int) (hr0 : 0 ≤ r) (hr3 : r ≤ 3) (st : TypeId) (K : Value → Hp → Prop) (E : Value → Hp → Prop) : wpS Tryd.prog (Instr.typeAssert (ruleV r) st 164 true) H K E = K (.tuple #[.agg #[], .bool (decide (r = 3))]) H := by
  unfold ruleV
  rw [assert_ok Tryd.underlying164 rfl Tryd.zeroValue164]
  have hcase : r = 0 ∨ r = 1 ∨ r = 2 ∨ r = 3 := by omega
  rcases hcase with rfl | rfl | rfl | rfl <;> rfl

/-- A run's state. -/
structure RS where
  m : Nat
  came : List Int
  asked : List Int
  later : List Int
  cl : List Int
  f : Nat
/-- The piece that a rule sends. -/
def pickF (rk : Int → Int) (l : List Int) : Int := l.foldl (fun c q => if c < 0 ∨ rk q < rk c then q else c) (-1)
def sendB (pl : Int) (m : Nat) (t : Int) : Bool := !m.testBit t.toNat && decide (pl ≤ oCount m)
def rsent (pl r : Int) (ts : List Int) (i : Nat) (t : Int) (s : RS) : Int :=
  if sendB pl s.m t then pickF (rankF r s.came s.asked (if r = 3 then laterL ts (i + 1) else s.later)) (oList s.m) else -1
def rstep (pl r : Int) (ts : List Int) (i : Nat) (t : Int) (s : RS) : RS :=
  { m := oNext s.m (rsent pl r ts i t s) t
    came := if s.m.testBit t.toNat then s.came else s.came.set t.toNat i
    asked := s.asked.set t.toNat i
    later := if r = 3 ∧ sendB pl s.m t then laterL ts (i + 1) else s.later
    cl := s.cl.set i (rsent pl r ts i t s)
    f := s.f + if s.m.testBit t.toNat then 0 else 1 }
def rrun (pl r : Int) (ts : List Int) (s : RS) : Nat → RS
  | 0 => s
  | i + 1 => rstep pl r ts i (ts.getD i 0) (rrun pl r ts s i)
/-- When pieces came that were there. -/
def initL (start : List Int) : Nat → List Int
  | 0 => List.replicate 6 0
  | j + 1 => (initL start j).set (start.getD j 0).toNat ((j : Int) - start.length)
theorem initL_len (start : List Int) : ∀ j, (initL start j).length = 6
  | 0 => by simp [initL]
  | j + 1 => by simp [initL, initL_len start j]
def rs0 (start : List Int) : RS := ⟨oOf start, initL start start.length, initL start start.length, List.replicate 6 0, List.replicate 8 0, 0⟩
structure RSOk (s : RS) (i : Nat) : Prop where
  m : s.m < 64
  came : s.came.length = 6
  asked : s.asked.length = 6
  later : s.later.length = 6
  bnd : ∀ x ∈ s.later, 0 ≤ x ∧ x ≤ 1000
  cl : s.cl.length = 8
  f : s.f ≤ i

theorem foldl_pick_mem (rk : Int → Int) : ∀ (l : List Int) (c : Int), l.foldl (fun c q => if c < 0 ∨ rk q < rk c then q else c) c = c ∨ l.foldl (fun c q => if c < 0 ∨ rk q < rk c then q else c) c ∈ l
  | [], c => .inl rfl
  | x :: l, c => by
    simp only [List.foldl_cons]
    split
    · rcases foldl_pick_mem rk l x with h | h
      · rw [h]; exact .inr List.mem_cons_self
      · exact .inr (List.mem_cons_of_mem _ h)
    · rcases foldl_pick_mem rk l c with h | h
      · exact .inl h
      · exact .inr (List.mem_cons_of_mem _ h)
theorem pickF_lt (rk : Int → Int) (m : Nat) : pickF rk (oList m) < 6 := by
  rcases foldl_pick_mem rk (oList m) (-1) with h | h
  · unfold pickF; rw [h]; omega
  · exact (oList_mem h).2.1
theorem laterL_bnd (ts : List Int) (k : Nat) (hk : k ≤ ts.length) (hl : ts.length ≤ 1000) : ∀ x ∈ laterL ts k, 0 ≤ x ∧ x ≤ 1000 := by
  intro x hx
  simp only [laterL, List.mem_map] at hx
  obtain ⟨p, _, rfl⟩ := hx
  have := nxt_le ts k p hk
  omega
theorem RSOk.step {s : RS} {i : Nat} (h : RSOk s i) (pl r : Int) (ts : List Int) (t : Int) (hi : i < ts.length) (hl : ts.length ≤ 1000) (h0 : 0 ≤ t) (h6 : t < 6) : RSOk (rstep pl r ts i t s) (i + 1) := by
  refine ⟨?_, ?_, ?_, ?_, ?_, ?_, ?_⟩
  · refine oNext_lt h.m ?_ h0 h6
    unfold rsent
    split
    · exact pickF_lt _ _
    · omega
  · simp only [rstep]; split <;> simp [h.came]
  · simp only [rstep]; simp [h.asked]
  · simp only [rstep]; split
    · exact laterL_len _ _
    · exact h.later
  · simp only [rstep]; split
    · exact laterL_bnd ts _ (by omega) hl
    · exact h.bnd
  · simp only [rstep]; simp [h.cl]
  · simp only [rstep]; have := h.f; split <;> omega

abbrev choiceO (cl : List Int) : Obj := .cells (ints cl).toArray 58 (0, 0)
abbrev spotO (c m : Nat) : Obj := .cells #[.int .i64 c, .int .u8 m] 62 (0, 0)

/-- What lies in memory while a rule runs. -/
structure RunM (H0 H : Hp) (cb hb sb db : Nat) (dO : Obj) (tv : Value) (ts : List Int) (i : Nat) (cl came asked later : List Int) (m : Nat) : Prop where
  c : H cb = some (true, choiceO cl)
  h : H hb = some (true, histO came asked later)
  s : H sb = some (true, spotO i m)
  d : H db = some (true, dO)
  t : SlI H tv ts
  l : Lex none H0 H
structure RunE (e : Nat → Value) (cb hb sb db : Nat) (r : Int) (ta : Option Addr) (n tc : Nat) (f i : Nat) : Prop where
  e0 : e 0 = .pointer (some ⟨db, 0, none⟩)
  e1 : e 1 = ruleV r
  e2 : e 2 = .int .i64 n
  e6 : e 6 = .pointer (some ⟨cb, 0, none⟩)
  e7 : e 7 = .int .i64 f
  e8 : e 8 = .pointer (some ⟨hb, 0, none⟩)
  e11 : e 11 = .pointer (some ⟨sb, 0, none⟩)
  e59 : e 59 = .slice ta n tc
  e60 : e 60 = .int .i64 n
  e61 : e 61 = .int .i64 i
theorem RunM.le {H0 H H' : Hp} {cb hb sb db : Nat} {dO : Obj} {tv : Value} {ts : List Int} {i : Nat} {cl came asked later : List Int} {m : Nat} (h : RunM H0 H cb hb sb db dO tv ts i cl came asked later m) (hl : H.le H') : RunM H0 H' cb hb sb db dO tv ts i cl came asked later m :=
  ⟨hl _ _ h.c, hl _ _ h.h, hl _ _ h.s, hl _ _ h.d, h.t.le hl, h.l.le hl⟩
theorem Lex.own_set {H0 H : Hp} (h : Lex none H0 H) {b : Nat} {o : Obj} (hb : H0 b = none) : Lex none H0 (H.set b o) := h.own hb
theorem RunM.setC {H0 H : Hp} {cb hb sb db : Nat} {dO : Obj} {tv : Value} {ts : List Int} {i : Nat} {cl came asked later : List Int} {m : Nat} (h : RunM H0 H cb hb sb db dO tv ts i cl came asked later m) (h0 : H0 cb = none) (n1 : hb ≠ cb) (n2 : sb ≠ cb) (n3 : db ≠ cb) (cl' : List Int) :
    RunM H0 (H.set cb (choiceO cl')) cb hb sb db dO tv ts i cl' came asked later m :=
  ⟨set_at, by rw [set_ne n1]; exact h.h, by rw [set_ne n2]; exact h.s, by rw [set_ne n3]; exact h.d, h.t.set (fun p c fr e => by rw [h.c] at e; cases e), h.l.own h0⟩
theorem RunM.setH {H0 H : Hp} {cb hb sb db : Nat} {dO : Obj} {tv : Value} {ts : List Int} {i : Nat} {cl came asked later : List Int} {m : Nat} (h : RunM H0 H cb hb sb db dO tv ts i cl came asked later m) (h0 : H0 hb = none) (n1 : cb ≠ hb) (n2 : sb ≠ hb) (n3 : db ≠ hb) (came' asked' later' : List Int) :
    RunM H0 (H.set hb (histO came' asked' later')) cb hb sb db dO tv ts i cl came' asked' later' m :=
  ⟨by rw [set_ne n1]; exact h.c, set_at, by rw [set_ne n2]; exact h.s, by rw [set_ne n3]; exact h.d, h.t.set (fun p c fr e => by rw [h.h] at e; cases e), h.l.own h0⟩
theorem RunM.setS {H0 H : Hp} {cb hb sb db : Nat} {dO : Obj} {tv : Value} {ts : List Int} {i : Nat} {cl came asked later : List Int} {m : Nat} (h : RunM H0 H cb hb sb db dO tv ts i cl came asked later m) (h0 : H0 sb = none) (n1 : cb ≠ sb) (n2 : hb ≠ sb) (n3 : db ≠ sb) (i' m' : Nat) :
    RunM H0 (H.set sb (spotO i' m')) cb hb sb db dO tv ts i' cl came asked later m' :=
  ⟨by rw [set_ne n1]; exact h.c, by rw [set_ne n2]; exact h.h, set_at, by rw [set_ne n3]; exact h.d, h.t.set (fun p c fr e => by rw [h.s] at e; cases e), h.l.own h0⟩

theorem run_spec (main : Bool) (H : Hp) (db : Nat) (places pieces : Int) (sv cv tv : Value) (ts : List Int) (mb : Nat) (hdb : H db = some (true, dayO places pieces sv cv tv mb)) (hts : SlI H tv ts) (start : List Int) (hst : SlI H sv start) (hs6 : ∀ t ∈ start, 0 ≤ t ∧ t < 6) (hsl : start.length ≤ 1000)
    (hl : ts.length ≤ 8) (h6 : ∀ t ∈ ts, 0 ≤ t ∧ t < 6) (r : Int) (hr0 : 0 ≤ r) (hr3 : r ≤ 3) :
    FnX Tryd.prog main 71 #[.pointer (some ⟨db, 0, none⟩), ruleV r, .int .i64 ts.length] H fun e H' => e = .returned (.tuple #[.agg (ints (rrun places r ts (rs0 start) ts.length).cl).toArray, .int .i64 (rrun places r ts (rs0 start) ts.length).f]) ∧ H.le H' := by
  have htsS := hts
  have hstS := hst
  obtain ⟨ta, tc, rfl, htc, _⟩ := hts
  obtain ⟨sa, sc, rfl, hsc, _⟩ := hst
  refine FnX_start Tryd.func71 rfl Tryd.ntmps71 (by simp) ?_
  repeat' (first
  | (refine wpX_stmtL rfl ?_; intro K hK; simp -implicitDefEqProofs (disch := first | omega | (simp only [qd] <;> omega)) only [xq, ↓xp, qc, Nat.reduceAdd, List.range, List.range.loop, fine, Nat.reduceEqDiff, ↓reduceIte, yielded, reduceCtorEq, Nat.reduceLT, Nat.reduceMul, Nat.reduceSub, one, Nat.reduceLeDiff, runX_cons, y71_32, ↓ex_invoke, aq, ↓ap, qe0, qe1, qe2, *, -hK]; try (refine hK _ _ ?_; clear hK K))
  | (refine wpX_lastL rfl ?_; intro K hK; simp -implicitDefEqProofs (disch := first | omega | (simp only [qd] <;> omega)) only [xq, ↓xp, qc, Nat.reduceAdd, List.range, List.range.loop, fine, Nat.reduceEqDiff, ↓reduceIte, yielded, reduceCtorEq, Nat.reduceLT, Nat.reduceMul, Nat.reduceSub, one, Nat.reduceLeDiff, runX_cons, y71_32, ↓ex_invoke, aq, ↓ap, qe0, qe1, qe2, *, -hK]; try (refine hK _ _ ?_; clear hK K; (try simp only [nq, ↓reduceIte, Nat.reduceEqDiff])))
  | (refine wpX_skip ?_; (try simp only [nq, ↓reduceIte, Nat.reduceEqDiff]))
  | (refine wpX_label ?_; (try simp only [nq, ↓reduceIte, Nat.reduceEqDiff]))
  | (refine wpX_exit ?_; (try simp only [nq, ↓reduceIte, Nat.reduceEqDiff]))
  | (refine wpX_goto ?_; (try simp only [nq, ↓reduceIte, Nat.reduceEqDiff]))
  | (refine wpX_condK (by simp only [act_eval, upd_get, Nat.reduceEqDiff, Nat.reduceLT, ↓reduceIte, *]; rfl) ?_ ?_ <;> (intro hc; first | (exfalso; simp -implicitDefEqProofs (disch := omega) only [*, bq, reduceCtorEq] at hc; done) | (simp only [dq, qe3, qe4, qe5, qe6] at hc) | skip))
  | (refine wpX_scope0 ?_)
  | (refine wpX_block ?_)
  | (refine wpX_seq ?_))
  (intro cb hcb; generalize hG : Hp.set _ cb _ = H1; have lH1 := le_of_set hG hcb; have vcb := at_of_set hG; clear hG)
  have vdb1 := lH1 _ _ hdb
  have hts1 := htsS.le lH1
  have hst1 := hstS.le lH1
  (try simp -implicitDefEqProofs (disch := first | omega | (simp only [qd] <;> omega)) only [xq, ↓xp, qc, Nat.reduceAdd, List.range, List.range.loop, fine, Nat.reduceEqDiff, ↓reduceIte, yielded, reduceCtorEq, Nat.reduceLT, Nat.reduceMul, Nat.reduceSub, one, Nat.reduceLeDiff, runX_cons, y71_32, ↓ex_invoke, aq, ↓ap, qe0, qe1, qe2, *, -hK]); try (refine hK _ _ ?_; clear hK K; (try simp only [nq, ↓reduceIte, Nat.reduceEqDiff])); repeat' (first
  | (refine wpX_stmtL rfl ?_; intro K hK; simp -implicitDefEqProofs (disch := first | omega | (simp only [qd] <;> omega)) only [xq, ↓xp, qc, Nat.reduceAdd, List.range, List.range.loop, fine, Nat.reduceEqDiff, ↓reduceIte, yielded, reduceCtorEq, Nat.reduceLT, Nat.reduceMul, Nat.reduceSub, one, Nat.reduceLeDiff, runX_cons, y71_32, ↓ex_invoke, aq, ↓ap, qe0, qe1, qe2, *, -hK]; try (refine hK _ _ ?_; clear hK K))
  | (refine wpX_lastL rfl ?_; intro K hK; simp -implicitDefEqProofs (disch := first | omega | (simp only [qd] <;> omega)) only [xq, ↓xp, qc, Nat.reduceAdd, List.range, List.range.loop, fine, Nat.reduceEqDiff, ↓reduceIte, yielded, reduceCtorEq, Nat.reduceLT, Nat.reduceMul, Nat.reduceSub, one, Nat.reduceLeDiff, runX_cons, y71_32, ↓ex_invoke, aq, ↓ap, qe0, qe1, qe2, *, -hK]; try (refine hK _ _ ?_; clear hK K; (try simp only [nq, ↓reduceIte, Nat.reduceEqDiff])))
  | (refine wpX_skip ?_; (try simp only [nq, ↓reduceIte, Nat.reduceEqDiff]))
  | (refine wpX_label ?_; (try simp only [nq, ↓reduceIte, Nat.reduceEqDiff]))
  | (refine wpX_exit ?_; (try simp only [nq, ↓reduceIte, Nat.reduceEqDiff]))
  | (refine wpX_goto ?_; (try simp only [nq, ↓reduceIte, Nat.reduceEqDiff]))
  | (refine wpX_condK (by simp only [act_eval, upd_get, Nat.reduceEqDiff, Nat.reduceLT, ↓reduceIte, *]; rfl) ?_ ?_ <;> (intro hc; first | (exfalso; simp -implicitDefEqProofs (disch := omega) only [*, bq, reduceCtorEq] at hc; done) | (simp only [dq, qe3, qe4, qe5, qe6] at hc) | skip))
  | (refine wpX_scope0 ?_)
  | (refine wpX_block ?_)
  | (refine wpX_seq ?_))
  (intro hb hhb; generalize hG : Hp.set _ hb _ = H2; have lH2 := le_of_set hG hhb; have vhb := at_of_set hG; clear hG)
  have vdb2 := lH2 _ _ vdb1
  have vcb2 := lH2 _ _ vcb
  have hts2 := hts1.le lH2
  have hst2 := hst1.le lH2
  have ncb : cb ≠ hb := ne_new vcb hhb
  have ncb' := ncb.symm
  have nhd : db ≠ hb := ne_new vdb1 hhb
  have nhd' := nhd.symm
  have ncd : db ≠ cb := ne_new hdb hcb
  have ncd' := ncd.symm
  have lH12 := Hp.le_trans lH1 lH2
  clear hdb htsS hstS vdb1 hts1 hst1
  (try simp -implicitDefEqProofs (disch := first | omega | (simp only [qd] <;> omega)) only [xq, ↓xp, qc, Nat.reduceAdd, List.range, List.range.loop, fine, Nat.reduceEqDiff, ↓reduceIte, yielded, reduceCtorEq, Nat.reduceLT, Nat.reduceMul, Nat.reduceSub, one, Nat.reduceLeDiff, runX_cons, y71_32, ↓ex_invoke, aq, ↓ap, qe0, qe1, qe2, *, -hK]); try (refine hK _ _ ?_; clear hK K; (try simp only [nq, ↓reduceIte, Nat.reduceEqDiff])); repeat' (first
  | (refine wpX_stmtL rfl ?_; intro K hK; simp -implicitDefEqProofs (disch := first | omega | (simp only [qd] <;> omega)) only [xq, ↓xp, qc, Nat.reduceAdd, List.range, List.range.loop, fine, Nat.reduceEqDiff, ↓reduceIte, yielded, reduceCtorEq, Nat.reduceLT, Nat.reduceMul, Nat.reduceSub, one, Nat.reduceLeDiff, runX_cons, y71_32, ↓ex_invoke, aq, ↓ap, qe0, qe1, qe2, *, -hK]; try (refine hK _ _ ?_; clear hK K))
  | (refine wpX_lastL rfl ?_; intro K hK; simp -implicitDefEqProofs (disch := first | omega | (simp only [qd] <;> omega)) only [xq, ↓xp, qc, Nat.reduceAdd, List.range, List.range.loop, fine, Nat.reduceEqDiff, ↓reduceIte, yielded, reduceCtorEq, Nat.reduceLT, Nat.reduceMul, Nat.reduceSub, one, Nat.reduceLeDiff, runX_cons, y71_32, ↓ex_invoke, aq, ↓ap, qe0, qe1, qe2, *, -hK]; try (refine hK _ _ ?_; clear hK K; (try simp only [nq, ↓reduceIte, Nat.reduceEqDiff])))
  | (refine wpX_skip ?_; (try simp only [nq, ↓reduceIte, Nat.reduceEqDiff]))
  | (refine wpX_label ?_; (try simp only [nq, ↓reduceIte, Nat.reduceEqDiff]))
  | (refine wpX_exit ?_; (try simp only [nq, ↓reduceIte, Nat.reduceEqDiff]))
  | (refine wpX_goto ?_; (try simp only [nq, ↓reduceIte, Nat.reduceEqDiff]))
  | (refine wpX_condK (by simp only [act_eval, upd_get, Nat.reduceEqDiff, Nat.reduceLT, ↓reduceIte, *]; rfl) ?_ ?_ <;> (intro hc; first | (exfalso; simp -implicitDefEqProofs (disch := omega) only [*, bq, reduceCtorEq] at hc; done) | (simp only [dq, qe3, qe4, qe5, qe6] at hc) | skip))
  | (refine wpX_scope0 ?_)
  | (refine wpX_block ?_)
  | (refine wpX_seq ?_))
  refine wpX_loop (fun w a' H' => ∃ e j, w = start.length - j ∧ j ≤ start.length ∧ a' = act 142 e [] ∧ e 0 = .pointer (some ⟨db, 0, none⟩) ∧ e 1 = ruleV r ∧ e 2 = .int .i64 ts.length ∧ e 6 = .pointer (some ⟨cb, 0, none⟩) ∧ e 7 = .int .i64 0 ∧ e 8 = .pointer (some ⟨hb, 0, none⟩) ∧ e 24 = .slice sa start.length sc ∧ e 25 = .int .i64 start.length ∧ e 26 = .int .i64 (j : Nat) ∧
    H' = H2.set hb (histO (initL start j) (initL start j) (List.replicate 6 0))) (n := start.length) ?_ ?_
  · refine ⟨_, 0, by omega, by omega, rfl, rfl, rfl, rfl, rfl, rfl, rfl, rfl, rfl, rfl, ?_⟩
    exact (set_self vhb).symm
  · rintro w a' H' ⟨e, j, rfl, hj, rfl, e0, e1, e2, e6, e7, e8, e24, e25, e26, hH⟩
    generalize hG : H2.set hb (histO (initL start j) (initL start j) (List.replicate 6 0)) = H3 at hH
    have vhb3 := at_of_set hG
    have vdb3 := other_of_set hG vdb2 nhd
    have vcb3 := other_of_set hG vcb2 ncb
    have hst3 : SlI H3 (.slice sa start.length sc) start := by rw [← hG]; exact hst2.set (fun p c fr h => by rw [vhb] at h; cases h)
    rw [hH]; clear hH H'
    by_cases hlt : j < start.length
    · obtain ⟨b, o, cap', p, c, fr, hve, _, hb', hx⟩ := hst3.cons (fun h => absurd (congrArg List.length h) (by simp only [List.length_nil]; omega))
      cases hve
      have hxj := hx j start[j] (List.getElem?_eq_getElem hlt)
      have hbx := hs6 _ (List.getElem_mem hlt)
      have hini : initL start (j + 1) = (initL start j).set (start[j]).toNat ((j : Int) - start.length) := by simp [initL, List.getD, List.getElem?_eq_getElem hlt]
      have hil := initL_len start j
      generalize start[j] = x at hxj hbx hini
      have hlen18 := hist_len hil hil (show (List.replicate 6 (0 : Int)).length = 6 by simp)
      repeat' (first
  | (refine wpX_stmtL rfl ?_; intro K hK; simp -implicitDefEqProofs (disch := first | omega | (simp only [qd] <;> omega)) only [xq, ↓xp, qc, Nat.reduceAdd, List.range, List.range.loop, fine, Nat.reduceEqDiff, ↓reduceIte, yielded, reduceCtorEq, Nat.reduceLT, Nat.reduceMul, Nat.reduceSub, one, Nat.reduceLeDiff, runX_cons, y71_32, ↓ex_invoke, aq, ↓ap, qe0, qe1, qe2, *, -hK]; try (refine hK _ _ ?_; clear hK K))
  | (refine wpX_lastL rfl ?_; intro K hK; simp -implicitDefEqProofs (disch := first | omega | (simp only [qd] <;> omega)) only [xq, ↓xp, qc, Nat.reduceAdd, List.range, List.range.loop, fine, Nat.reduceEqDiff, ↓reduceIte, yielded, reduceCtorEq, Nat.reduceLT, Nat.reduceMul, Nat.reduceSub, one, Nat.reduceLeDiff, runX_cons, y71_32, ↓ex_invoke, aq, ↓ap, qe0, qe1, qe2, *, -hK]; try (refine hK _ _ ?_; clear hK K; (try simp only [nq, ↓reduceIte, Nat.reduceEqDiff])))
  | (refine wpX_skip ?_; (try simp only [nq, ↓reduceIte, Nat.reduceEqDiff]))
  | (refine wpX_label ?_; (try simp only [nq, ↓reduceIte, Nat.reduceEqDiff]))
  | (refine wpX_exit ?_; (try simp only [nq, ↓reduceIte, Nat.reduceEqDiff]))
  | (refine wpX_goto ?_; (try simp only [nq, ↓reduceIte, Nat.reduceEqDiff]))
  | (refine wpX_condK (by simp only [act_eval, upd_get, Nat.reduceEqDiff, Nat.reduceLT, ↓reduceIte, *]; rfl) ?_ ?_ <;> (intro hc; first | (exfalso; simp -implicitDefEqProofs (disch := omega) only [*, bq, reduceCtorEq] at hc; done) | (simp only [dq, qe3, qe4, qe5, qe6] at hc) | skip))
  | (refine wpX_scope0 ?_)
  | (refine wpX_block ?_)
  | (refine wpX_seq ?_))
      refine wpX_dlast (fun HX => HX db = some (true, dayO places pieces (.slice (some ⟨b, o, none⟩) start.length sc) cv (.slice ta ts.length tc) mb)) 24 [(true, 0), (true, 1), (true, 2), (true, 3), (true, 4), (true, 5), (true, 6), (true, 7), (true, 8), (true, 9), (true, 10), (true, 11), (true, 12), (true, 13), (true, 14), (true, 15), (true, 16), (true, 17), (true, 18), (true, 19), (true, 21), (false, 20), (true, 22), (false, 23)] (by kernel_rfl) (by kernel_rfl) (by simp) (by kernel_rfl) ?_; intro K hK
      have hdbS := vdb3
      (iterate 21 (apply plan_takeB rfl rfl rfl ‹_›; (focus (intro HX hHX; simp -implicitDefEqProofs (disch := first | omega | (simp only [qd] <;> omega)) only [xq, ↓xp, qc, Nat.reduceAdd, List.range, List.range.loop, fine, Nat.reduceEqDiff, ↓reduceIte, yielded, reduceCtorEq, Nat.reduceLT, Nat.reduceMul, Nat.reduceSub, one, Nat.reduceLeDiff, runX_cons, y71_32, ↓ex_invoke, aq, ↓ap, qe0, qe1, qe2, *, -hK, YN_value] <;> (first | exact rfl | exact ⟨rfl, rfl⟩ | exact ⟨rfl, trivial⟩))); simp -implicitDefEqProofs (disch := first | omega | (simp only [qd] <;> omega)) only [act_put, act_put_none]))
      refine planX_act ?_
      simp -implicitDefEqProofs (disch := first | omega | (simp only [qd] <;> omega)) only [xq, ↓xp, qc, Nat.reduceAdd, List.range, List.range.loop, fine, Nat.reduceEqDiff, ↓reduceIte, yielded, reduceCtorEq, Nat.reduceLT, Nat.reduceMul, Nat.reduceSub, one, Nat.reduceLeDiff, runX_cons, y71_32, ↓ex_invoke, aq, ↓ap, qe0, qe1, qe2, *, -hK]
      refine ⟨.inr trivial, ?_⟩
      generalize hG4 : Hp.set H3 hb _ = H4
      have vhb4 := at_of_set hG4
      have vdb4 := other_of_set hG4 vdb3 nhd
      (apply plan_takeB rfl rfl rfl ‹_›; (focus (intro HX hHX; simp -implicitDefEqProofs (disch := first | omega | (simp only [qd] <;> omega)) only [xq, ↓xp, qc, Nat.reduceAdd, List.range, List.range.loop, fine, Nat.reduceEqDiff, ↓reduceIte, yielded, reduceCtorEq, Nat.reduceLT, Nat.reduceMul, Nat.reduceSub, one, Nat.reduceLeDiff, runX_cons, y71_32, ↓ex_invoke, aq, ↓ap, qe0, qe1, qe2, *, -hK, YN_value] <;> (first | exact rfl | exact ⟨rfl, rfl⟩ | exact ⟨rfl, trivial⟩))); simp -implicitDefEqProofs (disch := first | omega | (simp only [qd] <;> omega)) only [act_put, act_put_none])
      refine planX_act ?_
      have hlen18' : ((ints (initL start j ++ (initL start j ++ List.replicate 6 0))).set x.toNat (Value.int .i64 ((j : Int) - start.length))).length = 18 := by rw [List.length_set]; exact hlen18
      simp -implicitDefEqProofs (disch := first | omega | (simp only [qd] <;> omega)) only [xq, ↓xp, qc, Nat.reduceAdd, List.range, List.range.loop, fine, Nat.reduceEqDiff, ↓reduceIte, yielded, reduceCtorEq, Nat.reduceLT, Nat.reduceMul, Nat.reduceSub, one, Nat.reduceLeDiff, runX_cons, y71_32, ↓ex_invoke, aq, ↓ap, qe0, qe1, qe2, *, -hK]
      refine ⟨.inr trivial, plan_nil (hK _ _ ?_)⟩
      clear hK K
      (try simp only [nq, ↓reduceIte, Nat.reduceEqDiff])
      repeat' (first
  | (refine wpX_stmtL rfl ?_; intro K hK; simp -implicitDefEqProofs (disch := first | omega | (simp only [qd] <;> omega)) only [xq, ↓xp, qc, Nat.reduceAdd, List.range, List.range.loop, fine, Nat.reduceEqDiff, ↓reduceIte, yielded, reduceCtorEq, Nat.reduceLT, Nat.reduceMul, Nat.reduceSub, one, Nat.reduceLeDiff, runX_cons, y71_32, ↓ex_invoke, aq, ↓ap, qe0, qe1, qe2, *, -hK]; try (refine hK _ _ ?_; clear hK K))
  | (refine wpX_lastL rfl ?_; intro K hK; simp -implicitDefEqProofs (disch := first | omega | (simp only [qd] <;> omega)) only [xq, ↓xp, qc, Nat.reduceAdd, List.range, List.range.loop, fine, Nat.reduceEqDiff, ↓reduceIte, yielded, reduceCtorEq, Nat.reduceLT, Nat.reduceMul, Nat.reduceSub, one, Nat.reduceLeDiff, runX_cons, y71_32, ↓ex_invoke, aq, ↓ap, qe0, qe1, qe2, *, -hK]; try (refine hK _ _ ?_; clear hK K; (try simp only [nq, ↓reduceIte, Nat.reduceEqDiff])))
  | (refine wpX_skip ?_; (try simp only [nq, ↓reduceIte, Nat.reduceEqDiff]))
  | (refine wpX_label ?_; (try simp only [nq, ↓reduceIte, Nat.reduceEqDiff]))
  | (refine wpX_exit ?_; (try simp only [nq, ↓reduceIte, Nat.reduceEqDiff]))
  | (refine wpX_goto ?_; (try simp only [nq, ↓reduceIte, Nat.reduceEqDiff]))
  | (refine wpX_condK (by simp only [act_eval, upd_get, Nat.reduceEqDiff, Nat.reduceLT, ↓reduceIte, *]; rfl) ?_ ?_ <;> (intro hc; first | (exfalso; simp -implicitDefEqProofs (disch := omega) only [*, bq, reduceCtorEq] at hc; done) | (simp only [dq, qe3, qe4, qe5, qe6] at hc) | skip))
  | (refine wpX_scope0 ?_)
  | (refine wpX_block ?_)
  | (refine wpX_seq ?_))
      refine ⟨_, by omega, _, j + 1, rfl, hlt, rfl, e0, e1, e2, e6, e7, e8, e24, e25, rfl, ?_⟩
      rw [← hG4, ← hG, set_set, set_set, hist_set1 hil _ (by omega), hist_set2 (by rw [List.length_set]; exact hil) hil _ (by omega), ← hini]
    · obtain rfl : j = start.length := by omega
      have vdb3' := vdb3
      have hts3 : SlI H3 (.slice ta ts.length tc) ts := by rw [← hG]; exact hts2.set (fun p c fr h => by rw [vhb] at h; cases h)
      have lH3 : Lex none H H3 := by rw [← hG]; exact ((Lex.of lH12).own (Hp.le_none lH1 hhb))
      have hil := initL_len start start.length
      clear hG
      repeat' (first
  | (refine wpX_stmtL rfl ?_; intro K hK; simp -implicitDefEqProofs (disch := first | omega | (simp only [qd] <;> omega)) only [xq, ↓xp, qc, Nat.reduceAdd, List.range, List.range.loop, fine, Nat.reduceEqDiff, ↓reduceIte, yielded, reduceCtorEq, Nat.reduceLT, Nat.reduceMul, Nat.reduceSub, one, Nat.reduceLeDiff, runX_cons, y71_32, ↓ex_invoke, aq, ↓ap, qe0, qe1, qe2, *, -hK]; try (refine hK _ _ ?_; clear hK K))
  | (refine wpX_lastL rfl ?_; intro K hK; simp -implicitDefEqProofs (disch := first | omega | (simp only [qd] <;> omega)) only [xq, ↓xp, qc, Nat.reduceAdd, List.range, List.range.loop, fine, Nat.reduceEqDiff, ↓reduceIte, yielded, reduceCtorEq, Nat.reduceLT, Nat.reduceMul, Nat.reduceSub, one, Nat.reduceLeDiff, runX_cons, y71_32, ↓ex_invoke, aq, ↓ap, qe0, qe1, qe2, *, -hK]; try (refine hK _ _ ?_; clear hK K; (try simp only [nq, ↓reduceIte, Nat.reduceEqDiff])))
  | (refine wpX_skip ?_; (try simp only [nq, ↓reduceIte, Nat.reduceEqDiff]))
  | (refine wpX_label ?_; (try simp only [nq, ↓reduceIte, Nat.reduceEqDiff]))
  | (refine wpX_exit ?_; (try simp only [nq, ↓reduceIte, Nat.reduceEqDiff]))
  | (refine wpX_goto ?_; (try simp only [nq, ↓reduceIte, Nat.reduceEqDiff]))
  | (refine wpX_condK (by simp only [act_eval, upd_get, Nat.reduceEqDiff, Nat.reduceLT, ↓reduceIte, *]; rfl) ?_ ?_ <;> (intro hc; first | (exfalso; simp -implicitDefEqProofs (disch := omega) only [*, bq, reduceCtorEq] at hc; done) | (simp only [dq, qe3, qe4, qe5, qe6] at hc) | skip))
  | (refine wpX_scope0 ?_)
  | (refine wpX_block ?_)
  | (refine wpX_seq ?_))
      refine (first_spec main H3 db places pieces _ cv _ start mb vdb3 hst3 hs6 (by omega)).runs.mono ?_
      rintro _ H4 ⟨rfl, lH4⟩
      have vdb4 := lH4 _ _ vdb3
      have vcb4 := lH4 _ _ vcb3
      have vhb4 := lH4 _ _ vhb3
      have hts4 := hts3.le lH4
      clear hst3 hts3 vdb3 vcb3 vhb3 vdb3'
      (try simp -implicitDefEqProofs (disch := first | omega | (simp only [qd] <;> omega)) only [xq, ↓xp, qc, Nat.reduceAdd, List.range, List.range.loop, fine, Nat.reduceEqDiff, ↓reduceIte, yielded, reduceCtorEq, Nat.reduceLT, Nat.reduceMul, Nat.reduceSub, one, Nat.reduceLeDiff, runX_cons, y71_32, ↓ex_invoke, aq, ↓ap, qe0, qe1, qe2, *, -hK]); try (refine hK _ _ ?_; clear hK K; (try simp only [nq, ↓reduceIte, Nat.reduceEqDiff])); repeat' (first
  | (refine wpX_stmtL rfl ?_; intro K hK; simp -implicitDefEqProofs (disch := first | omega | (simp only [qd] <;> omega)) only [xq, ↓xp, qc, Nat.reduceAdd, List.range, List.range.loop, fine, Nat.reduceEqDiff, ↓reduceIte, yielded, reduceCtorEq, Nat.reduceLT, Nat.reduceMul, Nat.reduceSub, one, Nat.reduceLeDiff, runX_cons, y71_32, ↓ex_invoke, aq, ↓ap, qe0, qe1, qe2, *, -hK]; try (refine hK _ _ ?_; clear hK K))
  | (refine wpX_lastL rfl ?_; intro K hK; simp -implicitDefEqProofs (disch := first | omega | (simp only [qd] <;> omega)) only [xq, ↓xp, qc, Nat.reduceAdd, List.range, List.range.loop, fine, Nat.reduceEqDiff, ↓reduceIte, yielded, reduceCtorEq, Nat.reduceLT, Nat.reduceMul, Nat.reduceSub, one, Nat.reduceLeDiff, runX_cons, y71_32, ↓ex_invoke, aq, ↓ap, qe0, qe1, qe2, *, -hK]; try (refine hK _ _ ?_; clear hK K; (try simp only [nq, ↓reduceIte, Nat.reduceEqDiff])))
  | (refine wpX_skip ?_; (try simp only [nq, ↓reduceIte, Nat.reduceEqDiff]))
  | (refine wpX_label ?_; (try simp only [nq, ↓reduceIte, Nat.reduceEqDiff]))
  | (refine wpX_exit ?_; (try simp only [nq, ↓reduceIte, Nat.reduceEqDiff]))
  | (refine wpX_goto ?_; (try simp only [nq, ↓reduceIte, Nat.reduceEqDiff]))
  | (refine wpX_condK (by simp only [act_eval, upd_get, Nat.reduceEqDiff, Nat.reduceLT, ↓reduceIte, *]; rfl) ?_ ?_ <;> (intro hc; first | (exfalso; simp -implicitDefEqProofs (disch := omega) only [*, bq, reduceCtorEq] at hc; done) | (simp only [dq, qe3, qe4, qe5, qe6] at hc) | skip))
  | (refine wpX_scope0 ?_)
  | (refine wpX_block ?_)
  | (refine wpX_seq ?_))
      (intro sb hsb; generalize hG : Hp.set _ sb _ = H5; have lH5 := le_of_set hG hsb; have vsb := at_of_set hG; clear hG)
      have vdb5 := lH5 _ _ vdb4
      have vcb5 := lH5 _ _ vcb4
      have vhb5 := lH5 _ _ vhb4
      have hts5 := hts4.le lH5
      have nsd : sb ≠ db := (ne_new vdb4 hsb).symm
      have nsc : sb ≠ cb := (ne_new vcb4 hsb).symm
      have nsh : sb ≠ hb := (ne_new vhb4 hsb).symm
      have nsd' := nsd.symm
      have nsc' := nsc.symm
      have nsh' := nsh.symm
      (try simp -implicitDefEqProofs (disch := first | omega | (simp only [qd] <;> omega)) only [xq, ↓xp, qc, Nat.reduceAdd, List.range, List.range.loop, fine, Nat.reduceEqDiff, ↓reduceIte, yielded, reduceCtorEq, Nat.reduceLT, Nat.reduceMul, Nat.reduceSub, one, Nat.reduceLeDiff, runX_cons, y71_32, ↓ex_invoke, aq, ↓ap, qe0, qe1, qe2, *, -hK]); try (refine hK _ _ ?_; clear hK K; (try simp only [nq, ↓reduceIte, Nat.reduceEqDiff])); repeat' (first
  | (refine wpX_stmtL rfl ?_; intro K hK; simp -implicitDefEqProofs (disch := first | omega | (simp only [qd] <;> omega)) only [xq, ↓xp, qc, Nat.reduceAdd, List.range, List.range.loop, fine, Nat.reduceEqDiff, ↓reduceIte, yielded, reduceCtorEq, Nat.reduceLT, Nat.reduceMul, Nat.reduceSub, one, Nat.reduceLeDiff, runX_cons, y71_32, ↓ex_invoke, aq, ↓ap, qe0, qe1, qe2, *, -hK]; try (refine hK _ _ ?_; clear hK K))
  | (refine wpX_lastL rfl ?_; intro K hK; simp -implicitDefEqProofs (disch := first | omega | (simp only [qd] <;> omega)) only [xq, ↓xp, qc, Nat.reduceAdd, List.range, List.range.loop, fine, Nat.reduceEqDiff, ↓reduceIte, yielded, reduceCtorEq, Nat.reduceLT, Nat.reduceMul, Nat.reduceSub, one, Nat.reduceLeDiff, runX_cons, y71_32, ↓ex_invoke, aq, ↓ap, qe0, qe1, qe2, *, -hK]; try (refine hK _ _ ?_; clear hK K; (try simp only [nq, ↓reduceIte, Nat.reduceEqDiff])))
  | (refine wpX_skip ?_; (try simp only [nq, ↓reduceIte, Nat.reduceEqDiff]))
  | (refine wpX_label ?_; (try simp only [nq, ↓reduceIte, Nat.reduceEqDiff]))
  | (refine wpX_exit ?_; (try simp only [nq, ↓reduceIte, Nat.reduceEqDiff]))
  | (refine wpX_goto ?_; (try simp only [nq, ↓reduceIte, Nat.reduceEqDiff]))
  | (refine wpX_condK (by simp only [act_eval, upd_get, Nat.reduceEqDiff, Nat.reduceLT, ↓reduceIte, *]; rfl) ?_ ?_ <;> (intro hc; first | (exfalso; simp -implicitDefEqProofs (disch := omega) only [*, bq, reduceCtorEq] at hc; done) | (simp only [dq, qe3, qe4, qe5, qe6] at hc) | skip))
  | (refine wpX_scope0 ?_)
  | (refine wpX_block ?_)
  | (refine wpX_seq ?_))
      have h0c : H cb = none := hcb
      have h0h : H hb = none := Hp.le_none lH1 hhb
      have h0s : H sb = none := lH3.gone (Hp.le_none lH4 hsb)
      have hM0 : RunM H H5 cb hb sb db (dayO places pieces (.slice sa start.length sc) cv (.slice ta ts.length tc) mb) (.slice ta ts.length tc) ts 0 (rs0 start).cl (rs0 start).came (rs0 start).asked (rs0 start).later (rs0 start).m :=
        ⟨vcb5, vhb5, vsb, vdb5, hts5, (lH3.le lH4).le lH5⟩
      have hO0 : RSOk (rs0 start) 0 := ⟨oOf_lt start 0 (by omega) fun x hx => ⟨(hs6 x hx).1, (hs6 x hx).2⟩, hil, hil, by simp [rs0], fun x hx => by simp [rs0] at hx; omega, by simp [rs0], by simp [rs0]⟩
      clear vcb5 vhb5 vsb vdb5 hts5 lH5 hhb hcb hsb vhb4 vcb4 vdb4 hts4 lH4 lH3 vdb2 vcb2 hts2 hst2 lH1 lH2 lH12 vhb vcb hil
      refine wpX_loop (fun w a' H' => ∃ e i, w = ts.length - i ∧ i ≤ ts.length ∧ a' = act 142 e [] ∧ RSOk (rrun places r ts (rs0 start) i) i ∧ RunE e cb hb sb db r ta ts.length tc (rrun places r ts (rs0 start) i).f i ∧
        RunM H H' cb hb sb db (dayO places pieces (.slice sa start.length sc) cv (.slice ta ts.length tc) mb) (.slice ta ts.length tc) ts i (rrun places r ts (rs0 start) i).cl (rrun places r ts (rs0 start) i).came (rrun places r ts (rs0 start) i).asked (rrun places r ts (rs0 start) i).later (rrun places r ts (rs0 start) i).m) (n := ts.length) ?_ ?_
      · exact ⟨_, 0, by omega, by omega, rfl, hO0, ⟨e0, e1, e2, e6, e7, e8, rfl, rfl, rfl, rfl⟩, hM0⟩
      · rintro w a' H6 ⟨e, i, rfl, hi, rfl, hO, ⟨e0, e1, e2, e6, e7, e8, e11, e59, e60, e61⟩, hM⟩
        clear hM0 hO0
        by_cases hlt : i < ts.length
        · have hstep : rrun places r ts (rs0 start) (i + 1) = rstep places r ts i ts[i] (rrun places r ts (rs0 start) i) := by simp [rrun, List.getD, List.getElem?_eq_getElem hlt]
          have hti := List.getElem?_eq_getElem hlt
          have htb := h6 _ (List.getElem_mem hlt)
          have hO' := hO.step places r ts ts[i] hlt (by omega) htb.1 htb.2
          rw [← hstep] at hO'
          generalize hS1 : rrun places r ts (rs0 start) (i + 1) = S1 at hstep hO'
          generalize rrun places r ts (rs0 start) i = S at hstep hO e7 hM
          generalize ts[i] = t at hstep hti htb
          replace hstep := hstep.symm
          obtain ⟨b, o, cap', p, c, fr, hve, _, hb', hx⟩ := hM.t.cons (fun h => absurd (congrArg List.length h) (by simp only [List.length_nil]; omega))
          cases hve
          have hxi := hx i t hti
          have hcl : (ints S.cl).length = 8 := by rw [ints_len]; exact hO.cl
          have vcb6 := hM.c
          have vsb6 := hM.s
          have hi8 : i < 8 := by omega
          repeat' (first
  | (refine wpX_stmtL rfl ?_; intro K hK; simp -implicitDefEqProofs (disch := first | omega | (simp only [qd] <;> omega)) only [xq, ↓xp, qc, Nat.reduceAdd, List.range, List.range.loop, fine, Nat.reduceEqDiff, ↓reduceIte, yielded, reduceCtorEq, Nat.reduceLT, Nat.reduceMul, Nat.reduceSub, one, Nat.reduceLeDiff, runX_cons, y71_32, ↓ex_invoke, aq, ↓ap, qe0, qe1, qe2, *, -hK]; try (refine hK _ _ ?_; clear hK K))
  | (refine wpX_lastL rfl ?_; intro K hK; simp -implicitDefEqProofs (disch := first | omega | (simp only [qd] <;> omega)) only [xq, ↓xp, qc, Nat.reduceAdd, List.range, List.range.loop, fine, Nat.reduceEqDiff, ↓reduceIte, yielded, reduceCtorEq, Nat.reduceLT, Nat.reduceMul, Nat.reduceSub, one, Nat.reduceLeDiff, runX_cons, y71_32, ↓ex_invoke, aq, ↓ap, qe0, qe1, qe2, *, -hK]; try (refine hK _ _ ?_; clear hK K; (try simp only [nq, ↓reduceIte, Nat.reduceEqDiff])))
  | (refine wpX_skip ?_; (try simp only [nq, ↓reduceIte, Nat.reduceEqDiff]))
  | (refine wpX_label ?_; (try simp only [nq, ↓reduceIte, Nat.reduceEqDiff]))
  | (refine wpX_exit ?_; (try simp only [nq, ↓reduceIte, Nat.reduceEqDiff]))
  | (refine wpX_goto ?_; (try simp only [nq, ↓reduceIte, Nat.reduceEqDiff]))
  | (refine wpX_condK (by simp only [act_eval, upd_get, Nat.reduceEqDiff, Nat.reduceLT, ↓reduceIte, *]; rfl) ?_ ?_ <;> (intro hc; first | (exfalso; simp -implicitDefEqProofs (disch := omega) only [*, bq, reduceCtorEq] at hc; done) | (simp only [dq, qe3, qe4, qe5, qe6] at hc) | skip)))
          refine wpX_seq ?_
          repeat' (first
  | (refine wpX_stmtL rfl ?_; intro K hK; simp -implicitDefEqProofs (disch := first | omega | (simp only [qd] <;> omega)) only [xq, ↓xp, qc, Nat.reduceAdd, List.range, List.range.loop, fine, Nat.reduceEqDiff, ↓reduceIte, yielded, reduceCtorEq, Nat.reduceLT, Nat.reduceMul, Nat.reduceSub, one, Nat.reduceLeDiff, runX_cons, y71_32, ↓ex_invoke, aq, ↓ap, qe0, qe1, qe2, *, -hK]; try (refine hK _ _ ?_; clear hK K))
  | (refine wpX_lastL rfl ?_; intro K hK; simp -implicitDefEqProofs (disch := first | omega | (simp only [qd] <;> omega)) only [xq, ↓xp, qc, Nat.reduceAdd, List.range, List.range.loop, fine, Nat.reduceEqDiff, ↓reduceIte, yielded, reduceCtorEq, Nat.reduceLT, Nat.reduceMul, Nat.reduceSub, one, Nat.reduceLeDiff, runX_cons, y71_32, ↓ex_invoke, aq, ↓ap, qe0, qe1, qe2, *, -hK]; try (refine hK _ _ ?_; clear hK K; (try simp only [nq, ↓reduceIte, Nat.reduceEqDiff])))
  | (refine wpX_skip ?_; (try simp only [nq, ↓reduceIte, Nat.reduceEqDiff]))
  | (refine wpX_label ?_; (try simp only [nq, ↓reduceIte, Nat.reduceEqDiff]))
  | (refine wpX_exit ?_; (try simp only [nq, ↓reduceIte, Nat.reduceEqDiff]))
  | (refine wpX_goto ?_; (try simp only [nq, ↓reduceIte, Nat.reduceEqDiff]))
  | (refine wpX_condK (by simp only [act_eval, upd_get, Nat.reduceEqDiff, Nat.reduceLT, ↓reduceIte, *]; rfl) ?_ ?_ <;> (intro hc; first | (exfalso; simp -implicitDefEqProofs (disch := omega) only [*, bq, reduceCtorEq] at hc; done) | (simp only [dq, qe3, qe4, qe5, qe6] at hc) | skip)))
          refine wpX_seq (wpX_block ?_)
          repeat' (first
  | (refine wpX_stmtL rfl ?_; intro K hK; simp -implicitDefEqProofs (disch := first | omega | (simp only [qd] <;> omega)) only [xq, ↓xp, qc, Nat.reduceAdd, List.range, List.range.loop, fine, Nat.reduceEqDiff, ↓reduceIte, yielded, reduceCtorEq, Nat.reduceLT, Nat.reduceMul, Nat.reduceSub, one, Nat.reduceLeDiff, runX_cons, y71_32, ↓ex_invoke, aq, ↓ap, qe0, qe1, qe2, *, -hK]; try (refine hK _ _ ?_; clear hK K))
  | (refine wpX_lastL rfl ?_; intro K hK; simp -implicitDefEqProofs (disch := first | omega | (simp only [qd] <;> omega)) only [xq, ↓xp, qc, Nat.reduceAdd, List.range, List.range.loop, fine, Nat.reduceEqDiff, ↓reduceIte, yielded, reduceCtorEq, Nat.reduceLT, Nat.reduceMul, Nat.reduceSub, one, Nat.reduceLeDiff, runX_cons, y71_32, ↓ex_invoke, aq, ↓ap, qe0, qe1, qe2, *, -hK]; try (refine hK _ _ ?_; clear hK K; (try simp only [nq, ↓reduceIte, Nat.reduceEqDiff])))
  | (refine wpX_skip ?_; (try simp only [nq, ↓reduceIte, Nat.reduceEqDiff]))
  | (refine wpX_label ?_; (try simp only [nq, ↓reduceIte, Nat.reduceEqDiff]))
  | (refine wpX_exit ?_; (try simp only [nq, ↓reduceIte, Nat.reduceEqDiff]))
  | (refine wpX_goto ?_; (try simp only [nq, ↓reduceIte, Nat.reduceEqDiff]))
  | (refine wpX_condK (by simp only [act_eval, upd_get, Nat.reduceEqDiff, Nat.reduceLT, ↓reduceIte, *]; rfl) ?_ ?_ <;> (intro hc; first | (exfalso; simp -implicitDefEqProofs (disch := omega) only [*, bq, reduceCtorEq] at hc; done) | (simp only [dq, qe3, qe4, qe5, qe6] at hc) | skip)))
          rw [ints_setL]
          have hM7 := hM.setC h0c ncb' nsc ncd (S.cl.set i (-1))
          generalize H6.set cb (choiceO (S.cl.set i (-1))) = H7 at *
          clear hM vcb6 vsb6 hb' hxi hx hcl
          refine (needs_spec main H7 db places pieces _ cv _ ts mb hM7.d hM7.t i S.m t hti htb.1 htb.2 hO.m).runs.mono ?_
          rintro _ H8 ⟨rfl, lH8⟩
          have hM8 := hM7.le lH8
          clear hM7 lH8
          (try simp -implicitDefEqProofs (disch := first | omega | (simp only [qd] <;> omega)) only [xq, ↓xp, qc, Nat.reduceAdd, List.range, List.range.loop, fine, Nat.reduceEqDiff, ↓reduceIte, yielded, reduceCtorEq, Nat.reduceLT, Nat.reduceMul, Nat.reduceSub, one, Nat.reduceLeDiff, runX_cons, y71_32, ↓ex_invoke, aq, ↓ap, qe0, qe1, qe2, *, -hK]); try (refine hK _ _ ?_; clear hK K; (try simp only [nq, ↓reduceIte, Nat.reduceEqDiff])); repeat' (first
  | (refine wpX_stmtL rfl ?_; intro K hK; simp -implicitDefEqProofs (disch := first | omega | (simp only [qd] <;> omega)) only [xq, ↓xp, qc, Nat.reduceAdd, List.range, List.range.loop, fine, Nat.reduceEqDiff, ↓reduceIte, yielded, reduceCtorEq, Nat.reduceLT, Nat.reduceMul, Nat.reduceSub, one, Nat.reduceLeDiff, runX_cons, y71_32, ↓ex_invoke, aq, ↓ap, qe0, qe1, qe2, *, -hK]; try (refine hK _ _ ?_; clear hK K))
  | (refine wpX_lastL rfl ?_; intro K hK; simp -implicitDefEqProofs (disch := first | omega | (simp only [qd] <;> omega)) only [xq, ↓xp, qc, Nat.reduceAdd, List.range, List.range.loop, fine, Nat.reduceEqDiff, ↓reduceIte, yielded, reduceCtorEq, Nat.reduceLT, Nat.reduceMul, Nat.reduceSub, one, Nat.reduceLeDiff, runX_cons, y71_32, ↓ex_invoke, aq, ↓ap, qe0, qe1, qe2, *, -hK]; try (refine hK _ _ ?_; clear hK K; (try simp only [nq, ↓reduceIte, Nat.reduceEqDiff])))
  | (refine wpX_skip ?_; (try simp only [nq, ↓reduceIte, Nat.reduceEqDiff]))
  | (refine wpX_label ?_; (try simp only [nq, ↓reduceIte, Nat.reduceEqDiff]))
  | (refine wpX_exit ?_; (try simp only [nq, ↓reduceIte, Nat.reduceEqDiff]))
  | (refine wpX_goto ?_; (try simp only [nq, ↓reduceIte, Nat.reduceEqDiff]))
  | (refine wpX_condK (by simp only [act_eval, upd_get, Nat.reduceEqDiff, Nat.reduceLT, ↓reduceIte, *]; rfl) ?_ ?_ <;> (intro hc; first | (exfalso; simp -implicitDefEqProofs (disch := omega) only [*, bq, reduceCtorEq] at hc; done) | (simp only [dq, qe3, qe4, qe5, qe6] at hc) | skip)))
          refine wpX_cut (fun a' H' => ∃ e, a' = act 142 e [] ∧ RunE e cb hb sb db r (some ⟨b, o, none⟩) ts.length tc S.f i ∧ e 12 = .int .i64 i ∧ e 13 = .int .i64 t ∧ e 14 = .bool (!S.m.testBit t.toNat) ∧ e 15 = .bool (sendB places S.m t) ∧
            RunM H H' cb hb sb db (dayO places pieces (.slice sa start.length sc) cv (.slice (some ⟨b, o, none⟩) ts.length tc) mb) (.slice (some ⟨b, o, none⟩) ts.length tc) ts i (S.cl.set i (-1)) S.came S.asked S1.later S.m) ?_ ?_
          · have hlat : S1.later = if r = 3 ∧ sendB places S.m t then laterL ts (i + 1) else S.later := by rw [← hstep]; rfl
            repeat' (first
  | (refine wpX_stmtL rfl ?_; intro K hK; simp -implicitDefEqProofs (disch := first | omega | (simp only [qd] <;> omega)) only [xq, ↓xp, qc, Nat.reduceAdd, List.range, List.range.loop, fine, Nat.reduceEqDiff, ↓reduceIte, yielded, reduceCtorEq, Nat.reduceLT, Nat.reduceMul, Nat.reduceSub, one, Nat.reduceLeDiff, runX_cons, y71_32, ↓ex_invoke, aq, ↓ap, qe0, qe1, qe2, *, -hK, assert_rule _ _ hr0 hr3]; try (refine hK _ _ ?_; clear hK K))
  | (refine wpX_lastL rfl ?_; intro K hK; simp -implicitDefEqProofs (disch := first | omega | (simp only [qd] <;> omega)) only [xq, ↓xp, qc, Nat.reduceAdd, List.range, List.range.loop, fine, Nat.reduceEqDiff, ↓reduceIte, yielded, reduceCtorEq, Nat.reduceLT, Nat.reduceMul, Nat.reduceSub, one, Nat.reduceLeDiff, runX_cons, y71_32, ↓ex_invoke, aq, ↓ap, qe0, qe1, qe2, *, -hK, assert_rule _ _ hr0 hr3]; try (refine hK _ _ ?_; clear hK K; (try simp only [nq, ↓reduceIte, Nat.reduceEqDiff])))
  | (refine wpX_skip ?_; (try simp only [nq, ↓reduceIte, Nat.reduceEqDiff]))
  | (refine wpX_label ?_; (try simp only [nq, ↓reduceIte, Nat.reduceEqDiff]))
  | (refine wpX_exit ?_; (try simp only [nq, ↓reduceIte, Nat.reduceEqDiff]))
  | (refine wpX_goto ?_; (try simp only [nq, ↓reduceIte, Nat.reduceEqDiff]))
  | (refine wpX_condK (by simp only [act_eval, upd_get, Nat.reduceEqDiff, Nat.reduceLT, ↓reduceIte, *]; rfl) ?_ ?_ <;> (intro hc; first | (exfalso; simp -implicitDefEqProofs (disch := omega) only [*, bq, reduceCtorEq] at hc; done) | (simp only [dq, qe3, qe4, qe5, qe6] at hc) | skip))
  | (refine wpX_scope0 ?_)
  | (refine wpX_block ?_)
  | (refine wpX_seq ?_))
            (intro nb hnb; generalize hG : Hp.set _ nb _ = H9; have lH9 := le_of_set hG hnb; have vnb := at_of_set hG; clear hG)
            have hM9 := hM8.le lH9
            clear hM8 lH9 vnb hnb
            have vhb9 := hM9.h
            cases hsnd : sendB places S.m t
            · rw [hsnd] at hlat
              simp only [Bool.false_eq_true, and_false, if_false] at hlat
              have hsb : (!S.m.testBit t.toNat && decide (places ≤ ↑(oCount S.m))) = false := hsnd
              rw [hsb]
              have hM9' := hlat.symm ▸ hM9
              by_cases hr : r = 3
              · (try simp -implicitDefEqProofs (disch := first | omega | (simp only [qd] <;> omega)) only [xq, ↓xp, qc, Nat.reduceAdd, List.range, List.range.loop, fine, Nat.reduceEqDiff, ↓reduceIte, yielded, reduceCtorEq, Nat.reduceLT, Nat.reduceMul, Nat.reduceSub, one, Nat.reduceLeDiff, runX_cons, y71_32, ↓ex_invoke, aq, ↓ap, qe0, qe1, qe2, *, -hK, assert_rule _ _ hr0 hr3]); try (refine hK _ _ ?_; clear hK K; (try simp only [nq, ↓reduceIte, Nat.reduceEqDiff])); repeat' (first
  | (refine wpX_stmtL rfl ?_; intro K hK; simp -implicitDefEqProofs (disch := first | omega | (simp only [qd] <;> omega)) only [xq, ↓xp, qc, Nat.reduceAdd, List.range, List.range.loop, fine, Nat.reduceEqDiff, ↓reduceIte, yielded, reduceCtorEq, Nat.reduceLT, Nat.reduceMul, Nat.reduceSub, one, Nat.reduceLeDiff, runX_cons, y71_32, ↓ex_invoke, aq, ↓ap, qe0, qe1, qe2, *, -hK, assert_rule _ _ hr0 hr3]; try (refine hK _ _ ?_; clear hK K))
  | (refine wpX_lastL rfl ?_; intro K hK; simp -implicitDefEqProofs (disch := first | omega | (simp only [qd] <;> omega)) only [xq, ↓xp, qc, Nat.reduceAdd, List.range, List.range.loop, fine, Nat.reduceEqDiff, ↓reduceIte, yielded, reduceCtorEq, Nat.reduceLT, Nat.reduceMul, Nat.reduceSub, one, Nat.reduceLeDiff, runX_cons, y71_32, ↓ex_invoke, aq, ↓ap, qe0, qe1, qe2, *, -hK, assert_rule _ _ hr0 hr3]; try (refine hK _ _ ?_; clear hK K; (try simp only [nq, ↓reduceIte, Nat.reduceEqDiff])))
  | (refine wpX_skip ?_; (try simp only [nq, ↓reduceIte, Nat.reduceEqDiff]))
  | (refine wpX_label ?_; (try simp only [nq, ↓reduceIte, Nat.reduceEqDiff]))
  | (refine wpX_exit ?_; (try simp only [nq, ↓reduceIte, Nat.reduceEqDiff]))
  | (refine wpX_goto ?_; (try simp only [nq, ↓reduceIte, Nat.reduceEqDiff]))
  | (refine wpX_condK (by simp only [act_eval, upd_get, Nat.reduceEqDiff, Nat.reduceLT, ↓reduceIte, *]; rfl) ?_ ?_ <;> (intro hc; first | (exfalso; simp -implicitDefEqProofs (disch := omega) only [*, bq, reduceCtorEq] at hc; done) | (simp only [dq, qe3, qe4, qe5, qe6] at hc) | skip))
  | (refine wpX_scope0 ?_)
  | (refine wpX_block ?_)
  | (refine wpX_seq ?_))
                exact ⟨_, rfl, ⟨e0, e1, e2, e6, e7, e8, e11, e59, e60, e61⟩, rfl, rfl, rfl, by rw [hsnd]; rfl, hM9'⟩
              · (try simp -implicitDefEqProofs (disch := first | omega | (simp only [qd] <;> omega)) only [xq, ↓xp, qc, Nat.reduceAdd, List.range, List.range.loop, fine, Nat.reduceEqDiff, ↓reduceIte, yielded, reduceCtorEq, Nat.reduceLT, Nat.reduceMul, Nat.reduceSub, one, Nat.reduceLeDiff, runX_cons, y71_32, ↓ex_invoke, aq, ↓ap, qe0, qe1, qe2, *, -hK, assert_rule _ _ hr0 hr3]); try (refine hK _ _ ?_; clear hK K; (try simp only [nq, ↓reduceIte, Nat.reduceEqDiff])); repeat' (first
  | (refine wpX_stmtL rfl ?_; intro K hK; simp -implicitDefEqProofs (disch := first | omega | (simp only [qd] <;> omega)) only [xq, ↓xp, qc, Nat.reduceAdd, List.range, List.range.loop, fine, Nat.reduceEqDiff, ↓reduceIte, yielded, reduceCtorEq, Nat.reduceLT, Nat.reduceMul, Nat.reduceSub, one, Nat.reduceLeDiff, runX_cons, y71_32, ↓ex_invoke, aq, ↓ap, qe0, qe1, qe2, *, -hK, assert_rule _ _ hr0 hr3]; try (refine hK _ _ ?_; clear hK K))
  | (refine wpX_lastL rfl ?_; intro K hK; simp -implicitDefEqProofs (disch := first | omega | (simp only [qd] <;> omega)) only [xq, ↓xp, qc, Nat.reduceAdd, List.range, List.range.loop, fine, Nat.reduceEqDiff, ↓reduceIte, yielded, reduceCtorEq, Nat.reduceLT, Nat.reduceMul, Nat.reduceSub, one, Nat.reduceLeDiff, runX_cons, y71_32, ↓ex_invoke, aq, ↓ap, qe0, qe1, qe2, *, -hK, assert_rule _ _ hr0 hr3]; try (refine hK _ _ ?_; clear hK K; (try simp only [nq, ↓reduceIte, Nat.reduceEqDiff])))
  | (refine wpX_skip ?_; (try simp only [nq, ↓reduceIte, Nat.reduceEqDiff]))
  | (refine wpX_label ?_; (try simp only [nq, ↓reduceIte, Nat.reduceEqDiff]))
  | (refine wpX_exit ?_; (try simp only [nq, ↓reduceIte, Nat.reduceEqDiff]))
  | (refine wpX_goto ?_; (try simp only [nq, ↓reduceIte, Nat.reduceEqDiff]))
  | (refine wpX_condK (by simp only [act_eval, upd_get, Nat.reduceEqDiff, Nat.reduceLT, ↓reduceIte, *]; rfl) ?_ ?_ <;> (intro hc; first | (exfalso; simp -implicitDefEqProofs (disch := omega) only [*, bq, reduceCtorEq] at hc; done) | (simp only [dq, qe3, qe4, qe5, qe6] at hc) | skip))
  | (refine wpX_scope0 ?_)
  | (refine wpX_block ?_)
  | (refine wpX_seq ?_))
                exact ⟨_, rfl, ⟨e0, e1, e2, e6, e7, e8, e11, e59, e60, e61⟩, rfl, rfl, rfl, by rw [hsnd]; rfl, hM9'⟩
            · rw [hsnd] at hlat
              have hsb : (!S.m.testBit t.toNat && decide (places ≤ ↑(oCount S.m))) = true := hsnd
              rw [hsb]
              by_cases hr : r = 3
              · rw [if_pos ⟨hr, rfl⟩] at hlat
                (try simp -implicitDefEqProofs (disch := first | omega | (simp only [qd] <;> omega)) only [xq, ↓xp, qc, Nat.reduceAdd, List.range, List.range.loop, fine, Nat.reduceEqDiff, ↓reduceIte, yielded, reduceCtorEq, Nat.reduceLT, Nat.reduceMul, Nat.reduceSub, one, Nat.reduceLeDiff, runX_cons, y71_32, ↓ex_invoke, aq, ↓ap, qe0, qe1, qe2, *, -hK, assert_rule _ _ hr0 hr3]); try (refine hK _ _ ?_; clear hK K; (try simp only [nq, ↓reduceIte, Nat.reduceEqDiff])); repeat' (first
  | (refine wpX_stmtL rfl ?_; intro K hK; simp -implicitDefEqProofs (disch := first | omega | (simp only [qd] <;> omega)) only [xq, ↓xp, qc, Nat.reduceAdd, List.range, List.range.loop, fine, Nat.reduceEqDiff, ↓reduceIte, yielded, reduceCtorEq, Nat.reduceLT, Nat.reduceMul, Nat.reduceSub, one, Nat.reduceLeDiff, runX_cons, y71_32, ↓ex_invoke, aq, ↓ap, qe0, qe1, qe2, *, -hK, assert_rule _ _ hr0 hr3]; try (refine hK _ _ ?_; clear hK K))
  | (refine wpX_lastL rfl ?_; intro K hK; simp -implicitDefEqProofs (disch := first | omega | (simp only [qd] <;> omega)) only [xq, ↓xp, qc, Nat.reduceAdd, List.range, List.range.loop, fine, Nat.reduceEqDiff, ↓reduceIte, yielded, reduceCtorEq, Nat.reduceLT, Nat.reduceMul, Nat.reduceSub, one, Nat.reduceLeDiff, runX_cons, y71_32, ↓ex_invoke, aq, ↓ap, qe0, qe1, qe2, *, -hK, assert_rule _ _ hr0 hr3]; try (refine hK _ _ ?_; clear hK K; (try simp only [nq, ↓reduceIte, Nat.reduceEqDiff])))
  | (refine wpX_skip ?_; (try simp only [nq, ↓reduceIte, Nat.reduceEqDiff]))
  | (refine wpX_label ?_; (try simp only [nq, ↓reduceIte, Nat.reduceEqDiff]))
  | (refine wpX_exit ?_; (try simp only [nq, ↓reduceIte, Nat.reduceEqDiff]))
  | (refine wpX_goto ?_; (try simp only [nq, ↓reduceIte, Nat.reduceEqDiff]))
  | (refine wpX_condK (by simp only [act_eval, upd_get, Nat.reduceEqDiff, Nat.reduceLT, ↓reduceIte, *]; rfl) ?_ ?_ <;> (intro hc; first | (exfalso; simp -implicitDefEqProofs (disch := omega) only [*, bq, reduceCtorEq] at hc; done) | (simp only [dq, qe3, qe4, qe5, qe6] at hc) | skip))
  | (refine wpX_scope0 ?_)
  | (refine wpX_block ?_)
  | (refine wpX_seq ?_))
                refine (look_spec main H9 db places pieces _ cv _ ts mb hM9.d hM9.t hb S.came S.asked S.later hO.came hO.asked hO.later hM9.h nhd' (by omega) h6 i hlt).runs.mono ?_
                rintro _ H10 ⟨rfl, hH10⟩
                rw [hH10]; clear hH10 H10
                have hM10 := hM9.setH h0h ncb nsh nhd S.came S.asked (laterL ts (i + 1))
                rw [← hlat] at hM10 ⊢
                clear hlat
                (try simp -implicitDefEqProofs (disch := first | omega | (simp only [qd] <;> omega)) only [xq, ↓xp, qc, Nat.reduceAdd, List.range, List.range.loop, fine, Nat.reduceEqDiff, ↓reduceIte, yielded, reduceCtorEq, Nat.reduceLT, Nat.reduceMul, Nat.reduceSub, one, Nat.reduceLeDiff, runX_cons, y71_32, ↓ex_invoke, aq, ↓ap, qe0, qe1, qe2, *, -hK]); try (refine hK _ _ ?_; clear hK K; (try simp only [nq, ↓reduceIte, Nat.reduceEqDiff])); repeat' (first
  | (refine wpX_stmtL rfl ?_; intro K hK; simp -implicitDefEqProofs (disch := first | omega | (simp only [qd] <;> omega)) only [xq, ↓xp, qc, Nat.reduceAdd, List.range, List.range.loop, fine, Nat.reduceEqDiff, ↓reduceIte, yielded, reduceCtorEq, Nat.reduceLT, Nat.reduceMul, Nat.reduceSub, one, Nat.reduceLeDiff, runX_cons, y71_32, ↓ex_invoke, aq, ↓ap, qe0, qe1, qe2, *, -hK]; try (refine hK _ _ ?_; clear hK K))
  | (refine wpX_lastL rfl ?_; intro K hK; simp -implicitDefEqProofs (disch := first | omega | (simp only [qd] <;> omega)) only [xq, ↓xp, qc, Nat.reduceAdd, List.range, List.range.loop, fine, Nat.reduceEqDiff, ↓reduceIte, yielded, reduceCtorEq, Nat.reduceLT, Nat.reduceMul, Nat.reduceSub, one, Nat.reduceLeDiff, runX_cons, y71_32, ↓ex_invoke, aq, ↓ap, qe0, qe1, qe2, *, -hK]; try (refine hK _ _ ?_; clear hK K; (try simp only [nq, ↓reduceIte, Nat.reduceEqDiff])))
  | (refine wpX_skip ?_; (try simp only [nq, ↓reduceIte, Nat.reduceEqDiff]))
  | (refine wpX_label ?_; (try simp only [nq, ↓reduceIte, Nat.reduceEqDiff]))
  | (refine wpX_exit ?_; (try simp only [nq, ↓reduceIte, Nat.reduceEqDiff]))
  | (refine wpX_goto ?_; (try simp only [nq, ↓reduceIte, Nat.reduceEqDiff]))
  | (refine wpX_condK (by simp only [act_eval, upd_get, Nat.reduceEqDiff, Nat.reduceLT, ↓reduceIte, *]; rfl) ?_ ?_ <;> (intro hc; first | (exfalso; simp -implicitDefEqProofs (disch := omega) only [*, bq, reduceCtorEq] at hc; done) | (simp only [dq, qe3, qe4, qe5, qe6] at hc) | skip))
  | (refine wpX_scope0 ?_)
  | (refine wpX_block ?_)
  | (refine wpX_seq ?_))
                exact ⟨_, rfl, ⟨e0, e1, e2, e6, e7, e8, e11, e59, e60, e61⟩, rfl, rfl, rfl, by rw [hsnd]; rfl, hM10⟩
              · rw [if_neg (fun h => hr h.1)] at hlat
                have hM9' := hlat.symm ▸ hM9
                (try simp -implicitDefEqProofs (disch := first | omega | (simp only [qd] <;> omega)) only [xq, ↓xp, qc, Nat.reduceAdd, List.range, List.range.loop, fine, Nat.reduceEqDiff, ↓reduceIte, yielded, reduceCtorEq, Nat.reduceLT, Nat.reduceMul, Nat.reduceSub, one, Nat.reduceLeDiff, runX_cons, y71_32, ↓ex_invoke, aq, ↓ap, qe0, qe1, qe2, *, -hK, assert_rule _ _ hr0 hr3]); try (refine hK _ _ ?_; clear hK K; (try simp only [nq, ↓reduceIte, Nat.reduceEqDiff])); repeat' (first
  | (refine wpX_stmtL rfl ?_; intro K hK; simp -implicitDefEqProofs (disch := first | omega | (simp only [qd] <;> omega)) only [xq, ↓xp, qc, Nat.reduceAdd, List.range, List.range.loop, fine, Nat.reduceEqDiff, ↓reduceIte, yielded, reduceCtorEq, Nat.reduceLT, Nat.reduceMul, Nat.reduceSub, one, Nat.reduceLeDiff, runX_cons, y71_32, ↓ex_invoke, aq, ↓ap, qe0, qe1, qe2, *, -hK, assert_rule _ _ hr0 hr3]; try (refine hK _ _ ?_; clear hK K))
  | (refine wpX_lastL rfl ?_; intro K hK; simp -implicitDefEqProofs (disch := first | omega | (simp only [qd] <;> omega)) only [xq, ↓xp, qc, Nat.reduceAdd, List.range, List.range.loop, fine, Nat.reduceEqDiff, ↓reduceIte, yielded, reduceCtorEq, Nat.reduceLT, Nat.reduceMul, Nat.reduceSub, one, Nat.reduceLeDiff, runX_cons, y71_32, ↓ex_invoke, aq, ↓ap, qe0, qe1, qe2, *, -hK, assert_rule _ _ hr0 hr3]; try (refine hK _ _ ?_; clear hK K; (try simp only [nq, ↓reduceIte, Nat.reduceEqDiff])))
  | (refine wpX_skip ?_; (try simp only [nq, ↓reduceIte, Nat.reduceEqDiff]))
  | (refine wpX_label ?_; (try simp only [nq, ↓reduceIte, Nat.reduceEqDiff]))
  | (refine wpX_exit ?_; (try simp only [nq, ↓reduceIte, Nat.reduceEqDiff]))
  | (refine wpX_goto ?_; (try simp only [nq, ↓reduceIte, Nat.reduceEqDiff]))
  | (refine wpX_condK (by simp only [act_eval, upd_get, Nat.reduceEqDiff, Nat.reduceLT, ↓reduceIte, *]; rfl) ?_ ?_ <;> (intro hc; first | (exfalso; simp -implicitDefEqProofs (disch := omega) only [*, bq, reduceCtorEq] at hc; done) | (simp only [dq, qe3, qe4, qe5, qe6] at hc) | skip))
  | (refine wpX_scope0 ?_)
  | (refine wpX_block ?_)
  | (refine wpX_seq ?_))
                exact ⟨_, rfl, ⟨e0, e1, e2, e6, e7, e8, e11, e59, e60, e61⟩, rfl, rfl, rfl, by rw [hsnd]; rfl, hM9'⟩
          · rintro a' H9 ⟨e', rfl, ⟨e0', e1', e2', e6', e7', e8', e11', e59', e60', e61'⟩, e12', e13', e14', e15', hM9⟩
            clear hM8 e0 e1 e2 e6 e7 e8 e11 e59 e60 e61
            rename_i eold
            clear eold
            refine wpX_cut (fun a' H' => ∃ e, a' = act 142 e [] ∧ RunE e cb hb sb db r (some ⟨b, o, none⟩) ts.length tc S.f i ∧ e 12 = .int .i64 i ∧ e 13 = .int .i64 t ∧ e 14 = .bool (!S.m.testBit t.toNat) ∧
              RunM H H' cb hb sb db (dayO places pieces (.slice sa start.length sc) cv (.slice (some ⟨b, o, none⟩) ts.length tc) mb) (.slice (some ⟨b, o, none⟩) ts.length tc) ts i S1.cl S.came S.asked S1.later S.m) ?_ ?_
            · have hcl1 : S1.cl = S.cl.set i (if sendB places S.m t then pickF (rankF r S.came S.asked S1.later) (oList S.m) else -1) := by
                rw [← hstep]
                simp only [rstep, rsent]
                cases sendB places S.m t
                · rfl
                · simp only [if_true, and_true]
              have vsb9 := hM9.s
              cases hsnd : sendB places S.m t
              · rw [hsnd] at hcl1 e15'
                simp only [Bool.false_eq_true, if_false] at hcl1
                rw [← hcl1] at hM9
                clear hcl1
                repeat' (first
  | (refine wpX_stmtL rfl ?_; intro K hK; simp -implicitDefEqProofs (disch := first | omega | (simp only [qd] <;> omega)) only [xq, ↓xp, qc, Nat.reduceAdd, List.range, List.range.loop, fine, Nat.reduceEqDiff, ↓reduceIte, yielded, reduceCtorEq, Nat.reduceLT, Nat.reduceMul, Nat.reduceSub, one, Nat.reduceLeDiff, runX_cons, y71_32, ↓ex_invoke, aq, ↓ap, qe0, qe1, qe2, *, -hK]; try (refine hK _ _ ?_; clear hK K))
  | (refine wpX_lastL rfl ?_; intro K hK; simp -implicitDefEqProofs (disch := first | omega | (simp only [qd] <;> omega)) only [xq, ↓xp, qc, Nat.reduceAdd, List.range, List.range.loop, fine, Nat.reduceEqDiff, ↓reduceIte, yielded, reduceCtorEq, Nat.reduceLT, Nat.reduceMul, Nat.reduceSub, one, Nat.reduceLeDiff, runX_cons, y71_32, ↓ex_invoke, aq, ↓ap, qe0, qe1, qe2, *, -hK]; try (refine hK _ _ ?_; clear hK K; (try simp only [nq, ↓reduceIte, Nat.reduceEqDiff])))
  | (refine wpX_skip ?_; (try simp only [nq, ↓reduceIte, Nat.reduceEqDiff]))
  | (refine wpX_label ?_; (try simp only [nq, ↓reduceIte, Nat.reduceEqDiff]))
  | (refine wpX_exit ?_; (try simp only [nq, ↓reduceIte, Nat.reduceEqDiff]))
  | (refine wpX_goto ?_; (try simp only [nq, ↓reduceIte, Nat.reduceEqDiff]))
  | (refine wpX_condK (by simp only [act_eval, upd_get, Nat.reduceEqDiff, Nat.reduceLT, ↓reduceIte, *]; rfl) ?_ ?_ <;> (intro hc; first | (exfalso; simp -implicitDefEqProofs (disch := omega) only [*, bq, reduceCtorEq] at hc; done) | (simp only [dq, qe3, qe4, qe5, qe6] at hc) | skip))
  | (refine wpX_scope0 ?_)
  | (refine wpX_block ?_)
  | (refine wpX_seq ?_))
                exact ⟨_, rfl, ⟨e0', e1', e2', e6', e7', e8', e11', e59', e60', e61'⟩, e12', e13', e14', hM9⟩
              · rw [hsnd] at hcl1 e15'
                simp only [if_true] at hcl1
                repeat' (first
  | (refine wpX_stmtL rfl ?_; intro K hK; simp -implicitDefEqProofs (disch := first | omega | (simp only [qd] <;> omega)) only [xq, ↓xp, qc, Nat.reduceAdd, List.range, List.range.loop, fine, Nat.reduceEqDiff, ↓reduceIte, yielded, reduceCtorEq, Nat.reduceLT, Nat.reduceMul, Nat.reduceSub, one, Nat.reduceLeDiff, runX_cons, y71_32, ↓ex_invoke, aq, ↓ap, qe0, qe1, qe2, *, -hK]; try (refine hK _ _ ?_; clear hK K))
  | (refine wpX_lastL rfl ?_; intro K hK; simp -implicitDefEqProofs (disch := first | omega | (simp only [qd] <;> omega)) only [xq, ↓xp, qc, Nat.reduceAdd, List.range, List.range.loop, fine, Nat.reduceEqDiff, ↓reduceIte, yielded, reduceCtorEq, Nat.reduceLT, Nat.reduceMul, Nat.reduceSub, one, Nat.reduceLeDiff, runX_cons, y71_32, ↓ex_invoke, aq, ↓ap, qe0, qe1, qe2, *, -hK]; try (refine hK _ _ ?_; clear hK K; (try simp only [nq, ↓reduceIte, Nat.reduceEqDiff])))
  | (refine wpX_skip ?_; (try simp only [nq, ↓reduceIte, Nat.reduceEqDiff]))
  | (refine wpX_label ?_; (try simp only [nq, ↓reduceIte, Nat.reduceEqDiff]))
  | (refine wpX_exit ?_; (try simp only [nq, ↓reduceIte, Nat.reduceEqDiff]))
  | (refine wpX_goto ?_; (try simp only [nq, ↓reduceIte, Nat.reduceEqDiff]))
  | (refine wpX_condK (by simp only [act_eval, upd_get, Nat.reduceEqDiff, Nat.reduceLT, ↓reduceIte, *]; rfl) ?_ ?_ <;> (intro hc; first | (exfalso; simp -implicitDefEqProofs (disch := omega) only [*, bq, reduceCtorEq] at hc; done) | (simp only [dq, qe3, qe4, qe5, qe6] at hc) | skip))
  | (refine wpX_scope0 ?_)
  | (refine wpX_block ?_)
  | (refine wpX_seq ?_))
                refine (list_spec main H9 S.m hO.m).runs.mono ?_
                rintro _ H10 ⟨lv, rfl, hlv, lH10⟩
                have hM10 := hM9.le lH10
                have hlm : ∀ x ∈ oList S.m, 0 ≤ x ∧ x < 6 := fun x hx => ⟨(oList_mem hx).1, (oList_mem hx).2.1⟩
                have hll : (oList S.m).length ≤ 6 := oListN_len S.m 6
                clear hM9 lH10
                have hlvS := hlv
                obtain ⟨la, lc, rfl, hlc, _⟩ := hlv
                generalize hL : oList S.m = L at *
                (try simp -implicitDefEqProofs (disch := first | omega | (simp only [qd] <;> omega)) only [xq, ↓xp, qc, Nat.reduceAdd, List.range, List.range.loop, fine, Nat.reduceEqDiff, ↓reduceIte, yielded, reduceCtorEq, Nat.reduceLT, Nat.reduceMul, Nat.reduceSub, one, Nat.reduceLeDiff, runX_cons, y71_32, ↓ex_invoke, aq, ↓ap, qe0, qe1, qe2, *, -hK]); try (refine hK _ _ ?_; clear hK K; (try simp only [nq, ↓reduceIte, Nat.reduceEqDiff])); repeat' (first
  | (refine wpX_stmtL rfl ?_; intro K hK; simp -implicitDefEqProofs (disch := first | omega | (simp only [qd] <;> omega)) only [xq, ↓xp, qc, Nat.reduceAdd, List.range, List.range.loop, fine, Nat.reduceEqDiff, ↓reduceIte, yielded, reduceCtorEq, Nat.reduceLT, Nat.reduceMul, Nat.reduceSub, one, Nat.reduceLeDiff, runX_cons, y71_32, ↓ex_invoke, aq, ↓ap, qe0, qe1, qe2, *, -hK]; try (refine hK _ _ ?_; clear hK K))
  | (refine wpX_lastL rfl ?_; intro K hK; simp -implicitDefEqProofs (disch := first | omega | (simp only [qd] <;> omega)) only [xq, ↓xp, qc, Nat.reduceAdd, List.range, List.range.loop, fine, Nat.reduceEqDiff, ↓reduceIte, yielded, reduceCtorEq, Nat.reduceLT, Nat.reduceMul, Nat.reduceSub, one, Nat.reduceLeDiff, runX_cons, y71_32, ↓ex_invoke, aq, ↓ap, qe0, qe1, qe2, *, -hK]; try (refine hK _ _ ?_; clear hK K; (try simp only [nq, ↓reduceIte, Nat.reduceEqDiff])))
  | (refine wpX_skip ?_; (try simp only [nq, ↓reduceIte, Nat.reduceEqDiff]))
  | (refine wpX_label ?_; (try simp only [nq, ↓reduceIte, Nat.reduceEqDiff]))
  | (refine wpX_exit ?_; (try simp only [nq, ↓reduceIte, Nat.reduceEqDiff]))
  | (refine wpX_goto ?_; (try simp only [nq, ↓reduceIte, Nat.reduceEqDiff]))
  | (refine wpX_condK (by simp only [act_eval, upd_get, Nat.reduceEqDiff, Nat.reduceLT, ↓reduceIte, *]; rfl) ?_ ?_ <;> (intro hc; first | (exfalso; simp -implicitDefEqProofs (disch := omega) only [*, bq, reduceCtorEq] at hc; done) | (simp only [dq, qe3, qe4, qe5, qe6] at hc) | skip))
  | (refine wpX_scope0 ?_)
  | (refine wpX_block ?_)
  | (refine wpX_seq ?_))
                refine wpX_loop (fun w a' H' => ∃ e k, w = L.length - k ∧ k ≤ L.length ∧ a' = act 142 e [] ∧ RunE e cb hb sb db r (some ⟨b, o, none⟩) ts.length tc S.f i ∧ e 12 = .int .i64 i ∧ e 13 = .int .i64 t ∧ e 14 = .bool (!S.m.testBit t.toNat) ∧ e 89 = .slice la L.length lc ∧ e 90 = .int .i64 L.length ∧ e 91 = .int .i64 k ∧ SlI H' (.slice la L.length lc) L ∧
                  RunM H H' cb hb sb db (dayO places pieces (.slice sa start.length sc) cv (.slice (some ⟨b, o, none⟩) ts.length tc) mb) (.slice (some ⟨b, o, none⟩) ts.length tc) ts i (S.cl.set i (pickF (rankF r S.came S.asked S1.later) (L.take k))) S.came S.asked S1.later S.m) (n := L.length) ?_ ?_
                · exact ⟨_, 0, by omega, by omega, rfl, ⟨e0', e1', e2', e6', e7', e8', e11', e59', e60', e61'⟩, e12', e13', e14', rfl, rfl, rfl, hlvS, hM10⟩
                · clear hM10 e0' e1' e2' e6' e7' e8' e11' e59' e60' e61' e12' e13' e14' e15' hlvS
                  rename_i eold
                  clear eold
                  rintro w a' H11 ⟨e, k, rfl, hk, rfl, ⟨e0, e1, e2, e6, e7, e8, e11, e59, e60, e61⟩, e12, e13, e14, e89, e90, e91, hlv, hM⟩
                  by_cases hltk : k < L.length
                  · obtain ⟨b2, o2, cap2, p2, c2, fr2, hve, _, hb2, hx2⟩ := hlv.cons (fun h => absurd (congrArg List.length h) (by simp only [List.length_nil]; omega))
                    cases hve
                    have hxk := hx2 k L[k] (List.getElem?_eq_getElem hltk)
                    have hqb := hlm _ (List.getElem_mem hltk)
                    have hfold : pickF (rankF r S.came S.asked S1.later) (L.take (k + 1)) = if pickF (rankF r S.came S.asked S1.later) (L.take k) < 0 ∨ rankF r S.came S.asked S1.later L[k] < rankF r S.came S.asked S1.later (pickF (rankF r S.came S.asked S1.later) (L.take k)) then L[k] else pickF (rankF r S.came S.asked S1.later) (L.take k) := by
                      unfold pickF
                      rw [List.take_add_one, List.getElem?_eq_getElem hltk, List.foldl_append]
                      rfl
                    have hcr : pickF (rankF r S.came S.asked S1.later) (L.take k) = -1 ∨ 0 ≤ pickF (rankF r S.came S.asked S1.later) (L.take k) ∧ pickF (rankF r S.came S.asked S1.later) (L.take k) < 6 := by
                      rcases foldl_pick_mem (rankF r S.came S.asked S1.later) (L.take k) (-1) with h | h
                      · exact .inl h
                      · exact .inr (hlm _ (List.mem_of_mem_take h))
                    generalize L[k] = q at hxk hqb hfold
                    generalize hce : pickF (rankF r S.came S.asked S1.later) (L.take (k + 1)) = c' at hfold
                    generalize pickF (rankF r S.came S.asked S1.later) (L.take k) = c0 at hfold hcr hM
                    have vcb11 := hM.c
                    have vhb11 := hM.h
                    have hcl8 : (S.cl.set i c0).length = 8 := by rw [List.length_set]; exact hO.cl
                    have hcl8i : (ints (S.cl.set i c0)).length = 8 := by rw [ints_len]; exact hcl8
                    have hci : (ints (S.cl.set i c0))[i]? = some (.int .i64 c0) := by
                      refine ints_get ?_
                      rw [List.getElem?_set_self (by have := hO.cl; omega)]
                    have hrb : ∀ x ∈ S1.later, 0 ≤ x ∧ x ≤ 1000 := hO'.bnd
                    repeat' (first
  | (refine wpX_stmtL rfl ?_; intro K hK; simp -implicitDefEqProofs (disch := first | omega | (simp only [qd] <;> omega)) only [xq, ↓xp, qc, Nat.reduceAdd, List.range, List.range.loop, fine, Nat.reduceEqDiff, ↓reduceIte, yielded, reduceCtorEq, Nat.reduceLT, Nat.reduceMul, Nat.reduceSub, one, Nat.reduceLeDiff, runX_cons, y71_32, ↓ex_invoke, aq, ↓ap, qe0, qe1, qe2, *, -hK]; try (refine hK _ _ ?_; clear hK K))
  | (refine wpX_lastL rfl ?_; intro K hK; simp -implicitDefEqProofs (disch := first | omega | (simp only [qd] <;> omega)) only [xq, ↓xp, qc, Nat.reduceAdd, List.range, List.range.loop, fine, Nat.reduceEqDiff, ↓reduceIte, yielded, reduceCtorEq, Nat.reduceLT, Nat.reduceMul, Nat.reduceSub, one, Nat.reduceLeDiff, runX_cons, y71_32, ↓ex_invoke, aq, ↓ap, qe0, qe1, qe2, *, -hK]; try (refine hK _ _ ?_; clear hK K; (try simp only [nq, ↓reduceIte, Nat.reduceEqDiff])))
  | (refine wpX_skip ?_; (try simp only [nq, ↓reduceIte, Nat.reduceEqDiff]))
  | (refine wpX_label ?_; (try simp only [nq, ↓reduceIte, Nat.reduceEqDiff]))
  | (refine wpX_exit ?_; (try simp only [nq, ↓reduceIte, Nat.reduceEqDiff]))
  | (refine wpX_goto ?_; (try simp only [nq, ↓reduceIte, Nat.reduceEqDiff]))
  | (refine wpX_condK (by simp only [act_eval, upd_get, Nat.reduceEqDiff, Nat.reduceLT, ↓reduceIte, *]; rfl) ?_ ?_ <;> (intro hc; first | (exfalso; simp -implicitDefEqProofs (disch := omega) only [*, bq, reduceCtorEq] at hc; done) | (simp only [dq, qe3, qe4, qe5, qe6] at hc) | skip)))
                    refine wpX_seq ?_
                    repeat' (first
  | (refine wpX_stmtL rfl ?_; intro K hK; simp -implicitDefEqProofs (disch := first | omega | (simp only [qd] <;> omega)) only [xq, ↓xp, qc, Nat.reduceAdd, List.range, List.range.loop, fine, Nat.reduceEqDiff, ↓reduceIte, yielded, reduceCtorEq, Nat.reduceLT, Nat.reduceMul, Nat.reduceSub, one, Nat.reduceLeDiff, runX_cons, y71_32, ↓ex_invoke, aq, ↓ap, qe0, qe1, qe2, *, -hK]; try (refine hK _ _ ?_; clear hK K))
  | (refine wpX_lastL rfl ?_; intro K hK; simp -implicitDefEqProofs (disch := first | omega | (simp only [qd] <;> omega)) only [xq, ↓xp, qc, Nat.reduceAdd, List.range, List.range.loop, fine, Nat.reduceEqDiff, ↓reduceIte, yielded, reduceCtorEq, Nat.reduceLT, Nat.reduceMul, Nat.reduceSub, one, Nat.reduceLeDiff, runX_cons, y71_32, ↓ex_invoke, aq, ↓ap, qe0, qe1, qe2, *, -hK]; try (refine hK _ _ ?_; clear hK K; (try simp only [nq, ↓reduceIte, Nat.reduceEqDiff])))
  | (refine wpX_skip ?_; (try simp only [nq, ↓reduceIte, Nat.reduceEqDiff]))
  | (refine wpX_label ?_; (try simp only [nq, ↓reduceIte, Nat.reduceEqDiff]))
  | (refine wpX_exit ?_; (try simp only [nq, ↓reduceIte, Nat.reduceEqDiff]))
  | (refine wpX_goto ?_; (try simp only [nq, ↓reduceIte, Nat.reduceEqDiff]))
  | (refine wpX_condK (by simp only [act_eval, upd_get, Nat.reduceEqDiff, Nat.reduceLT, ↓reduceIte, *]; rfl) ?_ ?_ <;> (intro hc; first | (exfalso; simp -implicitDefEqProofs (disch := omega) only [*, bq, reduceCtorEq] at hc; done) | (simp only [dq, qe3, qe4, qe5, qe6] at hc) | skip)))
                    refine wpX_seq (wpX_block ?_)
                    repeat' (first
  | (refine wpX_stmtL rfl ?_; intro K hK; simp -implicitDefEqProofs (disch := first | omega | (simp only [qd] <;> omega)) only [xq, ↓xp, qc, Nat.reduceAdd, List.range, List.range.loop, fine, Nat.reduceEqDiff, ↓reduceIte, yielded, reduceCtorEq, Nat.reduceLT, Nat.reduceMul, Nat.reduceSub, one, Nat.reduceLeDiff, runX_cons, y71_32, ↓ex_invoke, aq, ↓ap, qe0, qe1, qe2, *, -hK]; try (refine hK _ _ ?_; clear hK K))
  | (refine wpX_lastL rfl ?_; intro K hK; simp -implicitDefEqProofs (disch := first | omega | (simp only [qd] <;> omega)) only [xq, ↓xp, qc, Nat.reduceAdd, List.range, List.range.loop, fine, Nat.reduceEqDiff, ↓reduceIte, yielded, reduceCtorEq, Nat.reduceLT, Nat.reduceMul, Nat.reduceSub, one, Nat.reduceLeDiff, runX_cons, y71_32, ↓ex_invoke, aq, ↓ap, qe0, qe1, qe2, *, -hK]; try (refine hK _ _ ?_; clear hK K; (try simp only [nq, ↓reduceIte, Nat.reduceEqDiff])))
  | (refine wpX_skip ?_; (try simp only [nq, ↓reduceIte, Nat.reduceEqDiff]))
  | (refine wpX_label ?_; (try simp only [nq, ↓reduceIte, Nat.reduceEqDiff]))
  | (refine wpX_exit ?_; (try simp only [nq, ↓reduceIte, Nat.reduceEqDiff]))
  | (refine wpX_goto ?_; (try simp only [nq, ↓reduceIte, Nat.reduceEqDiff]))
  | (refine wpX_condK (by simp only [act_eval, upd_get, Nat.reduceEqDiff, Nat.reduceLT, ↓reduceIte, *]; rfl) ?_ ?_ <;> (intro hc; first | (exfalso; simp -implicitDefEqProofs (disch := omega) only [*, bq, reduceCtorEq] at hc; done) | (simp only [dq, qe3, qe4, qe5, qe6] at hc) | skip)))
                    rcases hcr with rfl | ⟨hc1, hc2⟩
                    · refine wpX_dst0 18 [(true, 0), (true, 1), (true, 2), (true, 3), (true, 4), (true, 5), (true, 6), (true, 7), (true, 8), (true, 9), (true, 10), (true, 11), (true, 12), (true, 13), (true, 14), (true, 15), (true, 16), (true, 17)] (by kernel_rfl) (by kernel_rfl) (by simp) (by kernel_rfl) ?_; intro K hK
                      (iterate 5 (apply plan_take rfl rfl rfl; (focus (simp -implicitDefEqProofs (disch := first | omega | (simp only [qd] <;> omega)) only [xq, ↓xp, qc, Nat.reduceAdd, List.range, List.range.loop, fine, Nat.reduceEqDiff, ↓reduceIte, yielded, reduceCtorEq, Nat.reduceLT, Nat.reduceMul, Nat.reduceSub, one, Nat.reduceLeDiff, runX_cons, y71_32, ↓ex_invoke, aq, ↓ap, qe0, qe1, qe2, *, -hK, YN_value] <;> (first | exact rfl | exact ⟨rfl, rfl⟩ | exact ⟨rfl, trivial⟩))); simp -implicitDefEqProofs (disch := first | omega | (simp only [qd] <;> omega)) only [act_put, act_put_none]))
                      (iterate 12 (apply plan_skip rfl (by simp -implicitDefEqProofs (disch := omega) only [wanted_some, yielded_list, ylK_bool, List.getElem?_cons_succ, List.getElem?_cons_zero, Option.bind_some, act_get?, upd_get, Nat.reduceEqDiff, ↓reduceIte, *]; rfl); simp -implicitDefEqProofs (disch := first | omega | (simp only [qd] <;> omega)) only [act_put, act_put_none]))
                      (apply plan_take rfl rfl rfl; (focus (simp -implicitDefEqProofs (disch := first | omega | (simp only [qd] <;> omega)) only [xq, ↓xp, qc, Nat.reduceAdd, List.range, List.range.loop, fine, Nat.reduceEqDiff, ↓reduceIte, yielded, reduceCtorEq, Nat.reduceLT, Nat.reduceMul, Nat.reduceSub, one, Nat.reduceLeDiff, runX_cons, y71_32, ↓ex_invoke, aq, ↓ap, qe0, qe1, qe2, *, -hK, YN_value] <;> (first | exact rfl | exact ⟨rfl, rfl⟩ | exact ⟨rfl, trivial⟩))); simp -implicitDefEqProofs (disch := first | omega | (simp only [qd] <;> omega)) only [act_put, act_put_none])
                      refine plan_nil (hK _ _ ?_); clear hK K
                      repeat' (first
  | (refine wpX_stmtL rfl ?_; intro K hK; simp -implicitDefEqProofs (disch := first | omega | (simp only [qd] <;> omega)) only [xq, ↓xp, qc, Nat.reduceAdd, List.range, List.range.loop, fine, Nat.reduceEqDiff, ↓reduceIte, yielded, reduceCtorEq, Nat.reduceLT, Nat.reduceMul, Nat.reduceSub, one, Nat.reduceLeDiff, runX_cons, y71_32, ↓ex_invoke, aq, ↓ap, qe0, qe1, qe2, *, -hK]; try (refine hK _ _ ?_; clear hK K))
  | (refine wpX_lastL rfl ?_; intro K hK; simp -implicitDefEqProofs (disch := first | omega | (simp only [qd] <;> omega)) only [xq, ↓xp, qc, Nat.reduceAdd, List.range, List.range.loop, fine, Nat.reduceEqDiff, ↓reduceIte, yielded, reduceCtorEq, Nat.reduceLT, Nat.reduceMul, Nat.reduceSub, one, Nat.reduceLeDiff, runX_cons, y71_32, ↓ex_invoke, aq, ↓ap, qe0, qe1, qe2, *, -hK]; try (refine hK _ _ ?_; clear hK K; (try simp only [nq, ↓reduceIte, Nat.reduceEqDiff])))
  | (refine wpX_skip ?_; (try simp only [nq, ↓reduceIte, Nat.reduceEqDiff]))
  | (refine wpX_label ?_; (try simp only [nq, ↓reduceIte, Nat.reduceEqDiff]))
  | (refine wpX_exit ?_; (try simp only [nq, ↓reduceIte, Nat.reduceEqDiff]))
  | (refine wpX_goto ?_; (try simp only [nq, ↓reduceIte, Nat.reduceEqDiff]))
  | (refine wpX_condK (by simp only [act_eval, upd_get, Nat.reduceEqDiff, Nat.reduceLT, ↓reduceIte, *]; rfl) ?_ ?_ <;> (intro hc; first | (exfalso; simp -implicitDefEqProofs (disch := omega) only [*, bq, reduceCtorEq] at hc; done) | (simp only [dq, qe3, qe4, qe5, qe6] at hc) | skip))
  | (refine wpX_scope0 ?_)
  | (refine wpX_block ?_)
  | (refine wpX_seq ?_))
                      have hc' : c' = q := by rw [hfold]; simp
                      have hset : (ints (S.cl.set i (-1))).set i (Value.int .i64 q) = ints (S.cl.set i c') := by rw [ints_setL, List.set_set, hc']
                      rw [hset]
                      exact ⟨_, by omega, _, k + 1, rfl, hltk, rfl, ⟨e0, e1, e2, e6, e7, e8, e11, e59, e60, e61⟩, e12, e13, e14, e89, e90, rfl, hlv.set (fun p c fr h => by rw [hM.c] at h; cases h), by rw [hce]; exact hM.setC h0c ncb' nsc ncd _⟩
                    · refine wpX_dst0 18 [(true, 0), (true, 1), (true, 2), (true, 3), (true, 4), (true, 5), (true, 6), (true, 7), (true, 8), (true, 9), (true, 10), (true, 11), (true, 12), (true, 13), (true, 14), (true, 15), (true, 16), (true, 17)] (by kernel_rfl) (by kernel_rfl) (by simp) (by kernel_rfl) ?_; intro K hK
                      (iterate 5 (apply plan_take rfl rfl rfl; (focus (simp -implicitDefEqProofs (disch := first | omega | (simp only [qd] <;> omega)) only [xq, ↓xp, qc, Nat.reduceAdd, List.range, List.range.loop, fine, Nat.reduceEqDiff, ↓reduceIte, yielded, reduceCtorEq, Nat.reduceLT, Nat.reduceMul, Nat.reduceSub, one, Nat.reduceLeDiff, runX_cons, y71_32, ↓ex_invoke, aq, ↓ap, qe0, qe1, qe2, *, -hK, YN_value] <;> (first | exact rfl | exact ⟨rfl, rfl⟩ | exact ⟨rfl, trivial⟩))); simp -implicitDefEqProofs (disch := first | omega | (simp only [qd] <;> omega)) only [act_put, act_put_none]))
                      (iterate 2 (apply plan_take rfl (by simp -implicitDefEqProofs (disch := omega) only [wanted_some, yielded_list, ylK_bool, List.getElem?_cons_succ, List.getElem?_cons_zero, Option.bind_some, act_get?, upd_get, Nat.reduceEqDiff, ↓reduceIte, beq_self_eq_true, *]) rfl; (focus (simp -implicitDefEqProofs (disch := first | omega | (simp only [qd] <;> omega)) only [xq, ↓xp, qc, Nat.reduceAdd, List.range, List.range.loop, fine, Nat.reduceEqDiff, ↓reduceIte, yielded, reduceCtorEq, Nat.reduceLT, Nat.reduceMul, Nat.reduceSub, one, Nat.reduceLeDiff, runX_cons, y71_32, ↓ex_invoke, aq, ↓ap, qe0, qe1, qe2, *, -hK, YN_value] <;> (first | exact rfl | exact ⟨rfl, rfl⟩ | exact ⟨rfl, trivial⟩))); simp -implicitDefEqProofs (disch := first | omega | (simp only [qd] <;> omega)) only [act_put, act_put_none]))
                      (apply plan_take rfl (by simp -implicitDefEqProofs (disch := omega) only [wanted_some, yielded_list, ylK_bool, List.getElem?_cons_succ, List.getElem?_cons_zero, Option.bind_some, act_get?, upd_get, Nat.reduceEqDiff, ↓reduceIte, beq_self_eq_true, *]) rfl; (focus (simp -implicitDefEqProofs (disch := first | omega | (simp only [qd] <;> omega)) only [xq, ↓xp, qc, Nat.reduceAdd, List.range, List.range.loop, fine, Nat.reduceEqDiff, ↓reduceIte, yielded, reduceCtorEq, Nat.reduceLT, Nat.reduceMul, Nat.reduceSub, one, Nat.reduceLeDiff, runX_cons, y71_32, ↓ex_invoke, aq, ↓ap, qe0, qe1, qe2, *, -hK]; exact rank_yields main _ r q hb _ _ _ hO.came hO.asked hO'.later hrb hqb.1 hqb.2 hM.h hr0 hr3)); simp -implicitDefEqProofs (disch := first | omega | (simp only [qd] <;> omega)) only [act_put, act_put_none])
                      (iterate 5 (apply plan_take rfl (by simp -implicitDefEqProofs (disch := omega) only [wanted_some, yielded_list, ylK_bool, List.getElem?_cons_succ, List.getElem?_cons_zero, Option.bind_some, act_get?, upd_get, Nat.reduceEqDiff, ↓reduceIte, beq_self_eq_true, *]) rfl; (focus (simp -implicitDefEqProofs (disch := first | omega | (simp only [qd] <;> omega)) only [xq, ↓xp, qc, Nat.reduceAdd, List.range, List.range.loop, fine, Nat.reduceEqDiff, ↓reduceIte, yielded, reduceCtorEq, Nat.reduceLT, Nat.reduceMul, Nat.reduceSub, one, Nat.reduceLeDiff, runX_cons, y71_32, ↓ex_invoke, aq, ↓ap, qe0, qe1, qe2, *, -hK, YN_value] <;> (first | exact rfl | exact ⟨rfl, rfl⟩ | exact ⟨rfl, trivial⟩))); simp -implicitDefEqProofs (disch := first | omega | (simp only [qd] <;> omega)) only [act_put, act_put_none]))
                      (apply plan_take rfl (by simp -implicitDefEqProofs (disch := omega) only [wanted_some, yielded_list, ylK_bool, List.getElem?_cons_succ, List.getElem?_cons_zero, Option.bind_some, act_get?, upd_get, Nat.reduceEqDiff, ↓reduceIte, beq_self_eq_true, *]) rfl; (focus (simp -implicitDefEqProofs (disch := first | omega | (simp only [qd] <;> omega)) only [xq, ↓xp, qc, Nat.reduceAdd, List.range, List.range.loop, fine, Nat.reduceEqDiff, ↓reduceIte, yielded, reduceCtorEq, Nat.reduceLT, Nat.reduceMul, Nat.reduceSub, one, Nat.reduceLeDiff, runX_cons, y71_32, ↓ex_invoke, aq, ↓ap, qe0, qe1, qe2, *, -hK, YN_value, nil_rule] <;> (first | exact rfl | exact ⟨rfl, rfl⟩ | exact ⟨rfl, trivial⟩))); simp -implicitDefEqProofs (disch := first | omega | (simp only [qd] <;> omega)) only [act_put, act_put_none])
                      (apply plan_take rfl (by simp -implicitDefEqProofs (disch := omega) only [wanted_some, yielded_list, ylK_bool, List.getElem?_cons_succ, List.getElem?_cons_zero, Option.bind_some, act_get?, upd_get, Nat.reduceEqDiff, ↓reduceIte, beq_self_eq_true, *]) rfl; (focus (simp -implicitDefEqProofs (disch := first | omega | (simp only [qd] <;> omega)) only [xq, ↓xp, qc, Nat.reduceAdd, List.range, List.range.loop, fine, Nat.reduceEqDiff, ↓reduceIte, yielded, reduceCtorEq, Nat.reduceLT, Nat.reduceMul, Nat.reduceSub, one, Nat.reduceLeDiff, runX_cons, y71_32, ↓ex_invoke, aq, ↓ap, qe0, qe1, qe2, *, -hK, YN_value] <;> (first | exact rfl | exact ⟨rfl, rfl⟩ | exact ⟨rfl, trivial⟩))); simp -implicitDefEqProofs (disch := first | omega | (simp only [qd] <;> omega)) only [act_put, act_put_none])
                      (apply plan_take rfl (by simp -implicitDefEqProofs (disch := omega) only [wanted_some, yielded_list, ylK_bool, List.getElem?_cons_succ, List.getElem?_cons_zero, Option.bind_some, act_get?, upd_get, Nat.reduceEqDiff, ↓reduceIte, beq_self_eq_true, *]) rfl; (focus (simp -implicitDefEqProofs (disch := first | omega | (simp only [qd] <;> omega)) only [xq, ↓xp, qc, Nat.reduceAdd, List.range, List.range.loop, fine, Nat.reduceEqDiff, ↓reduceIte, yielded, reduceCtorEq, Nat.reduceLT, Nat.reduceMul, Nat.reduceSub, one, Nat.reduceLeDiff, runX_cons, y71_32, ↓ex_invoke, aq, ↓ap, qe0, qe1, qe2, *, -hK]; exact rank_yields main _ r c0 hb _ _ _ hO.came hO.asked hO'.later hrb hc1 hc2 hM.h hr0 hr3)); simp -implicitDefEqProofs (disch := first | omega | (simp only [qd] <;> omega)) only [act_put, act_put_none])
                      (apply plan_take rfl (by simp -implicitDefEqProofs (disch := omega) only [wanted_some, yielded_list, ylK_bool, List.getElem?_cons_succ, List.getElem?_cons_zero, Option.bind_some, act_get?, upd_get, Nat.reduceEqDiff, ↓reduceIte, beq_self_eq_true, *]) rfl; (focus (simp -implicitDefEqProofs (disch := first | omega | (simp only [qd] <;> omega)) only [xq, ↓xp, qc, Nat.reduceAdd, List.range, List.range.loop, fine, Nat.reduceEqDiff, ↓reduceIte, yielded, reduceCtorEq, Nat.reduceLT, Nat.reduceMul, Nat.reduceSub, one, Nat.reduceLeDiff, runX_cons, y71_32, ↓ex_invoke, aq, ↓ap, qe0, qe1, qe2, *, -hK, YN_value] <;> (first | exact rfl | exact ⟨rfl, rfl⟩ | exact ⟨rfl, trivial⟩))); simp -implicitDefEqProofs (disch := first | omega | (simp only [qd] <;> omega)) only [act_put, act_put_none])
                      (apply plan_take rfl rfl rfl; (focus (simp -implicitDefEqProofs (disch := first | omega | (simp only [qd] <;> omega)) only [xq, ↓xp, qc, Nat.reduceAdd, List.range, List.range.loop, fine, Nat.reduceEqDiff, ↓reduceIte, yielded, reduceCtorEq, Nat.reduceLT, Nat.reduceMul, Nat.reduceSub, one, Nat.reduceLeDiff, runX_cons, y71_32, ↓ex_invoke, aq, ↓ap, qe0, qe1, qe2, *, -hK, YN_value] <;> (first | exact rfl | exact ⟨rfl, rfl⟩ | exact ⟨rfl, trivial⟩))); simp -implicitDefEqProofs (disch := first | omega | (simp only [qd] <;> omega)) only [act_put, act_put_none])
                      refine plan_nil (hK _ _ ?_); clear hK K
                      repeat' (first
  | (refine wpX_stmtL rfl ?_; intro K hK; simp -implicitDefEqProofs (disch := first | omega | (simp only [qd] <;> omega)) only [xq, ↓xp, qc, Nat.reduceAdd, List.range, List.range.loop, fine, Nat.reduceEqDiff, ↓reduceIte, yielded, reduceCtorEq, Nat.reduceLT, Nat.reduceMul, Nat.reduceSub, one, Nat.reduceLeDiff, runX_cons, y71_32, ↓ex_invoke, aq, ↓ap, qe0, qe1, qe2, *, -hK]; try (refine hK _ _ ?_; clear hK K))
  | (refine wpX_lastL rfl ?_; intro K hK; simp -implicitDefEqProofs (disch := first | omega | (simp only [qd] <;> omega)) only [xq, ↓xp, qc, Nat.reduceAdd, List.range, List.range.loop, fine, Nat.reduceEqDiff, ↓reduceIte, yielded, reduceCtorEq, Nat.reduceLT, Nat.reduceMul, Nat.reduceSub, one, Nat.reduceLeDiff, runX_cons, y71_32, ↓ex_invoke, aq, ↓ap, qe0, qe1, qe2, *, -hK]; try (refine hK _ _ ?_; clear hK K; (try simp only [nq, ↓reduceIte, Nat.reduceEqDiff])))
  | (refine wpX_skip ?_; (try simp only [nq, ↓reduceIte, Nat.reduceEqDiff]))
  | (refine wpX_label ?_; (try simp only [nq, ↓reduceIte, Nat.reduceEqDiff]))
  | (refine wpX_exit ?_; (try simp only [nq, ↓reduceIte, Nat.reduceEqDiff]))
  | (refine wpX_goto ?_; (try simp only [nq, ↓reduceIte, Nat.reduceEqDiff]))
  | (refine wpX_condK (by simp only [act_eval, upd_get, Nat.reduceEqDiff, Nat.reduceLT, ↓reduceIte, *]; rfl) ?_ ?_ <;> (intro hc; first | (exfalso; simp -implicitDefEqProofs (disch := omega) only [*, bq, reduceCtorEq] at hc; done) | (simp only [dq, qe3, qe4, qe5, qe6] at hc) | skip))
  | (refine wpX_scope0 ?_)
  | (refine wpX_block ?_)
  | (refine wpX_seq ?_))
                      · have hc' : c' = q := by rw [hfold, if_pos (.inr hc)]
                        have hset : (ints (S.cl.set i c0)).set i (Value.int .i64 q) = ints (S.cl.set i c') := by rw [ints_setL, List.set_set, hc']
                        rw [hset]
                        exact ⟨_, by omega, _, k + 1, rfl, hltk, rfl, ⟨e0, e1, e2, e6, e7, e8, e11, e59, e60, e61⟩, e12, e13, e14, e89, e90, rfl, hlv.set (fun p c fr h => by rw [hM.c] at h; cases h), by rw [hce]; exact hM.setC h0c ncb' nsc ncd _⟩
                      · have hc' : c' = c0 := by rw [hfold, if_neg (by omega)]
                        exact ⟨_, by omega, _, k + 1, rfl, hltk, rfl, ⟨e0, e1, e2, e6, e7, e8, e11, e59, e60, e61⟩, e12, e13, e14, e89, e90, rfl, hlv, by rw [hce, hc']; exact hM⟩
                  · obtain rfl : k = L.length := by omega
                    rw [List.take_length, ← hcl1] at hM
                    clear hcl1
                    repeat' (first
  | (refine wpX_stmtL rfl ?_; intro K hK; simp -implicitDefEqProofs (disch := first | omega | (simp only [qd] <;> omega)) only [xq, ↓xp, qc, Nat.reduceAdd, List.range, List.range.loop, fine, Nat.reduceEqDiff, ↓reduceIte, yielded, reduceCtorEq, Nat.reduceLT, Nat.reduceMul, Nat.reduceSub, one, Nat.reduceLeDiff, runX_cons, y71_32, ↓ex_invoke, aq, ↓ap, qe0, qe1, qe2, *, -hK]; try (refine hK _ _ ?_; clear hK K))
  | (refine wpX_lastL rfl ?_; intro K hK; simp -implicitDefEqProofs (disch := first | omega | (simp only [qd] <;> omega)) only [xq, ↓xp, qc, Nat.reduceAdd, List.range, List.range.loop, fine, Nat.reduceEqDiff, ↓reduceIte, yielded, reduceCtorEq, Nat.reduceLT, Nat.reduceMul, Nat.reduceSub, one, Nat.reduceLeDiff, runX_cons, y71_32, ↓ex_invoke, aq, ↓ap, qe0, qe1, qe2, *, -hK]; try (refine hK _ _ ?_; clear hK K; (try simp only [nq, ↓reduceIte, Nat.reduceEqDiff])))
  | (refine wpX_skip ?_; (try simp only [nq, ↓reduceIte, Nat.reduceEqDiff]))
  | (refine wpX_label ?_; (try simp only [nq, ↓reduceIte, Nat.reduceEqDiff]))
  | (refine wpX_exit ?_; (try simp only [nq, ↓reduceIte, Nat.reduceEqDiff]))
  | (refine wpX_goto ?_; (try simp only [nq, ↓reduceIte, Nat.reduceEqDiff]))
  | (refine wpX_condK (by simp only [act_eval, upd_get, Nat.reduceEqDiff, Nat.reduceLT, ↓reduceIte, *]; rfl) ?_ ?_ <;> (intro hc; first | (exfalso; simp -implicitDefEqProofs (disch := omega) only [*, bq, reduceCtorEq] at hc; done) | (simp only [dq, qe3, qe4, qe5, qe6] at hc) | skip))
  | (refine wpX_scope0 ?_)
  | (refine wpX_block ?_)
  | (refine wpX_seq ?_))
                    exact ⟨_, rfl, ⟨e0, e1, e2, e6, e7, e8, e11, e59, e60, e61⟩, e12, e13, e14, hM⟩
            · rintro a' H9 ⟨e, rfl, ⟨e0, e1, e2, e6, e7, e8, e11, e59, e60, e61⟩, e12, e13, e14, hM⟩
              clear hM9 e0' e1' e2' e6' e7' e8' e11' e59' e60' e61' e12' e13' e14' e15'
              rename_i eold
              clear eold
              have hSf : S1.f = S.f + if S.m.testBit t.toNat then 0 else 1 := by rw [← hstep]; rfl
              have hSc : S1.came = if S.m.testBit t.toNat then S.came else S.came.set t.toNat i := by rw [← hstep]; rfl
              refine wpX_cut (fun a' H' => ∃ e, a' = act 142 e [] ∧ RunE e cb hb sb db r (some ⟨b, o, none⟩) ts.length tc S1.f i ∧ e 12 = .int .i64 i ∧ e 13 = .int .i64 t ∧
                RunM H H' cb hb sb db (dayO places pieces (.slice sa start.length sc) cv (.slice (some ⟨b, o, none⟩) ts.length tc) mb) (.slice (some ⟨b, o, none⟩) ts.length tc) ts i S1.cl S1.came S.asked S1.later S.m) ?_ ?_
              · have vhb9 := hM.h
                have hlen18 := hist_len hO.came hO.asked hO'.later
                have hf8 : S.f ≤ i := hO.f
                cases hbit : S.m.testBit t.toNat
                · rw [hbit] at hSf hSc e14
                  simp only [Bool.false_eq_true, if_false] at hSf hSc
                  repeat' (first
  | (refine wpX_stmtL rfl ?_; intro K hK; simp -implicitDefEqProofs (disch := first | omega | (simp only [qd] <;> omega)) only [xq, ↓xp, qc, Nat.reduceAdd, List.range, List.range.loop, fine, Nat.reduceEqDiff, ↓reduceIte, yielded, reduceCtorEq, Nat.reduceLT, Nat.reduceMul, Nat.reduceSub, one, Nat.reduceLeDiff, runX_cons, y71_32, ↓ex_invoke, aq, ↓ap, qe0, qe1, qe2, *, -hK]; try (refine hK _ _ ?_; clear hK K))
  | (refine wpX_lastL rfl ?_; intro K hK; simp -implicitDefEqProofs (disch := first | omega | (simp only [qd] <;> omega)) only [xq, ↓xp, qc, Nat.reduceAdd, List.range, List.range.loop, fine, Nat.reduceEqDiff, ↓reduceIte, yielded, reduceCtorEq, Nat.reduceLT, Nat.reduceMul, Nat.reduceSub, one, Nat.reduceLeDiff, runX_cons, y71_32, ↓ex_invoke, aq, ↓ap, qe0, qe1, qe2, *, -hK]; try (refine hK _ _ ?_; clear hK K; (try simp only [nq, ↓reduceIte, Nat.reduceEqDiff])))
  | (refine wpX_skip ?_; (try simp only [nq, ↓reduceIte, Nat.reduceEqDiff]))
  | (refine wpX_label ?_; (try simp only [nq, ↓reduceIte, Nat.reduceEqDiff]))
  | (refine wpX_exit ?_; (try simp only [nq, ↓reduceIte, Nat.reduceEqDiff]))
  | (refine wpX_goto ?_; (try simp only [nq, ↓reduceIte, Nat.reduceEqDiff]))
  | (refine wpX_condK (by simp only [act_eval, upd_get, Nat.reduceEqDiff, Nat.reduceLT, ↓reduceIte, *]; rfl) ?_ ?_ <;> (intro hc; first | (exfalso; simp -implicitDefEqProofs (disch := omega) only [*, bq, reduceCtorEq] at hc; done) | (simp only [dq, qe3, qe4, qe5, qe6] at hc) | skip))
  | (refine wpX_scope0 ?_)
  | (refine wpX_block ?_)
  | (refine wpX_seq ?_))
                  rw [hist_set1 hO.came _ (by omega), ← hSc]
                  refine ⟨_, rfl, ⟨e0, e1, e2, e6, ?_, e8, e11, e59, e60, e61⟩, e12, e13, hM.setH h0h ncb nsh nhd _ _ _⟩
                  rw [hSf]; rfl
                · rw [hbit] at hSf hSc e14
                  simp only [if_true, Nat.add_zero] at hSf hSc
                  repeat' (first
  | (refine wpX_stmtL rfl ?_; intro K hK; simp -implicitDefEqProofs (disch := first | omega | (simp only [qd] <;> omega)) only [xq, ↓xp, qc, Nat.reduceAdd, List.range, List.range.loop, fine, Nat.reduceEqDiff, ↓reduceIte, yielded, reduceCtorEq, Nat.reduceLT, Nat.reduceMul, Nat.reduceSub, one, Nat.reduceLeDiff, runX_cons, y71_32, ↓ex_invoke, aq, ↓ap, qe0, qe1, qe2, *, -hK]; try (refine hK _ _ ?_; clear hK K))
  | (refine wpX_lastL rfl ?_; intro K hK; simp -implicitDefEqProofs (disch := first | omega | (simp only [qd] <;> omega)) only [xq, ↓xp, qc, Nat.reduceAdd, List.range, List.range.loop, fine, Nat.reduceEqDiff, ↓reduceIte, yielded, reduceCtorEq, Nat.reduceLT, Nat.reduceMul, Nat.reduceSub, one, Nat.reduceLeDiff, runX_cons, y71_32, ↓ex_invoke, aq, ↓ap, qe0, qe1, qe2, *, -hK]; try (refine hK _ _ ?_; clear hK K; (try simp only [nq, ↓reduceIte, Nat.reduceEqDiff])))
  | (refine wpX_skip ?_; (try simp only [nq, ↓reduceIte, Nat.reduceEqDiff]))
  | (refine wpX_label ?_; (try simp only [nq, ↓reduceIte, Nat.reduceEqDiff]))
  | (refine wpX_exit ?_; (try simp only [nq, ↓reduceIte, Nat.reduceEqDiff]))
  | (refine wpX_goto ?_; (try simp only [nq, ↓reduceIte, Nat.reduceEqDiff]))
  | (refine wpX_condK (by simp only [act_eval, upd_get, Nat.reduceEqDiff, Nat.reduceLT, ↓reduceIte, *]; rfl) ?_ ?_ <;> (intro hc; first | (exfalso; simp -implicitDefEqProofs (disch := omega) only [*, bq, reduceCtorEq] at hc; done) | (simp only [dq, qe3, qe4, qe5, qe6] at hc) | skip))
  | (refine wpX_scope0 ?_)
  | (refine wpX_block ?_)
  | (refine wpX_seq ?_))
                  exact ⟨_, rfl, ⟨e0, e1, e2, e6, by rw [hSf]; exact e7, e8, e11, e59, e60, e61⟩, e12, e13, by rw [hSc]; exact hM⟩
              · clear hM e0 e1 e2 e6 e7 e8 e11 e59 e60 e61 e12 e13 e14 hSf hSc
                rename_i eold
                clear eold
                rintro a' H9 ⟨e, rfl, ⟨e0, e1, e2, e6, e7, e8, e11, e59, e60, e61⟩, e12, e13, hM⟩
                have hSa : S1.asked = S.asked.set t.toNat i := by rw [← hstep]; rfl
                have hSm : S1.m = oNext S.m (rsent places r ts i t S) t := by rw [← hstep]; rfl
                have hScl : S1.cl = S.cl.set i (rsent places r ts i t S) := by rw [← hstep]; rfl
                have hcli : S1.cl[i]? = some (rsent places r ts i t S) := by rw [hScl, List.getElem?_set_self (by have := hO.cl; omega)]
                have hcl8i : (ints S1.cl).length = 8 := by rw [ints_len]; exact hO'.cl
                have hci := ints_get hcli
                have hs6' : rsent places r ts i t S < 6 := by
                  unfold rsent
                  split
                  · exact pickF_lt _ _
                  · omega
                have hf' := hO'.f
                have vhb9 := hM.h
                have hlen18 := hist_len hO'.came hO.asked hO'.later
                generalize rsent places r ts i t S = sent at hSm hci hs6'
                clear hcli hScl
                repeat' (first
  | (refine wpX_stmtL rfl ?_; intro K hK; simp -implicitDefEqProofs (disch := first | omega | (simp only [qd] <;> omega)) only [xq, ↓xp, qc, Nat.reduceAdd, List.range, List.range.loop, fine, Nat.reduceEqDiff, ↓reduceIte, yielded, reduceCtorEq, Nat.reduceLT, Nat.reduceMul, Nat.reduceSub, one, Nat.reduceLeDiff, runX_cons, y71_32, ↓ex_invoke, aq, ↓ap, qe0, qe1, qe2, *, -hK]; try (refine hK _ _ ?_; clear hK K))
  | (refine wpX_lastL rfl ?_; intro K hK; simp -implicitDefEqProofs (disch := first | omega | (simp only [qd] <;> omega)) only [xq, ↓xp, qc, Nat.reduceAdd, List.range, List.range.loop, fine, Nat.reduceEqDiff, ↓reduceIte, yielded, reduceCtorEq, Nat.reduceLT, Nat.reduceMul, Nat.reduceSub, one, Nat.reduceLeDiff, runX_cons, y71_32, ↓ex_invoke, aq, ↓ap, qe0, qe1, qe2, *, -hK]; try (refine hK _ _ ?_; clear hK K; (try simp only [nq, ↓reduceIte, Nat.reduceEqDiff])))
  | (refine wpX_skip ?_; (try simp only [nq, ↓reduceIte, Nat.reduceEqDiff]))
  | (refine wpX_label ?_; (try simp only [nq, ↓reduceIte, Nat.reduceEqDiff]))
  | (refine wpX_exit ?_; (try simp only [nq, ↓reduceIte, Nat.reduceEqDiff]))
  | (refine wpX_goto ?_; (try simp only [nq, ↓reduceIte, Nat.reduceEqDiff]))
  | (refine wpX_condK (by simp only [act_eval, upd_get, Nat.reduceEqDiff, Nat.reduceLT, ↓reduceIte, *]; rfl) ?_ ?_ <;> (intro hc; first | (exfalso; simp -implicitDefEqProofs (disch := omega) only [*, bq, reduceCtorEq] at hc; done) | (simp only [dq, qe3, qe4, qe5, qe6] at hc) | skip))
  | (refine wpX_scope0 ?_)
  | (refine wpX_block ?_)
  | (refine wpX_seq ?_))
                rw [hist_set2 hO'.came hO.asked _ (by omega), ← hSa]
                have hM10 := hM.setH h0h ncb nsh nhd S1.came S1.asked S1.later
                generalize H9.set hb (histO S1.came S1.asked S1.later) = H10 at *
                clear hM vhb9 hlen18
                have vcb10 := hM10.c
                have vsb10 := hM10.s
                refine wpX_dst1 6 [(true, 0), (true, 1), (true, 2), (true, 3), (true, 4), (true, 5), (false, 6)] (by kernel_rfl) (by kernel_rfl) (by simp) (by kernel_rfl) ?_; intro K hK
                (iterate 5 (apply plan_take rfl rfl rfl; (focus (simp -implicitDefEqProofs (disch := first | omega | (simp only [qd] <;> omega)) only [xq, ↓xp, qc, Nat.reduceAdd, List.range, List.range.loop, fine, Nat.reduceEqDiff, ↓reduceIte, yielded, reduceCtorEq, Nat.reduceLT, Nat.reduceMul, Nat.reduceSub, one, Nat.reduceLeDiff, runX_cons, y71_32, ↓ex_invoke, aq, ↓ap, qe0, qe1, qe2, *, -hK, YN_value] <;> (first | exact rfl | exact ⟨rfl, rfl⟩ | exact ⟨rfl, trivial⟩))); simp -implicitDefEqProofs (disch := first | omega | (simp only [qd] <;> omega)) only [act_put, act_put_none]))
                (apply plan_take rfl rfl rfl; (focus (simp -implicitDefEqProofs (disch := first | omega | (simp only [qd] <;> omega)) only [xq, ↓xp, qc, Nat.reduceAdd, List.range, List.range.loop, fine, Nat.reduceEqDiff, ↓reduceIte, yielded, reduceCtorEq, Nat.reduceLT, Nat.reduceMul, Nat.reduceSub, one, Nat.reduceLeDiff, runX_cons, y71_32, ↓ex_invoke, aq, ↓ap, qe0, qe1, qe2, *, -hK]; exact quiet_le (vnext_spec main H10 db places pieces _ cv _ ts mb hM10.d hM10.t (by omega) i S.m sent t hti htb.1 htb.2 hO.m hs6'))); simp -implicitDefEqProofs (disch := first | omega | (simp only [qd] <;> omega)) only [act_put, act_put_none])
                refine plan_tail ?_
                (try simp -implicitDefEqProofs (disch := first | omega | (simp only [qd] <;> omega)) only [xq, ↓xp, qc, Nat.reduceAdd, List.range, List.range.loop, fine, Nat.reduceEqDiff, ↓reduceIte, yielded, reduceCtorEq, Nat.reduceLT, Nat.reduceMul, Nat.reduceSub, one, Nat.reduceLeDiff, runX_cons, y71_32, ↓ex_invoke, aq, ↓ap, qe0, qe1, qe2, *, -hK]); try (refine hK _ _ ?_; clear hK K; (try simp only [nq, ↓reduceIte, Nat.reduceEqDiff])); repeat' (first
  | (refine wpX_stmtL rfl ?_; intro K hK; simp -implicitDefEqProofs (disch := first | omega | (simp only [qd] <;> omega)) only [xq, ↓xp, qc, Nat.reduceAdd, List.range, List.range.loop, fine, Nat.reduceEqDiff, ↓reduceIte, yielded, reduceCtorEq, Nat.reduceLT, Nat.reduceMul, Nat.reduceSub, one, Nat.reduceLeDiff, runX_cons, y71_32, ↓ex_invoke, aq, ↓ap, qe0, qe1, qe2, *, -hK]; try (refine hK _ _ ?_; clear hK K))
  | (refine wpX_lastL rfl ?_; intro K hK; simp -implicitDefEqProofs (disch := first | omega | (simp only [qd] <;> omega)) only [xq, ↓xp, qc, Nat.reduceAdd, List.range, List.range.loop, fine, Nat.reduceEqDiff, ↓reduceIte, yielded, reduceCtorEq, Nat.reduceLT, Nat.reduceMul, Nat.reduceSub, one, Nat.reduceLeDiff, runX_cons, y71_32, ↓ex_invoke, aq, ↓ap, qe0, qe1, qe2, *, -hK]; try (refine hK _ _ ?_; clear hK K; (try simp only [nq, ↓reduceIte, Nat.reduceEqDiff])))
  | (refine wpX_skip ?_; (try simp only [nq, ↓reduceIte, Nat.reduceEqDiff]))
  | (refine wpX_label ?_; (try simp only [nq, ↓reduceIte, Nat.reduceEqDiff]))
  | (refine wpX_exit ?_; (try simp only [nq, ↓reduceIte, Nat.reduceEqDiff]))
  | (refine wpX_goto ?_; (try simp only [nq, ↓reduceIte, Nat.reduceEqDiff]))
  | (refine wpX_condK (by simp only [act_eval, upd_get, Nat.reduceEqDiff, Nat.reduceLT, ↓reduceIte, *]; rfl) ?_ ?_ <;> (intro hc; first | (exfalso; simp -implicitDefEqProofs (disch := omega) only [*, bq, reduceCtorEq] at hc; done) | (simp only [dq, qe3, qe4, qe5, qe6] at hc) | skip))
  | (refine wpX_scope0 ?_)
  | (refine wpX_block ?_)
  | (refine wpX_seq ?_))
                have hM11 := hM10.setS h0s nsc' nsh' nsd' (i + 1) (oNext S.m sent t)
                rw [← hSm] at hM11
                refine ⟨_, ?_, _, i + 1, rfl, hlt, rfl, by rw [hS1]; exact hO', ⟨e0, e1, e2, e6, by rw [hS1]; exact e7, e8, e11, e59, e60, rfl⟩, ?_⟩
                · omega
                · rw [hS1, ← hSm]; exact hM11
        · obtain rfl : i = ts.length := by omega
          have vcb6 := hM.c
          have hcl8 : (ints (rrun places r ts (rs0 start) ts.length).cl).length = 8 := by rw [ints_len]; exact hO.cl
          generalize (rrun places r ts (rs0 start) ts.length).f = F at *
          generalize (rrun places r ts (rs0 start) ts.length).cl = C at *
          have htk : (ints C).take 8 = ints C := List.take_of_length_le (by omega)
          have hne0 : ints C ≠ [] := fun h => by rw [h] at hcl8; cases hcl8
          have hone : (ints C).all one = true := List.all_eq_true.2 (ints_one C)
          have hov : over (ints C).toArray 0 (ints C) = (ints C).toArray := by
            rw [over_list _ _ _ (by omega)]
            simp
          repeat' (first
  | (refine wpX_stmtL rfl ?_; intro K hK; simp -implicitDefEqProofs (disch := first | omega | (simp only [qd] <;> omega)) only [xq, ↓xp, qc, Nat.reduceAdd, List.range, List.range.loop, fine, Nat.reduceEqDiff, ↓reduceIte, yielded, reduceCtorEq, Nat.reduceLT, Nat.reduceMul, Nat.reduceSub, one, Nat.reduceLeDiff, runX_cons, y71_32, ↓ex_invoke, aq, ↓ap, qe0, qe1, qe2, *, -hK, storL_at hne0 vcb6]; try (refine hK _ _ ?_; clear hK K))
  | (refine wpX_lastL rfl ?_; intro K hK; simp -implicitDefEqProofs (disch := first | omega | (simp only [qd] <;> omega)) only [xq, ↓xp, qc, Nat.reduceAdd, List.range, List.range.loop, fine, Nat.reduceEqDiff, ↓reduceIte, yielded, reduceCtorEq, Nat.reduceLT, Nat.reduceMul, Nat.reduceSub, one, Nat.reduceLeDiff, runX_cons, y71_32, ↓ex_invoke, aq, ↓ap, qe0, qe1, qe2, *, -hK, storL_at hne0 vcb6]; try (refine hK _ _ ?_; clear hK K; (try simp only [nq, ↓reduceIte, Nat.reduceEqDiff])))
  | (refine wpX_skip ?_; (try simp only [nq, ↓reduceIte, Nat.reduceEqDiff]))
  | (refine wpX_label ?_; (try simp only [nq, ↓reduceIte, Nat.reduceEqDiff]))
  | (refine wpX_exit ?_; (try simp only [nq, ↓reduceIte, Nat.reduceEqDiff]))
  | (refine wpX_goto ?_; (try simp only [nq, ↓reduceIte, Nat.reduceEqDiff]))
  | (refine wpX_condK (by simp only [act_eval, upd_get, Nat.reduceEqDiff, Nat.reduceLT, ↓reduceIte, *]; rfl) ?_ ?_ <;> (intro hc; first | (exfalso; simp -implicitDefEqProofs (disch := omega) only [*, bq, reduceCtorEq] at hc; done) | (simp only [dq, qe3, qe4, qe5, qe6] at hc) | skip))
  | (refine wpX_scope0 ?_)
  | (refine wpX_block ?_)
  | (refine wpX_seq ?_))
          (refine wpX_ret ?_; (try simp only [nq, ↓reduceIte, Nat.reduceEqDiff]); rw [bodyX_ret, results_cell_tmp Tryd.results71 (by decide) (by decide) (b := cb) (o := 0) ?hcell Tryd.underlying58 rfl Tryd.sizeOf58]; (case hcell => exact e6); simp -implicitDefEqProofs (disch := first | omega | (simp only [qd] <;> omega)) only [xq, ↓xp, qc, Nat.reduceAdd, List.range, List.range.loop, fine, Nat.reduceEqDiff, ↓reduceIte, yielded, reduceCtorEq, Nat.reduceLT, Nat.reduceMul, Nat.reduceSub, one, Nat.reduceLeDiff, runX_cons, y71_32, ↓ex_invoke, loadA_set, htk, hcl8, Nat.le_refl])
          exact (hM.l.own h0c).toLe
end Go.Proofs.YtiempdpjcddgfaaDoor
end
