/- Texts Calls Haul Office Maps. -/
import Derived.Test.YtiempdpjcddgfaaDoorJ02
section
/- The makers of calls, truths, vaults. -/
set_option linter.unusedSimpArgs false
set_option maxRecDepth 100000
set_option maxHeartbeats 1000000
set_option linter.unusedVariables false
namespace Go.Proofs.YtiempdpjcddgfaaDoor
open Go Go.X
set_option linter.defProp false
def y10_16 := And.intro (fun H => ex_alloc (H := H) (P := Tryd.prog) (h := Tryd.zeroValue25)) (And.intro @lit_22_6_0_1_2_3_4_5_0 (And.intro @callF12 (And.intro @callF13 (And.intro @bld_25_0_1_0 (And.intro (fun H => storeAt_agg (H := H) Tryd.sizeOf25) (And.intro (fun H => fieldAt_eq (H := H) Tryd.underlying25 (i := 1) rfl (off := 1) rfl Tryd.sizeOf3) (And.intro (fun H => loadAt_one (H := H) Tryd.underlying3 rfl) (And.intro @callF24 (And.intro (fun H => fieldAt_eq (H := H) Tryd.underlying25 (i := 0) rfl (off := 0) rfl Tryd.sizeOf3) (And.intro @callF11 (And.intro @lit_22_4_0_1_2_3_0 (And.intro @min_int (And.intro (fun H => slice_hi (H := H) Tryd.underlying22 Tryd.sizeOf3) (And.intro (fun H => slice_lo (H := H) Tryd.underlying22 Tryd.sizeOf3) (And.intro (fun H => slice_lohi (H := H) Tryd.underlying22 Tryd.sizeOf3) (And.intro @callF25 (And.intro (fun H => fieldAt_eq (H := H) Tryd.underlying25 (i := 2) rfl (off := 2) rfl Tryd.sizeOf22) (And.intro (fun H => storeAt_slice (H := H) Tryd.sizeOf22) (And.intro @callF26 (And.intro (fun H => fieldAt_eq (H := H) Tryd.underlying25 (i := 3) rfl (off := 3) rfl Tryd.sizeOf23) (And.intro (fun H => storeAt_slice (H := H) Tryd.sizeOf23) (And.intro (fun H => loadAt_aggE (H := H) Tryd.underlying25 rfl Tryd.sizeOf25) @callF27))))))))))))))))))))))
def y26_16 := And.intro @callF11 (And.intro @callF24 (And.intro @callF48 (And.intro @min_int (And.intro @callF13 (And.intro @callF49 (And.intro @lit_22_1_0_0 @lit_23_1_0_0))))))
def y27_16 := And.intro (fun H => fieldAt_eq (H := H) Tryd.underlying25 (i := 3) rfl (off := 3) rfl Tryd.sizeOf23) (And.intro (fun H => loadAt_one (H := H) Tryd.underlying23 rfl) (And.intro (fun H => len_slice (H := H) Tryd.underlying23) (And.intro (fun H => indexAt_slice (H := H) Tryd.underlying23 Tryd.sizeOf22) (And.intro (fun H => loadAt_one (H := H) Tryd.underlying22 rfl) (And.intro @callF12 @lit_22_1_0_0)))))

/-- The pieces of a call. -/
def CallOk (pieces : Nat) (xs : List Int) : Prop := xs ≠ [] ∧ xs.Pairwise (· < ·) ∧ ∀ x ∈ xs, 0 ≤ x ∧ x < pieces

theorem asc_len (hi : Int) : ∀ (xs : List Int) (lo : Int), xs.Pairwise (· < ·) → (∀ x ∈ xs, lo ≤ x ∧ x < hi) → xs.length ≤ (hi - lo).toNat
  | [], _, _, _ => Nat.zero_le _
  | x :: xs, lo, hp, hb => by
    have h1 := hb x List.mem_cons_self
    have h2 := asc_len hi xs (x + 1) (List.pairwise_cons.1 hp).2 fun y hy => ⟨by have := (List.pairwise_cons.1 hp).1 y hy; omega, (hb y (List.mem_cons_of_mem _ hy)).2⟩
    simp only [List.length_cons]
    omega
theorem CallOk.len {pieces : Nat} {xs : List Int} (h : CallOk pieces xs) : xs.length ≤ pieces := by
  have := asc_len pieces xs 0 h.2.1 h.2.2
  omega

/-- The law of append for one number, and for one row. -/
theorem append_i {t : Option Nat} {H₀ H : Hp} {v : Value} {xs : List Int} (h : RowX t H₀ H v 3 (ints xs)) {g : Nat} {x : Int} (hg : H g = none) (hn : xs.length ≤ 1000000) (ty : TypeId) (cb : Array Bool) (K : Next → Hp → Prop) (E : Value → Hp → Prop)
    (h' : ∀ v' H', RowX t H₀ H' v' 3 (ints (xs ++ [x])) → Other 3 H H' → K (.value v') H') :
    wpS Tryd.prog (builtin .append #[22, 22] ty cb #[v, .slice (some ⟨g, 0, none⟩) 1 1]) (H.set g (.cells #[.int .i64 x] 3 (0, 0))) K E :=
  append_row Tryd.underlying22 Tryd.sizeOf3 Tryd.zeroValue3 rfl Tryd.typeInfo3 (by decide) (by decide) h hg rfl (by rw [ints_len]; exact hn) ty cb K E fun v' H' hr ho => h' v' H' (by rw [ints_app]; exact hr) ho
theorem append_r {t : Option Nat} {H₀ H : Hp} {v : Value} {vs : List Value} (h : RowX t H₀ H v 22 vs) {g : Nat} {w : Value} (hw : one w = true) (hg : H g = none) (hn : vs.length ≤ 1000000) (ty : TypeId) (cb : Array Bool) (K : Next → Hp → Prop) (E : Value → Hp → Prop)
    (h' : ∀ v' H', RowX t H₀ H' v' 22 (vs ++ [w]) → Other 22 H H' → K (.value v') H') :
    wpS Tryd.prog (builtin .append #[23, 23] ty cb #[v, .slice (some ⟨g, 0, none⟩) 1 1]) (H.set g (.cells #[w] 22 (0, 0))) K E :=
  append_row Tryd.underlying23 Tryd.sizeOf22 Tryd.zeroValue22 rfl Tryd.typeInfo22 (by decide) (by decide) h hg hw hn ty cb K E h'

theorem TinI.le {H H' : Hp} {b k : Nat} (h : TinI H b k) (hl : H.le H') : TinI H' b k := by
  obtain ⟨sa, sl, sc, g, st, h1, h2, h3, h4⟩ := h
  refine ⟨sa, sl, sc, g, st, hl _ _ h1, h2, h3, fun i hi => ?_⟩
  obtain ⟨sb, so, c, e, fr, x, ha, hs, hx⟩ := h4 i hi
  exact ⟨sb, so, c, e, fr, x, ha, hl _ _ hs, hx⟩
theorem TinI.notI {H : Hp} {b k : Nat} (h : TinI H b k) {e : TypeId} (he : e ≠ 50) : ∀ b', some b = some b' → ∀ p c fr, H b' ≠ some (p, .cells c e fr) := fun b' hb' p c fr hx => by
  cases hb'
  obtain ⟨_, _, _, _, _, hb2, _⟩ := h
  rw [hb2] at hx
  simp only [Option.some.injEq, Prod.mk.injEq, Obj.cells.injEq] at hx
  exact he hx.2.2.1.symm

theorem callsOf_spec (m : Bool) (H : Hp) (b k : Nat) (calls pieces each : Nat) (hc : calls ≤ 100) (hp0 : 1 ≤ pieces) (hp : pieces ≤ 100) (he0 : 1 ≤ each) (he : each ≤ 100) (hT : TinI H b (k + calls * (pieces + 2) + 1)) :
    FnX Tryd.prog m 26 #[.pointer (some ⟨b, 0, none⟩), .int .i64 calls, .int .i64 pieces, .int .i64 each] H fun e H' => ∃ v xss, e = .returned v ∧ SlR H' v xss ∧ xss.length ≤ calls ∧ (∀ xs ∈ xss, CallOk pieces xs) ∧ Lex (some b) H H' ∧ TinI H' b k := by
  refine FnX_start Tryd.func26 rfl Tryd.ntmps26 (by simp) ?_
  (refine wpX_stmt ?_; intro K hK; simp -implicitDefEqProofs (disch := first | omega | (simp only [qd] <;> omega)) only [xq, ↓xp, qc, Nat.reduceAdd, List.range, List.range.loop, fine, Nat.reduceEqDiff, ↓reduceIte, yielded, reduceCtorEq, Nat.reduceLT, Nat.reduceMul, Nat.reduceSub, one, Nat.reduceLeDiff, runX_cons, y26_16]; refine hK _ _ ?_; clear hK K)
  (refine wpX_stmt ?_; intro K hK; simp -implicitDefEqProofs (disch := first | omega | (simp only [qd] <;> omega)) only [xq, ↓xp, qc, Nat.reduceAdd, List.range, List.range.loop, fine, Nat.reduceEqDiff, ↓reduceIte, yielded, reduceCtorEq, Nat.reduceLT, Nat.reduceMul, Nat.reduceSub, one, Nat.reduceLeDiff, runX_cons, y26_16]; refine hK _ _ ?_; clear hK K)
  refine wpX_seq ?_
  (refine wpX_stmt ?_; intro K hK; simp -implicitDefEqProofs (disch := first | omega | (simp only [qd] <;> omega)) only [xq, ↓xp, qc, Nat.reduceAdd, List.range, List.range.loop, fine, Nat.reduceEqDiff, ↓reduceIte, yielded, reduceCtorEq, Nat.reduceLT, Nat.reduceMul, Nat.reduceSub, one, Nat.reduceLeDiff, runX_cons, y26_16])
  refine (uptoL m H b _ calls (by omega) hT).runs.mono ?_; rintro _ _ ⟨r, hr0, hr1, rfl, hl1, hT1⟩; simp -implicitDefEqProofs (disch := first | omega | (simp only [qd] <;> omega)) only [xq, ↓xp, qc, Nat.reduceAdd, List.range, List.range.loop, fine, Nat.reduceEqDiff, ↓reduceIte, yielded, reduceCtorEq, Nat.reduceLT, Nat.reduceMul, Nat.reduceSub, one, Nat.reduceLeDiff, runX_cons, y26_16]
  refine hK _ _ ?_; clear hK K
  obtain ⟨i, rfl⟩ := Int.eq_ofNat_of_zero_le hr0
  rename_i H1
  refine wpX_block (wpX_loop (fun w a' H' => ∃ e ov vs xss, w ≤ calls ∧ a' = act 51 e [] ∧ e 0 = .pointer (some ⟨b, 0, none⟩) ∧ e 2 = .int .i64 pieces ∧ e 3 = .int .i64 each ∧ e 9 = ov ∧ e 10 = .int .i64 w ∧
    RowX (some b) H H' ov 22 vs ∧ Rows H' vs xss ∧ xss.length + w ≤ calls ∧ (∀ xs ∈ xss, CallOk pieces xs) ∧ TinI H' b (k + w * (pieces + 2))) (n := i) ?_ ?_)
  · have hi : i ≤ calls := by omega
    exact ⟨_, _, [], [], hi, rfl, rfl, rfl, rfl, rfl, rfl, ⟨hl1, .inl ⟨rfl, rfl⟩⟩, Rows.nil, by simp; omega, by simp, hT1.less (Nat.add_le_add_left (Nat.mul_le_mul_right _ hi) _)⟩
  · rintro w a' H' ⟨e, ov, vs, xss, hw, rfl, e0, e2, e3, e9, e10, hov, hvs, hlen, hok, hT'⟩
    refine wpX_seq ?_
    (refine wpX_stmt ?_; intro K hK; simp -implicitDefEqProofs (disch := first | omega | (simp only [qd] <;> omega)) only [xq, ↓xp, qc, Nat.reduceAdd, List.range, List.range.loop, fine, Nat.reduceEqDiff, ↓reduceIte, yielded, reduceCtorEq, Nat.reduceLT, Nat.reduceMul, Nat.reduceSub, one, Nat.reduceLeDiff, runX_cons, y26_16, e10]; refine hK _ _ ?_; clear hK K)
    refine wpX_cond (by simp -implicitDefEqProofs (disch := first | omega | (simp only [qd] <;> omega)) only [act_eval, upd_get, Nat.reduceEqDiff, ↓reduceIte]; rfl) ?_
    by_cases hlt : 0 < w
    · simp only [Int.natCast_pos, hlt, decide_true, if_true]
      refine wpX_skip (wpX_seq (wpX_block ?_))
      obtain ⟨w, rfl⟩ : ∃ w', w = w' + 1 := ⟨w - 1, by omega⟩
      (refine wpX_stmt ?_; intro K hK; simp -implicitDefEqProofs (disch := first | omega | (simp only [qd] <;> omega)) only [xq, ↓xp, qc, Nat.reduceAdd, List.range, List.range.loop, fine, Nat.reduceEqDiff, ↓reduceIte, yielded, reduceCtorEq, Nat.reduceLT, Nat.reduceMul, Nat.reduceSub, one, Nat.reduceLeDiff, runX_cons, y26_16, e0, e2])
      refine (mixed_spec m H' b (k + w * (pieces + 2) + 2) pieces (by omega) (hT'.less (by rw [Nat.add_mul]; omega))).runs.mono ?_
      rintro _ H2 ⟨order, os, rfl, hos, hol, hond, hob, hl2, hT2⟩
      simp -implicitDefEqProofs (disch := first | omega | (simp only [qd] <;> omega)) only [xq, ↓xp, qc, Nat.reduceAdd, List.range, List.range.loop, fine, Nat.reduceEqDiff, ↓reduceIte, yielded, reduceCtorEq, Nat.reduceLT, Nat.reduceMul, Nat.reduceSub, one, Nat.reduceLeDiff, runX_cons, y26_16]
      refine hK _ _ ?_; clear hK K
      (refine wpX_stmt ?_; intro K hK; simp -implicitDefEqProofs (disch := first | omega | (simp only [qd] <;> omega)) only [xq, ↓xp, qc, Nat.reduceAdd, List.range, List.range.loop, fine, Nat.reduceEqDiff, ↓reduceIte, yielded, reduceCtorEq, Nat.reduceLT, Nat.reduceMul, Nat.reduceSub, one, Nat.reduceLeDiff, runX_cons, y26_16]; refine hK _ _ ?_; clear hK K)
      refine wpX_cut (fun a' H3 => ∃ e' mn, a' = act 51 e' [] ∧ e' 0 = .pointer (some ⟨b, 0, none⟩) ∧ e' 2 = .int .i64 pieces ∧ e' 3 = .int .i64 each ∧ e' 9 = ov ∧ e' 10 = .int .i64 ((w + 1 : Nat) : Int) ∧ e' 11 = order ∧
        e' 12 = .int .i64 mn ∧ 1 ≤ mn ∧ Lex (some b) H2 H3 ∧ TinI H3 b (k + w * (pieces + 2))) ?_ ?_
      · (refine wpX_stmt ?_; intro K hK; simp -implicitDefEqProofs (disch := first | omega | (simp only [qd] <;> omega)) only [xq, ↓xp, qc, Nat.reduceAdd, List.range, List.range.loop, fine, Nat.reduceEqDiff, ↓reduceIte, yielded, reduceCtorEq, Nat.reduceLT, Nat.reduceMul, Nat.reduceSub, one, Nat.reduceLeDiff, runX_cons, y26_16, e0])
        refine (rarelyL m H2 b (k + w * (pieces + 2) + 1) 3 (by omega) (by omega) hT2).runs.mono ?_; rintro _ _ ⟨r, rfl, hl3, hT3⟩; simp -implicitDefEqProofs (disch := first | omega | (simp only [qd] <;> omega)) only [xq, ↓xp, qc, Nat.reduceAdd, List.range, List.range.loop, fine, Nat.reduceEqDiff, ↓reduceIte, yielded, reduceCtorEq, Nat.reduceLT, Nat.reduceMul, Nat.reduceSub, one, Nat.reduceLeDiff, runX_cons, y26_16]
        refine hK _ _ ?_; clear hK K
        refine wpX_cond (by simp -implicitDefEqProofs (disch := first | omega | (simp only [qd] <;> omega)) only [act_eval, upd_get, Nat.reduceEqDiff, ↓reduceIte]; rfl) ?_
        cases r
        · simp only [Bool.false_eq_true, if_false]
          exact wpX_skip ⟨_, 1, rfl, e0, e2, e3, e9, e10, rfl, rfl, by omega, hl3, hT3.less (by omega)⟩
        · simp only [if_true]
          have hmin : ∃ mm : Int, (if (pieces : Int) < each then (pieces : Int) else each) = mm ∧ 1 ≤ mm ∧ mm ≤ 100 := ⟨_, rfl, by split <;> omega, by split <;> omega⟩
          obtain ⟨mm, hmm, hm1, hm2⟩ := hmin
          refine wpX_last ?_; intro K hK
          simp -implicitDefEqProofs (disch := first | omega | (simp only [qd] <;> omega)) only [xq, ↓xp, qc, Nat.reduceAdd, List.range, List.range.loop, fine, Nat.reduceEqDiff, ↓reduceIte, yielded, reduceCtorEq, Nat.reduceLT, Nat.reduceMul, Nat.reduceSub, one, Nat.reduceLeDiff, runX_cons, y26_16, e0, e2, e3, hmm]
          refine (withinL m _ b (k + w * (pieces + 2)) 1 mm (by omega) (by omega) (by omega) (by omega) hT3).runs.mono ?_; rintro _ _ ⟨r, hr0, hr1, rfl, hl4, hT4⟩; simp -implicitDefEqProofs (disch := first | omega | (simp only [qd] <;> omega)) only [xq, ↓xp, qc, Nat.reduceAdd, List.range, List.range.loop, fine, Nat.reduceEqDiff, ↓reduceIte, yielded, reduceCtorEq, Nat.reduceLT, Nat.reduceMul, Nat.reduceSub, one, Nat.reduceLeDiff, runX_cons, y26_16]
          refine hK _ _ ?_
          exact ⟨_, r, rfl, e0, e2, e3, e9, e10, rfl, rfl, hr0, hl3.trans hl4, hT4⟩
      · rintro a' H3 ⟨e', mn, rfl, f0, f2, f3, f9, f10, f11, f12, hmn, hl3, hT3⟩
        (refine wpX_stmt ?_; intro K hK; simp -implicitDefEqProofs (disch := first | omega | (simp only [qd] <;> omega)) only [xq, ↓xp, qc, Nat.reduceAdd, List.range, List.range.loop, fine, Nat.reduceEqDiff, ↓reduceIte, yielded, reduceCtorEq, Nat.reduceLT, Nat.reduceMul, Nat.reduceSub, one, Nat.reduceLeDiff, runX_cons, y26_16, f0]; refine hK _ _ ?_; clear hK K)
        have hos3 := hos.lex hl3 hT2
        refine wpX_seq ?_
        (refine wpX_stmt ?_; intro K hK; simp -implicitDefEqProofs (disch := first | omega | (simp only [qd] <;> omega)) only [xq, ↓xp, qc, Nat.reduceAdd, List.range, List.range.loop, fine, Nat.reduceEqDiff, ↓reduceIte, yielded, reduceCtorEq, Nat.reduceLT, Nat.reduceMul, Nat.reduceSub, one, Nat.reduceLeDiff, runX_cons, y26_16]; refine hK _ _ ?_; clear hK K)
        refine wpX_block (wpX_loop (fun q a' H4 => ∃ g p lv ps, q = pieces - p ∧ p ≤ pieces ∧ a' = act 51 g [] ∧ g 0 = .pointer (some ⟨b, 0, none⟩) ∧ g 2 = .int .i64 pieces ∧ g 3 = .int .i64 each ∧ g 9 = ov ∧ g 10 = .int .i64 ((w + 1 : Nat) : Int) ∧ g 11 = order ∧
          g 12 = .int .i64 mn ∧ g 13 = lv ∧ g 14 = .int .i64 (p : Nat) ∧ RowX none H3 H4 lv 3 (ints ps) ∧ ps.length ≤ p ∧ ps.Pairwise (· < ·) ∧ (∀ x ∈ ps, 0 ≤ x ∧ x < p) ∧ (∀ x : Int, os[0]? = some x → x < p → x ∈ ps)) (n := pieces) ?_ ?_)
        · exact ⟨_, 0, _, [], by omega, by omega, rfl, f0, f2, f3, f9, f10, f11, f12, rfl, rfl, RowX.nil, by simp, by simp, by simp, fun x hx hx0 => absurd (hob x (List.mem_of_getElem? hx)).1 (by omega)⟩
        · rintro q a' H4 ⟨g, p, lv, ps, rfl, hpp, rfl, g0, g2, g3, g9, g10, g11, g12, g13, g14, hlv, hpl, hps, hpb, hpz⟩
          refine wpX_seq ?_
          (refine wpX_stmt ?_; intro K hK; simp -implicitDefEqProofs (disch := first | omega | (simp only [qd] <;> omega)) only [xq, ↓xp, qc, Nat.reduceAdd, List.range, List.range.loop, fine, Nat.reduceEqDiff, ↓reduceIte, yielded, reduceCtorEq, Nat.reduceLT, Nat.reduceMul, Nat.reduceSub, one, Nat.reduceLeDiff, runX_cons, y26_16, g14, g2]; refine hK _ _ ?_; clear hK K)
          refine wpX_cond (by simp -implicitDefEqProofs (disch := first | omega | (simp only [qd] <;> omega)) only [act_eval, upd_get, Nat.reduceEqDiff, ↓reduceIte]; rfl) ?_
          by_cases hlt : p < pieces
          · simp only [Int.ofNat_lt, hlt, decide_true, if_true]
            refine wpX_skip (wpX_seq (wpX_block ?_))
            (refine wpX_stmt ?_; intro K hK; simp -implicitDefEqProofs (disch := first | omega | (simp only [qd] <;> omega)) only [xq, ↓xp, qc, Nat.reduceAdd, List.range, List.range.loop, fine, Nat.reduceEqDiff, ↓reduceIte, yielded, reduceCtorEq, Nat.reduceLT, Nat.reduceMul, Nat.reduceSub, one, Nat.reduceLeDiff, runX_cons, y26_16, g11, g14, g12])
            refine (at_spec m H4 order os p (hos3.le hlv.1.toLe) (by omega)).runs.mono ?_
            rintro _ _ ⟨rfl, r, rfl, hr⟩
            simp -implicitDefEqProofs (disch := first | omega | (simp only [qd] <;> omega)) only [xq, ↓xp, qc, Nat.reduceAdd, List.range, List.range.loop, fine, Nat.reduceEqDiff, ↓reduceIte, yielded, reduceCtorEq, Nat.reduceLT, Nat.reduceMul, Nat.reduceSub, one, Nat.reduceLeDiff, runX_cons, y26_16, g12]
            refine hK _ _ ?_; clear hK K
            refine wpX_cond (by simp -implicitDefEqProofs (disch := first | omega | (simp only [qd] <;> omega)) only [act_eval, upd_get, Nat.reduceEqDiff, ↓reduceIte]; rfl) ?_
            by_cases hrm : r < mn
            · simp only [hrm, decide_true, if_true]
              refine wpX_last ?_; intro K hK
              simp -implicitDefEqProofs (disch := first | omega | (simp only [qd] <;> omega)) only [xq, ↓xp, qc, Nat.reduceAdd, List.range, List.range.loop, fine, Nat.reduceEqDiff, ↓reduceIte, yielded, reduceCtorEq, Nat.reduceLT, Nat.reduceMul, Nat.reduceSub, one, Nat.reduceLeDiff, runX_cons, y26_16, g13, g14]
              intro gb hgb
              refine append_i hlv hgb (by omega) _ _ _ _ ?_
              intro v' H5 hr5 ho5
              simp -implicitDefEqProofs (disch := first | omega | (simp only [qd] <;> omega)) only [xq, ↓xp, qc, Nat.reduceAdd, List.range, List.range.loop, fine, Nat.reduceEqDiff, ↓reduceIte, yielded, reduceCtorEq, Nat.reduceLT, Nat.reduceMul, Nat.reduceSub, one, Nat.reduceLeDiff, runX_cons, y26_16]
              refine hK _ _ ?_; clear hK K
              simp -implicitDefEqProofs (disch := first | omega | (simp only [qd] <;> omega)) only [thn, blk, ↓reduceIte, Nat.reduceEqDiff]
              (refine wpX_last ?_; intro K hK; simp -implicitDefEqProofs (disch := first | omega | (simp only [qd] <;> omega)) only [xq, ↓xp, qc, Nat.reduceAdd, List.range, List.range.loop, fine, Nat.reduceEqDiff, ↓reduceIte, yielded, reduceCtorEq, Nat.reduceLT, Nat.reduceMul, Nat.reduceSub, one, Nat.reduceLeDiff, runX_cons, y26_16, g14]; refine hK _ _ ?_; clear hK K)
              simp -implicitDefEqProofs (disch := first | omega | (simp only [qd] <;> omega)) only [thn, blk, ↓reduceIte, Nat.reduceEqDiff]
              refine ⟨_, ?_, _, p + 1, v', ps ++ [(p : Int)], rfl, hlt, rfl, g0, g2, g3, g9, g10, g11, g12, rfl, rfl, hr5, by simp; omega, ?_, ?_, ?_⟩
              · omega
              · rw [List.pairwise_append]
                refine ⟨hps, by simp, fun x hx y hy => ?_⟩
                have := (hpb x hx).2
                simp at hy; omega
              · intro x hx
                rcases List.mem_append.1 hx with hx | hx
                · have := hpb x hx; omega
                · simp at hx; omega
              · intro x hx hx1
                by_cases hxp : x < p
                · exact List.mem_append_left _ (hpz x hx hxp)
                · exact List.mem_append_right _ (by simp; omega)
            · simp only [hrm, decide_false, Bool.false_eq_true, if_false]
              refine wpX_skip ?_
              simp -implicitDefEqProofs (disch := first | omega | (simp only [qd] <;> omega)) only [thn, blk, ↓reduceIte, Nat.reduceEqDiff]
              (refine wpX_last ?_; intro K hK; simp -implicitDefEqProofs (disch := first | omega | (simp only [qd] <;> omega)) only [xq, ↓xp, qc, Nat.reduceAdd, List.range, List.range.loop, fine, Nat.reduceEqDiff, ↓reduceIte, yielded, reduceCtorEq, Nat.reduceLT, Nat.reduceMul, Nat.reduceSub, one, Nat.reduceLeDiff, runX_cons, y26_16, g14]; refine hK _ _ ?_; clear hK K)
              simp -implicitDefEqProofs (disch := first | omega | (simp only [qd] <;> omega)) only [thn, blk, ↓reduceIte, Nat.reduceEqDiff]
              refine ⟨_, ?_, _, p + 1, lv, ps, rfl, hlt, rfl, g0, g2, g3, g9, g10, g11, g12, g13, rfl, hlv, by omega, hps, ?_, ?_⟩
              · omega
              · intro x hx
                have := hpb x hx; omega
              · intro x hx hx1
                by_cases hxp : x < p
                · exact hpz x hx hxp
                · have : x = p := by omega
                  subst this
                  exact absurd (hr hx) (by omega)
          · simp only [Int.ofNat_lt, hlt, decide_false, Bool.false_eq_true, if_false]
            (refine wpX_exit ?_; simp only [thn, blk, ↓reduceIte, Nat.reduceEqDiff])
            have hpe : p = pieces := by omega
            subst hpe
            have hok' : CallOk p ps := by
              refine ⟨fun h => ?_, hps, hpb⟩
              have h0 : os[0]? = some os[0] := List.getElem?_eq_getElem (by omega)
              have := hpz _ h0 (hob _ (List.getElem_mem _)).2
              rw [h] at this; cases this
            have hsl : SlI H4 lv ps := hlv.ints
            have hov4 : RowX (some b) H H4 ov 22 vs := ((hov.lex (hl2.trans hl3) (hT'.notI (by decide))).lex (Lex.of hlv.1.toLe) (hT3.notI (by decide)))
            have hvs4 : Rows H4 vs xss := hvs.mono fun v xs h => ((h.lex (hl2.trans hl3) hT').le hlv.1.toLe)
            have hT4 : TinI H4 b (k + w * (p + 2)) := hT3.le hlv.1.toLe
            obtain ⟨la, lc, rfl⟩ := hlv.len
            rw [ints_len] at g13
            refine wpX_last ?_; intro K hK
            simp -implicitDefEqProofs (disch := first | omega | (simp only [qd] <;> omega)) only [xq, ↓xp, qc, Nat.reduceAdd, List.range, List.range.loop, fine, Nat.reduceEqDiff, ↓reduceIte, yielded, reduceCtorEq, Nat.reduceLT, Nat.reduceMul, Nat.reduceSub, one, Nat.reduceLeDiff, runX_cons, y26_16, g9, g13]
            intro gb hgb
            refine append_r hov4 rfl hgb ?_ _ _ _ _ ?_
            · rw [hvs.1]; omega
            intro v' H5 hr5 ho5
            simp -implicitDefEqProofs (disch := first | omega | (simp only [qd] <;> omega)) only [xq, ↓xp, qc, Nat.reduceAdd, List.range, List.range.loop, fine, Nat.reduceEqDiff, ↓reduceIte, yielded, reduceCtorEq, Nat.reduceLT, Nat.reduceMul, Nat.reduceSub, one, Nat.reduceLeDiff, runX_cons, y26_16]
            refine hK _ _ ?_; clear hK K
            simp -implicitDefEqProofs (disch := first | omega | (simp only [qd] <;> omega)) only [thn, blk, ↓reduceIte, Nat.reduceEqDiff]
            have hw1 : ((w + 1 : Nat) : Int) - 1 = (w : Nat) := by omega
            (refine wpX_last ?_; intro K hK; simp -implicitDefEqProofs (disch := first | omega | (simp only [qd] <;> omega)) only [xq, ↓xp, qc, Nat.reduceAdd, List.range, List.range.loop, fine, Nat.reduceEqDiff, ↓reduceIte, yielded, reduceCtorEq, Nat.reduceLT, Nat.reduceMul, Nat.reduceSub, one, Nat.reduceLeDiff, runX_cons, y26_16, g10, hw1]; refine hK _ _ ?_; clear hK K)
            simp -implicitDefEqProofs (disch := first | omega | (simp only [qd] <;> omega)) only [thn, blk, ↓reduceIte, Nat.reduceEqDiff]
            refine ⟨w, by omega, _, v', _, xss ++ [ps], by omega, rfl, g0, g2, g3, rfl, rfl, hr5, ?_, by simp; omega, ?_, ho5.tin (by decide) hT4⟩
            · rw [ints_len] at hsl
              exact (hvs4.mono fun v xs h => h.move fun x q c fr hx => ho5.cells hx (by decide)).snoc (hsl.move fun x q c fr hx => ho5.cells hx (by decide))
            · intro xs hxs
              rcases List.mem_append.1 hxs with h | h
              · exact hok xs h
              · simp at h; rw [h]; exact hok'
    · simp only [Int.natCast_pos, hlt, decide_false, Bool.false_eq_true, if_false]
      (refine wpX_exit ?_; simp only [thn, blk, ↓reduceIte, Nat.reduceEqDiff])
      (refine wpX_stmt ?_; intro K hK; simp -implicitDefEqProofs (disch := first | omega | (simp only [qd] <;> omega)) only [xq, ↓xp, qc, Nat.reduceAdd, List.range, List.range.loop, fine, Nat.reduceEqDiff, ↓reduceIte, yielded, reduceCtorEq, Nat.reduceLT, Nat.reduceMul, Nat.reduceSub, one, Nat.reduceLeDiff, runX_cons, y26_16, e9]; refine hK _ _ ?_; clear hK K)
      (refine wpX_ret ?_; (try simp only [nq, ↓reduceIte, Nat.reduceEqDiff]); rw [bodyX_ret, results_one Tryd.results26 (by decide)]; simp only [upd_get, Nat.reduceEqDiff, ↓reduceIte])
      exact ⟨_, xss, rfl, hov.rows hvs, by omega, hok, hov.1, hT'.less (by omega)⟩

/-- A truth of calls. -/
def TruthOk (xss : List (List Int)) (ts : List Int) : Prop := ts.length = xss.length ∧ ∀ (i : Nat) (t : Int) (xs : List Int), ts[i]? = some t → xss[i]? = some xs → t ∈ xs

theorem truthOf_spec (m : Bool) (H : Hp) (b k : Nat) (pl pc : Int) (st cv : Value) (hst : one st = true) (xss : List (List Int)) (hcv : SlR H cv xss) (hne : ∀ xs ∈ xss, xs ≠ [] ∧ xs.length ≤ 100000) (hlen : xss.length ≤ 100000) (hT : TinI H b (k + xss.length)) :
    FnX Tryd.prog m 27 #[.pointer (some ⟨b, 0, none⟩), .agg #[.int .i64 pl, .int .i64 pc, st, cv]] H fun e H' => ∃ v ts, e = .returned v ∧ SlI H' v ts ∧ TruthOk xss ts ∧ Lex (some b) H H' ∧ TinI H' b k := by
  obtain ⟨a, cap, rfl, hcap, hcv⟩ := hcv
  refine FnX_start Tryd.func27 rfl Tryd.ntmps27 (by simp) ?_
  (refine wpX_stmt ?_; intro K hK; simp -implicitDefEqProofs (disch := first | omega | (simp only [qd] <;> omega)) only [xq, ↓xp, qc, Nat.reduceAdd, List.range, List.range.loop, fine, Nat.reduceEqDiff, ↓reduceIte, yielded, reduceCtorEq, Nat.reduceLT, Nat.reduceMul, Nat.reduceSub, one, Nat.reduceLeDiff, runX_cons, y27_16])
  intro nb hnb
  refine hK _ _ ?_; clear hK K
  (refine wpX_stmt ?_; intro K hK; simp -implicitDefEqProofs (disch := first | omega | (simp only [qd] <;> omega)) only [xq, ↓xp, qc, Nat.reduceAdd, List.range, List.range.loop, fine, Nat.reduceEqDiff, ↓reduceIte, yielded, reduceCtorEq, Nat.reduceLT, Nat.reduceMul, Nat.reduceSub, one, Nat.reduceLeDiff, runX_cons, y27_16]; refine hK _ _ ?_; clear hK K)
  refine wpX_seq ?_
  (refine wpX_stmt ?_; intro K hK; simp -implicitDefEqProofs (disch := first | omega | (simp only [qd] <;> omega)) only [xq, ↓xp, qc, Nat.reduceAdd, List.range, List.range.loop, fine, Nat.reduceEqDiff, ↓reduceIte, yielded, reduceCtorEq, Nat.reduceLT, Nat.reduceMul, Nat.reduceSub, one, Nat.reduceLeDiff, runX_cons, y27_16]; refine hK _ _ ?_; clear hK K)
  refine wpX_block (wpX_loop (fun w a' H' => ∃ e j tv ts, w = xss.length - j ∧ j ≤ xss.length ∧ a' = act 25 e [] ∧ e 0 = .pointer (some ⟨b, 0, none⟩) ∧ e 3 = .pointer (some ⟨nb, 0, none⟩) ∧ e 5 = tv ∧ e 6 = .int .i64 (j : Nat) ∧
    RowX (some b) (H.set nb (.cells #[.int .i64 pl, .int .i64 pc, st, .slice a xss.length cap] 25 (0, 0))) H' tv 3 (ints ts) ∧ ts.length = j ∧ (∀ (i : Nat) (t : Int) (xs : List Int), ts[i]? = some t → xss[i]? = some xs → t ∈ xs) ∧ TinI H' b (k + (xss.length - j))) (n := xss.length) ?_ ?_)
  · exact ⟨_, 0, _, [], by omega, by omega, rfl, rfl, rfl, rfl, rfl, RowX.nil, rfl, by simp, (hT.new hnb).less (by omega)⟩
  · rintro w a' H' ⟨e, j, tv, ts, rfl, hj, rfl, e0, e3, e5, e6, htv, htl, hti, hT'⟩
    have hnb' := htv.1.keeps set_at (hT.ne hnb)
    refine wpX_seq ?_
    (refine wpX_stmt ?_; intro K hK; simp -implicitDefEqProofs (disch := first | omega | (simp only [qd] <;> omega)) only [xq, ↓xp, qc, Nat.reduceAdd, List.range, List.range.loop, fine, Nat.reduceEqDiff, ↓reduceIte, yielded, reduceCtorEq, Nat.reduceLT, Nat.reduceMul, Nat.reduceSub, one, Nat.reduceLeDiff, runX_cons, y27_16, e3, e6, cell_of hnb', exists_eq_left']; refine hK _ _ ?_; clear hK K)
    refine wpX_cond (by simp -implicitDefEqProofs (disch := first | omega | (simp only [qd] <;> omega)) only [act_eval, upd_get, Nat.reduceEqDiff, ↓reduceIte]; rfl) ?_
    by_cases hlt : j < xss.length
    · simp only [Int.ofNat_lt, hlt, decide_true, if_true]
      refine wpX_skip (wpX_seq (wpX_block ?_))
      obtain ⟨rb, ro, p, c, fr, w, rfl, hrb, hcw, hsl⟩ := hcv j xss[j] (List.getElem?_eq_getElem hlt)
      have hrb' := htv.1.keeps (Hp.le_set hnb _ _ hrb) (fun e' => by
        obtain ⟨_, _, _, _, _, hb2, _⟩ := hT
        rw [e', hb2] at hrb
        simp only [Option.some.injEq, Prod.mk.injEq, Obj.cells.injEq] at hrb
        exact absurd hrb.2.2.1 (by decide))
      have hcw' : c[ro + (j : Int).toNat * 1]? = some w := by simpa using hcw
      have hmem : xss[j] ∈ xss := List.getElem_mem hlt
      have hsl' : SlI H' w xss[j] := ((hsl.le (Hp.le_set hnb)).lex htv.1 (hT.new hnb))
      refine wpX_last ?_; intro K hK
      simp -implicitDefEqProofs (disch := first | omega | (simp only [qd] <;> omega)) only [xq, ↓xp, qc, Nat.reduceAdd, List.range, List.range.loop, fine, Nat.reduceEqDiff, ↓reduceIte, yielded, reduceCtorEq, Nat.reduceLT, Nat.reduceMul, Nat.reduceSub, one, Nat.reduceLeDiff, runX_cons, y27_16, e0, e3, e5, e6, cell_of hnb', cell_of hrb', hcw', exists_eq_left']
      refine (eitherL m H' b (k + (xss.length - (j + 1))) w xss[j] hsl' (hne _ hmem).1 (by have := (hne _ hmem).2; omega) (by rw [show k + (xss.length - (j + 1)) + 1 = k + (xss.length - j) by omega]; exact hT')).runs.mono ?_; rintro _ _ ⟨r, hr, rfl, hl2, hT2⟩; simp -implicitDefEqProofs (disch := first | omega | (simp only [qd] <;> omega)) only [xq, ↓xp, qc, Nat.reduceAdd, List.range, List.range.loop, fine, Nat.reduceEqDiff, ↓reduceIte, yielded, reduceCtorEq, Nat.reduceLT, Nat.reduceMul, Nat.reduceSub, one, Nat.reduceLeDiff, runX_cons, y27_16, e5]
      intro gb hgb
      have htv2 := htv.lex hl2 (hT'.notI (by decide))
      refine append_i htv2 hgb (by omega) _ _ _ _ ?_
      intro v' H5 hr5 ho5
      simp -implicitDefEqProofs (disch := first | omega | (simp only [qd] <;> omega)) only [xq, ↓xp, qc, Nat.reduceAdd, List.range, List.range.loop, fine, Nat.reduceEqDiff, ↓reduceIte, yielded, reduceCtorEq, Nat.reduceLT, Nat.reduceMul, Nat.reduceSub, one, Nat.reduceLeDiff, runX_cons, y27_16]
      refine hK _ _ ?_; clear hK K
      simp -implicitDefEqProofs (disch := first | omega | (simp only [qd] <;> omega)) only [thn, blk, ↓reduceIte, Nat.reduceEqDiff]
      (refine wpX_last ?_; intro K hK; simp -implicitDefEqProofs (disch := first | omega | (simp only [qd] <;> omega)) only [xq, ↓xp, qc, Nat.reduceAdd, List.range, List.range.loop, fine, Nat.reduceEqDiff, ↓reduceIte, yielded, reduceCtorEq, Nat.reduceLT, Nat.reduceMul, Nat.reduceSub, one, Nat.reduceLeDiff, runX_cons, y27_16, e6]; refine hK _ _ ?_; clear hK K)
      simp -implicitDefEqProofs (disch := first | omega | (simp only [qd] <;> omega)) only [thn, blk, ↓reduceIte, Nat.reduceEqDiff]
      refine ⟨_, ?_, _, j + 1, v', ts ++ [r], rfl, hlt, rfl, e0, e3, rfl, rfl, hr5, by simp [htl], fun i t xs hi hx => ?_, ho5.tin (by decide) hT2⟩
      · omega
      · by_cases hij : i < ts.length
        · rw [List.getElem?_append_left hij] at hi
          exact hti i t xs hi hx
        · rw [List.getElem?_append_right (by omega)] at hi
          have h1 := (List.getElem?_eq_some_iff.1 hi).1
          simp at h1
          have : i = j := by omega
          subst this
          rw [show i - ts.length = 0 by omega] at hi
          simp at hi
          rw [List.getElem?_eq_getElem hlt] at hx
          rw [← hi, ← Option.some.inj hx]
          exact hr
    · simp only [Int.ofNat_lt, hlt, decide_false, Bool.false_eq_true, if_false]
      (refine wpX_exit ?_; simp only [thn, blk, ↓reduceIte, Nat.reduceEqDiff])
      (refine wpX_stmt ?_; intro K hK; simp -implicitDefEqProofs (disch := first | omega | (simp only [qd] <;> omega)) only [xq, ↓xp, qc, Nat.reduceAdd, List.range, List.range.loop, fine, Nat.reduceEqDiff, ↓reduceIte, yielded, reduceCtorEq, Nat.reduceLT, Nat.reduceMul, Nat.reduceSub, one, Nat.reduceLeDiff, runX_cons, y27_16, e5]; refine hK _ _ ?_; clear hK K)
      (refine wpX_ret ?_; (try simp only [nq, ↓reduceIte, Nat.reduceEqDiff]); rw [bodyX_ret, results_one Tryd.results27 (by decide)]; simp only [upd_get, Nat.reduceEqDiff, ↓reduceIte])
      have : j = xss.length := by omega
      exact ⟨_, ts, rfl, htv.ints, ⟨by omega, hti⟩, (Lex.refl.new hnb).trans htv.1, hT'.less (by omega)⟩

/-! ### plans where one block stays as it is -/
theorem plan_takeB {P : Program} {main : Bool} {lp : Option Nat} {Q : Exit → Act → Hp → Prop} {a : Act} {H : Hp} {nb : Nat} {u : Bool × Obj} {t i : Nat} {ops : List Oper} {o : Oper} {rest : List (Bool × Nat)} {v : Value} (ho : ops[i]? = some o) (hw : Region.wanted o (yielded ops.toArray a.tmps) = true) (hf : fine lp o = true)
    (hS : H nb = some u) (h : ∀ H', H' nb = some u → wpS P (execOp a.eval o) H' (YN P main v H') fun _ _ => False) (hk : planX P main lp ops.toArray Q (fun H' => H' nb = some u) t rest (a.put o.dst v) H) : planX P main lp ops.toArray Q (fun H' => H' nb = some u) t ((true, i) :: rest) a H :=
  ⟨hS, o, by simpa using ho, v, .inl ⟨hw, hf, h⟩, hk⟩
theorem planX_act {P : Program} {main : Bool} {lp : Option Nat} {Q : Exit → Act → Hp → Prop} {S : Hp → Prop} {a : Act} {H : Hp} {t i : Nat} {ops : Array Oper} {rest : List (Bool × Nat)} (h : numX P main lp ops i Q (fun a' H' => (i = t ∨ S H') ∧ planX P main lp ops Q S t rest a' H') a H) : planX P main lp ops Q S t ((false, i) :: rest) a H := h

/-- A vault that is valid. -/
def VaultOk (places pieces : Int) (start : List Int) (xss : List (List Int)) : Prop :=
  1 ≤ places ∧ places ≤ 4 ∧ 1 ≤ pieces ∧ pieces ≤ 6 ∧ (start.length : Int) ≤ places ∧ start.Nodup ∧ (∀ x ∈ start, 0 ≤ x ∧ x < pieces) ∧ ∀ xs ∈ xss, CallOk pieces.toNat xs

theorem vaultOf_spec (m : Bool) (H : Hp) (b k : Nat) (calls each : Nat) (hc : calls ≤ 8) (he0 : 1 ≤ each) (he : each ≤ 100) (hT : TinI H b (k + 20 + calls * 9)) :
    FnX Tryd.prog m 10 #[.pointer (some ⟨b, 0, none⟩), .int .i64 calls, .int .i64 each] H fun e H' => ∃ places pieces st start cv xss tv ts, e = .returned (.tuple #[.agg #[.int .i64 places, .int .i64 pieces, st, cv], tv]) ∧
      SlI H' st start ∧ SlR H' cv xss ∧ SlI H' tv ts ∧ VaultOk places pieces start xss ∧ xss.length ≤ calls ∧ TruthOk xss ts ∧ Lex (some b) H H' ∧ TinI H' b k := by
  refine FnX_start Tryd.func10 rfl Tryd.ntmps10 (by simp) ?_
  (refine wpX_stmt ?_; intro K hK; simp -implicitDefEqProofs (disch := first | omega | (simp only [qd] <;> omega)) only [xq, ↓xp, qc, Nat.reduceAdd, List.range, List.range.loop, fine, Nat.reduceEqDiff, ↓reduceIte, yielded, reduceCtorEq, Nat.reduceLT, Nat.reduceMul, Nat.reduceSub, one, Nat.reduceLeDiff, runX_cons, y10_16])
  intro rb hrb
  refine hK _ _ ?_; clear hK K
  have hl0 : Lex (some b) H (H.set rb (.cells #[.int .i64 0, .int .i64 0, .slice none 0 0, .slice none 0 0] 25 (0, 0))) := Lex.refl.new hrb
  have hT0 := hT.new hrb (o := .cells #[.int .i64 0, .int .i64 0, .slice none 0 0, .slice none 0 0] 25 (0, 0))
  have hrbn := hT.ne hrb
  (refine wpX_stmt ?_; intro K hK; simp -implicitDefEqProofs (disch := first | omega | (simp only [qd] <;> omega)) only [xq, ↓xp, qc, Nat.reduceAdd, List.range, List.range.loop, fine, Nat.reduceEqDiff, ↓reduceIte, yielded, reduceCtorEq, Nat.reduceLT, Nat.reduceMul, Nat.reduceSub, one, Nat.reduceLeDiff, runX_cons, y10_16])
  intro gb hgb
  refine (eitherL m _ b (k + 18 + calls * 9) _ [1, 2, 2, 3, 3, 4] (by exact SlI.lit (vs := [_, _, _, _, _, _]) _ rfl rfl) (by simp) (by simp) (by exact (hT0.new hgb).less (by omega))).runs.mono ?_; rintro _ _ ⟨pl, hpl, rfl, hl1, hT1⟩; simp -implicitDefEqProofs (disch := first | omega | (simp only [qd] <;> omega)) only [xq, ↓xp, qc, Nat.reduceAdd, List.range, List.range.loop, fine, Nat.reduceEqDiff, ↓reduceIte, yielded, reduceCtorEq, Nat.reduceLT, Nat.reduceMul, Nat.reduceSub, one, Nat.reduceLeDiff, runX_cons, y10_16]
  refine (withinL m _ b (k + 17 + calls * 9) 1 6 (by omega) (by omega) (by omega) (by omega) (hT1.less (by omega))).runs.mono ?_; rintro _ _ ⟨pc, hpc0, hpc1, rfl, hl2, hT2⟩; simp -implicitDefEqProofs (disch := first | omega | (simp only [qd] <;> omega)) only [xq, ↓xp, qc, Nat.reduceAdd, List.range, List.range.loop, fine, Nat.reduceEqDiff, ↓reduceIte, yielded, reduceCtorEq, Nat.reduceLT, Nat.reduceMul, Nat.reduceSub, one, Nat.reduceLeDiff, runX_cons, y10_16]
  intro nb hnb
  refine hK _ _ ?_; clear hK K
  have hnbn : nb ≠ b := hT2.ne hnb
  have hT3 := hT2.new hnb (o := .cells #[.int .i64 pl, .int .i64 pc, .slice none 0 0, .slice none 0 0] 25 (0, 0))
  have hl3 := ((((Lex.refl.new hgb).trans hl1).trans hl2).new hnb (o := .cells #[.int .i64 pl, .int .i64 pc, .slice none 0 0, .slice none 0 0] 25 (0, 0)))
  obtain ⟨pieces, rfl⟩ := Int.eq_ofNat_of_zero_le (show 0 ≤ pc by omega)
  have hpl' : 1 ≤ pl ∧ pl ≤ 4 := by simp at hpl; omega
  clear hpl
  (refine wpX_stmt ?_; intro K hK; simp -implicitDefEqProofs (disch := first | omega | (simp only [qd] <;> omega)) only [xq, ↓xp, qc, Nat.reduceAdd, List.range, List.range.loop, fine, Nat.reduceEqDiff, ↓reduceIte, yielded, reduceCtorEq, Nat.reduceLT, Nat.reduceMul, Nat.reduceSub, one, Nat.reduceLeDiff, runX_cons, y10_16, exists_eq_left'])
  refine (mixed_spec m _ b (k + 11 + calls * 9) pieces (by omega) (by exact hT3.less (by omega))).runs.mono ?_
  rintro _ H4 ⟨order, os, rfl, hos, hol, hond, hob, hl4, hT4⟩
  simp -implicitDefEqProofs (disch := first | omega | (simp only [qd] <;> omega)) only [xq, ↓xp, qc, Nat.reduceAdd, List.range, List.range.loop, fine, Nat.reduceEqDiff, ↓reduceIte, yielded, reduceCtorEq, Nat.reduceLT, Nat.reduceMul, Nat.reduceSub, one, Nat.reduceLeDiff, runX_cons, y10_16]
  refine hK _ _ ?_; clear hK K
  have hnb4 := hl4.keeps set_at hnbn
  obtain ⟨ob, oo, oc, op, cc, ofr, rfl, hoc, hob4, hcc⟩ := hos.cons (by intro h; rw [h] at hol; simp at hol; omega)
  refine wpX_dstmt (fun H' => H' nb = some (true, .cells #[.int .i64 pl, .int .i64 (pieces : Int), .slice none 0 0, .slice none 0 0] 25 (0, 0))) 18 [(true, 0), (true, 1), (true, 2), (true, 3), (true, 4), (true, 5), (true, 6), (true, 7), (true, 8), (true, 9), (true, 10), (false, 11), (false, 12), (false, 13), (true, 14), (true, 15), (false, 16), (true, 17), (false, 18)] (by kernel_rfl) (by kernel_rfl) (by simp) (by kernel_rfl) ?_
  intro K hK
  iterate 11 (apply plan_takeB rfl rfl rfl ‹_›; (focus (intro HX hHX; simp -implicitDefEqProofs (disch := first | omega | (simp only [qd] <;> omega)) only [xq, ↓xp, qc, Nat.reduceAdd, List.range, List.range.loop, fine, Nat.reduceEqDiff, ↓reduceIte, yielded, reduceCtorEq, Nat.reduceLT, Nat.reduceMul, Nat.reduceSub, one, Nat.reduceLeDiff, runX_cons, y10_16, exists_eq_left', cell_of hHX, loadA_at hHX] <;> (first | exact rfl | exact ⟨rfl, rfl⟩))); simp only [act_put, act_put_none])
  (refine planX_act ?_; simp -implicitDefEqProofs (disch := first | omega | (simp only [qd] <;> omega)) only [xq, ↓xp, qc, Nat.reduceAdd, List.range, List.range.loop, fine, Nat.reduceEqDiff, ↓reduceIte, yielded, reduceCtorEq, Nat.reduceLT, Nat.reduceMul, Nat.reduceSub, one, Nat.reduceLeDiff, runX_cons, y10_16])
  refine (uptoL m _ b (k + 10 + calls * 9) pl (by omega) (by exact hT4.less (by omega))).runs.mono ?_
  rintro _ H5 ⟨r, hr0, hr1, rfl, hl5, hT5⟩
  simp -implicitDefEqProofs (disch := first | omega | (simp only [qd] <;> omega)) only [xq, ↓xp, qc, Nat.reduceAdd, List.range, List.range.loop, fine, Nat.reduceEqDiff, ↓reduceIte, yielded, reduceCtorEq, Nat.reduceLT, Nat.reduceMul, Nat.reduceSub, one, Nat.reduceLeDiff, runX_cons, y10_16]
  have hnb5 := hl5.keeps hnb4 hnbn
  refine ⟨.inr hnb5, ?_⟩
  (refine planX_act ?_; simp -implicitDefEqProofs (disch := first | omega | (simp only [qd] <;> omega)) only [xq, ↓xp, qc, Nat.reduceAdd, List.range, List.range.loop, fine, Nat.reduceEqDiff, ↓reduceIte, yielded, reduceCtorEq, Nat.reduceLT, Nat.reduceMul, Nat.reduceSub, one, Nat.reduceLeDiff, runX_cons, y10_16])
  intro g2 hg2
  refine ⟨.inr (Hp.le_set hg2 _ _ hnb5), ?_⟩
  (refine planX_act ?_; simp -implicitDefEqProofs (disch := first | omega | (simp only [qd] <;> omega)) only [xq, ↓xp, qc, Nat.reduceAdd, List.range, List.range.loop, fine, Nat.reduceEqDiff, ↓reduceIte, yielded, reduceCtorEq, Nat.reduceLT, Nat.reduceMul, Nat.reduceSub, one, Nat.reduceLeDiff, runX_cons, y10_16])
  refine (eitherL m _ b (k + 9 + calls * 9) _ [0, pl, pl, r] (by exact SlI.lit (vs := [_, _, _, _]) _ rfl rfl) (by simp) (by simp) (by exact (hT5.new hg2).less (by omega))).runs.mono ?_
  rintro _ H6 ⟨q, hq, rfl, hl6, hT6⟩
  simp -implicitDefEqProofs (disch := first | omega | (simp only [qd] <;> omega)) only [xq, ↓xp, qc, Nat.reduceAdd, List.range, List.range.loop, fine, Nat.reduceEqDiff, ↓reduceIte, yielded, reduceCtorEq, Nat.reduceLT, Nat.reduceMul, Nat.reduceSub, one, Nat.reduceLeDiff, runX_cons, y10_16]
  have hnb6 := hl6.keeps (Hp.le_set hg2 _ _ hnb5) hnbn
  have hob6 := hl6.keeps (Hp.le_set hg2 _ _ (hl5.keeps hob4 (hT4.neI hob4))) (hT4.neI hob4)
  have hq' : 0 ≤ q ∧ q ≤ pl := by simp at hq; omega
  clear hq
  obtain ⟨mm, hmm, hm0, hm1, hm2⟩ : ∃ mm : Nat, (if q < (pieces : Int) then q else (pieces : Int)) = mm ∧ (mm : Int) ≤ pl ∧ mm ≤ pieces ∧ mm ≤ 1000 :=
    ⟨(if q < (pieces : Int) then q else (pieces : Int)).toNat, by split <;> omega, by split <;> omega, by split <;> omega, by split <;> omega⟩
  refine ⟨.inr hnb6, ?_⟩
  iterate 2 (apply plan_takeB rfl rfl rfl ‹_›; (focus (intro HX hHX; simp -implicitDefEqProofs (disch := first | omega | (simp only [qd] <;> omega)) only [xq, ↓xp, qc, Nat.reduceAdd, List.range, List.range.loop, fine, Nat.reduceEqDiff, ↓reduceIte, yielded, reduceCtorEq, Nat.reduceLT, Nat.reduceMul, Nat.reduceSub, one, Nat.reduceLeDiff, runX_cons, y10_16, hmm, Int.toNat_natCast, cell_of hHX, loadA_at hHX] <;> (first | exact rfl | exact ⟨rfl, rfl⟩))); simp only [act_put, act_put_none])
  (refine planX_act ?_; simp -implicitDefEqProofs (disch := first | omega | (simp only [qd] <;> omega)) only [xq, ↓xp, qc, Nat.reduceAdd, List.range, List.range.loop, fine, Nat.reduceEqDiff, ↓reduceIte, yielded, reduceCtorEq, Nat.reduceLT, Nat.reduceMul, Nat.reduceSub, one, Nat.reduceLeDiff, runX_cons, y10_16])
  refine (keepInts_spec m _ ob oo mm oc (os.take mm) (fun j y hj => ?_) (by rw [List.length_take]; omega) (by omega) ⟨_, hob6⟩).runs.mono ?_
  · rw [cell_of hob6]
    by_cases hjm : j < mm
    · rw [List.getElem?_take_of_lt hjm] at hj
      exact hcc j y hj
    · rw [List.getElem?_eq_none (by simp; omega)] at hj; cases hj
  rintro _ H7 ⟨sv, rfl, hsv, hl7⟩
  have hnb7 := hl7 _ _ hnb6
  obtain ⟨sa, scap, rfl, hscap, hsi⟩ := hsv
  simp -implicitDefEqProofs (disch := first | omega | (simp only [qd] <;> omega)) only [xq, ↓xp, qc, Nat.reduceAdd, List.range, List.range.loop, fine, Nat.reduceEqDiff, ↓reduceIte, yielded, reduceCtorEq, Nat.reduceLT, Nat.reduceMul, Nat.reduceSub, one, Nat.reduceLeDiff, runX_cons, y10_16]
  refine ⟨.inr hnb7, ?_⟩
  (apply plan_takeB rfl rfl rfl ‹_›; (focus (intro HX hHX; simp -implicitDefEqProofs (disch := first | omega | (simp only [qd] <;> omega)) only [xq, ↓xp, qc, Nat.reduceAdd, List.range, List.range.loop, fine, Nat.reduceEqDiff, ↓reduceIte, yielded, reduceCtorEq, Nat.reduceLT, Nat.reduceMul, Nat.reduceSub, one, Nat.reduceLeDiff, runX_cons, y10_16, cell_of hHX, loadA_at hHX] <;> (first | exact rfl | exact ⟨rfl, rfl⟩))); simp only [act_put, act_put_none])
  (refine planX_act ?_; simp -implicitDefEqProofs (disch := first | omega | (simp only [qd] <;> omega)) only [xq, ↓xp, qc, Nat.reduceAdd, List.range, List.range.loop, fine, Nat.reduceEqDiff, ↓reduceIte, yielded, reduceCtorEq, Nat.reduceLT, Nat.reduceMul, Nat.reduceSub, one, Nat.reduceLeDiff, runX_cons, y10_16, storL_of hnb7, stor_at hnb7])
  refine ⟨.inl (by trivial), plan_nil (hK _ _ ?_)⟩
  clear hK K
  have hT7 := hT6.le hl7
  have hT8 := hT7.own hnb7 (Ne.symm hnbn) (o' := .cells #[.int .i64 pl, .int .i64 (pieces : Int), .slice sa (os.take mm).length scap, .slice none 0 0] 25 (0, 0))
  have hsv8 : SlI (H7.set nb (.cells #[.int .i64 pl, .int .i64 (pieces : Int), .slice sa (os.take mm).length scap, .slice none 0 0] 25 (0, 0))) (.slice sa (os.take mm).length scap) (os.take mm) :=
    SlI.set ⟨sa, scap, rfl, hscap, hsi⟩ fun p c fr e => by rw [hnb7] at e; cases e
  have hL7 := (((hl3.trans hl4).trans hl5).new hg2 (o := .cells #[.int .i64 0, .int .i64 pl, .int .i64 pl, .int .i64 r] 3 (0, 0))).trans hl6 |>.le hl7
  have hnb0 := (((Lex.refl.new hgb (o := .cells #[.int .i64 1, .int .i64 2, .int .i64 2, .int .i64 3, .int .i64 3, .int .i64 4] 3 (0, 0))).trans hl1).trans hl2).gone hnb
  have hL8 := hL7.own hnb0 (o := .cells #[.int .i64 pl, .int .i64 (pieces : Int), .slice sa (os.take mm).length scap, .slice none 0 0] 25 (0, 0))
  have hnb8 : (H7.set nb (.cells #[.int .i64 pl, .int .i64 (pieces : Int), .slice sa (os.take mm).length scap, .slice none 0 0] 25 (0, 0))) nb = _ := set_at
  generalize (H7.set nb (.cells #[.int .i64 pl, .int .i64 (pieces : Int), .slice sa (os.take mm).length scap, .slice none 0 0] 25 (0, 0))) = H8 at *
  (refine wpX_stmt ?_; intro K hK; simp -implicitDefEqProofs (disch := first | omega | (simp only [qd] <;> omega)) only [xq, ↓xp, qc, Nat.reduceAdd, List.range, List.range.loop, fine, Nat.reduceEqDiff, ↓reduceIte, yielded, reduceCtorEq, Nat.reduceLT, Nat.reduceMul, Nat.reduceSub, one, Nat.reduceLeDiff, runX_cons, y10_16, cell_of hnb8, exists_eq_left'])
  refine (callsOf_spec m H8 b (k + calls) calls pieces each (by omega) (by omega) (by omega) he0 he (hT8.less (by have : calls * (pieces + 2) ≤ calls * 8 := Nat.mul_le_mul_left _ (by omega); omega))).runs.mono ?_
  rintro _ H9 ⟨cv, xss, rfl, hcv, hxl, hxo, hl9, hT9⟩
  have hnb9 := hl9.keeps hnb8 hnbn
  obtain ⟨ca, ccap, rfl, hccap, hci⟩ := hcv
  simp -implicitDefEqProofs (disch := first | omega | (simp only [qd] <;> omega)) only [xq, ↓xp, qc, Nat.reduceAdd, List.range, List.range.loop, fine, Nat.reduceEqDiff, ↓reduceIte, yielded, reduceCtorEq, Nat.reduceLT, Nat.reduceMul, Nat.reduceSub, one, Nat.reduceLeDiff, runX_cons, y10_16, storL_of hnb9, stor_at hnb9]
  refine hK _ _ ?_; clear hK K
  have hnbI : ∀ p c fr e, (e = 3 ∨ e = 22) → H9 nb ≠ some (p, .cells c e fr) := fun p c fr e he h => by
    rw [hnb9] at h
    simp only [Option.some.injEq, Prod.mk.injEq, Obj.cells.injEq] at h
    rcases he with he | he <;> rw [he] at h <;> exact absurd h.2.2.1 (by decide)
  have hsv9 := hsv8.lex hl9 hT8
  have hsv10 := hsv9.set (o := .cells #[.int .i64 pl, .int .i64 (pieces : Int), .slice sa (os.take mm).length scap, .slice ca xss.length ccap] 25 (0, 0)) fun p c fr => hnbI p c fr _ (.inl rfl)
  have hcv10 : SlR (H9.set nb (.cells #[.int .i64 pl, .int .i64 (pieces : Int), .slice sa (os.take mm).length scap, .slice ca xss.length ccap] 25 (0, 0))) (.slice ca xss.length ccap) xss :=
    SlR.move ⟨ca, ccap, rfl, hccap, hci⟩ fun x p c fr e he hx => by rw [set_ne (H := H9) (b := nb) (b' := x) (fun e' => hnbI p c fr e he (by rw [← e']; exact hx))]; exact hx
  have hL10 := (hL8.trans hl9).own hnb0 (o := .cells #[.int .i64 pl, .int .i64 (pieces : Int), .slice sa (os.take mm).length scap, .slice ca xss.length ccap] 25 (0, 0))
  have hT10 := hT9.own hnb9 (Ne.symm hnbn) (o' := .cells #[.int .i64 pl, .int .i64 (pieces : Int), .slice sa (os.take mm).length scap, .slice ca xss.length ccap] 25 (0, 0))
  have hnb10 : (H9.set nb (.cells #[.int .i64 pl, .int .i64 (pieces : Int), .slice sa (os.take mm).length scap, .slice ca xss.length ccap] 25 (0, 0))) nb = _ := set_at
  generalize (H9.set nb (.cells #[.int .i64 pl, .int .i64 (pieces : Int), .slice sa (os.take mm).length scap, .slice ca xss.length ccap] 25 (0, 0))) = H10 at *
  refine wpX_dstmt (fun H' => H' nb = some (true, .cells #[.int .i64 pl, .int .i64 (pieces : Int), .slice sa (os.take mm).length scap, .slice ca xss.length ccap] 25 (0, 0))) 5 [(true, 0), (true, 1), (true, 2), (false, 3), (false, 4), (false, 5)] (by kernel_rfl) (by kernel_rfl) (by simp) (by kernel_rfl) ?_
  intro K hK
  iterate 3 (apply plan_takeB rfl rfl rfl ‹_›; (focus (intro HX hHX; simp -implicitDefEqProofs (disch := first | omega | (simp only [qd] <;> omega)) only [xq, ↓xp, qc, Nat.reduceAdd, List.range, List.range.loop, fine, Nat.reduceEqDiff, ↓reduceIte, yielded, reduceCtorEq, Nat.reduceLT, Nat.reduceMul, Nat.reduceSub, one, Nat.reduceLeDiff, runX_cons, y10_16, exists_eq_left', cell_of hHX, loadA_at hHX] <;> (first | exact rfl | exact ⟨rfl, rfl⟩))); simp only [act_put, act_put_none])
  (refine planX_act ?_; simp -implicitDefEqProofs (disch := first | omega | (simp only [qd] <;> omega)) only [xq, ↓xp, qc, Nat.reduceAdd, List.range, List.range.loop, fine, Nat.reduceEqDiff, ↓reduceIte, yielded, reduceCtorEq, Nat.reduceLT, Nat.reduceMul, Nat.reduceSub, one, Nat.reduceLeDiff, runX_cons, y10_16])
  refine (truthOf_spec m H10 b k pl pieces _ _ (by rfl) xss hcv10 (fun xs h => ⟨(hxo xs h).1, by have := (hxo xs h).len; omega⟩) (by omega) (hT10.less (by omega))).runs.mono ?_
  rintro _ H11 ⟨tv, ts, rfl, hts, htok, hl11, hT11⟩
  obtain ⟨ta, tcap, rfl, htcap, hti⟩ := hts
  have hL11 := hL10.trans hl11
  have hnb11 := hl11.keeps hnb10 hnbn
  have hrb11 := hL11.keeps set_at hrbn
  have hrbnb : rb ≠ nb := fun e => by rw [← e, set_at] at hnb0; cases hnb0
  simp -implicitDefEqProofs (disch := first | omega | (simp only [qd] <;> omega)) only [xq, ↓xp, qc, Nat.reduceAdd, List.range, List.range.loop, fine, Nat.reduceEqDiff, ↓reduceIte, yielded, reduceCtorEq, Nat.reduceLT, Nat.reduceMul, Nat.reduceSub, one, Nat.reduceLeDiff, runX_cons, y10_16]
  refine ⟨.inr hnb11, ?_⟩
  (refine planX_act ?_; simp -implicitDefEqProofs (disch := first | omega | (simp only [qd] <;> omega)) only [xq, ↓xp, qc, Nat.reduceAdd, List.range, List.range.loop, fine, Nat.reduceEqDiff, ↓reduceIte, yielded, reduceCtorEq, Nat.reduceLT, Nat.reduceMul, Nat.reduceSub, one, Nat.reduceLeDiff, runX_cons, y10_16, storL_of hrb11])
  refine ⟨.inr (by rw [set_ne (Ne.symm hrbnb)]; exact hnb11), ?_⟩
  (refine planX_act ?_; simp -implicitDefEqProofs (disch := first | omega | (simp only [qd] <;> omega)) only [xq, ↓xp, qc, Nat.reduceAdd, List.range, List.range.loop, fine, Nat.reduceEqDiff, ↓reduceIte, yielded, reduceCtorEq, Nat.reduceLT, Nat.reduceMul, Nat.reduceSub, one, Nat.reduceLeDiff, runX_cons, y10_16])
  refine ⟨.inl (by trivial), plan_nil (hK _ _ ?_)⟩
  clear hK K
  (refine wpX_ret ?_; (try simp only [nq, ↓reduceIte, Nat.reduceEqDiff]); rw [bodyX_ret, results_cell_tmp Tryd.results10 (by decide) (by decide) (b := rb) (o := 0) rfl Tryd.underlying25 rfl Tryd.sizeOf25]; simp -implicitDefEqProofs (disch := first | omega | (simp only [qd] <;> omega)) only [xq, ↓xp, qc, Nat.reduceAdd, List.range, List.range.loop, fine, Nat.reduceEqDiff, ↓reduceIte, yielded, reduceCtorEq, Nat.reduceLT, Nat.reduceMul, Nat.reduceSub, one, Nat.reduceLeDiff, runX_cons, y10_16, loadA_set])
  have hrbI : ∀ p c fr e, (e = 3 ∨ e = 22) → H11 rb ≠ some (p, .cells c e fr) := fun p c fr e he h => by
    rw [hrb11] at h
    simp only [Option.some.injEq, Prod.mk.injEq, Obj.cells.injEq] at h
    rcases he with he | he <;> rw [he] at h <;> exact absurd h.2.2.1 (by decide)
  refine ⟨pl, pieces, _, os.take mm, _, xss, _, ts, rfl, (hsv10.lex hl11 hT10).set fun p c fr => hrbI p c fr _ (.inl rfl), (hcv10.lex hl11 hT10).move fun x p c fr e he hx => ?_,
    SlI.set ⟨ta, tcap, rfl, htcap, hti⟩ fun p c fr => hrbI p c fr _ (.inl rfl), ⟨by omega, by omega, by omega, by omega, by rw [List.length_take]; omega, (List.take_sublist _ _).nodup hond, fun x hx => hob x (List.mem_of_mem_take hx), fun xs h => hxo xs h⟩,
    hxl, htok, ((Lex.refl.new hrb).trans hL11).own hrb, hT11.own hrb11 (Ne.symm hrbn)⟩
  rw [set_ne (H := H11) (b := rb) (b' := x) (fun e' => hrbI p c fr e he (by rw [← e']; exact hx))]
  exact hx
end Go.Proofs.YtiempdpjcddgfaaDoor
end
section
/- The maker of hauls. -/
set_option linter.unusedSimpArgs false
set_option maxRecDepth 100000
set_option maxHeartbeats 1000000
set_option linter.unusedVariables false
namespace Go.Proofs.YtiempdpjcddgfaaDoor
open Go Go.X
set_option linter.defProp false
def y4_17 := And.intro (fun H => ex_alloc (H := H) (P := Tryd.prog) (h := Tryd.zeroValue29)) (And.intro @callF10 (And.intro (fun H => fieldAt_eq (H := H) Tryd.underlying29 (i := 0) rfl (off := 0) rfl Tryd.sizeOf25) (And.intro (fun H => storeAt_agg (H := H) Tryd.sizeOf25) (And.intro (fun H => fieldAt_eq (H := H) Tryd.underlying29 (i := 1) rfl (off := 4) rfl Tryd.sizeOf22) (And.intro (fun H => storeAt_slice (H := H) Tryd.sizeOf22) (And.intro @callF11 (And.intro (fun H => fieldAt_eq (H := H) Tryd.underlying29 (i := 2) rfl (off := 5) rfl Tryd.sizeOf3) (And.intro (fun H => storeAt_int (H := H) Tryd.sizeOf3) (And.intro (fun H => fieldAt_eq (H := H) Tryd.underlying25 (i := 3) rfl (off := 3) rfl Tryd.sizeOf23) (And.intro (fun H => loadAt_one (H := H) Tryd.underlying23 rfl) (And.intro (fun H => len_slice (H := H) Tryd.underlying23) (And.intro (fun H => fieldAt_eq (H := H) Tryd.underlying29 (i := 3) rfl (off := 6) rfl Tryd.sizeOf22) (And.intro (fun H => loadAt_one (H := H) Tryd.underlying22 rfl) (And.intro @lit_22_1_0_0 (And.intro @lit_22_4_0_1_2_3_0 (And.intro @callF12 (And.intro @lit_22_2_0_1_0 (And.intro @callF13 (And.intro (fun H => fieldAt_eq (H := H) Tryd.underlying29 (i := 4) rfl (off := 7) rfl Tryd.sizeOf3) (And.intro (fun H => fieldAt_eq (H := H) Tryd.underlying29 (i := 5) rfl (off := 8) rfl Tryd.sizeOf3) (And.intro (fun H => fieldAt_eq (H := H) Tryd.underlying29 (i := 6) rfl (off := 9) rfl Tryd.sizeOf3) (And.intro @lit_22_3_0_1_2_0 (And.intro @callF14 (And.intro (fun H => fieldAt_eq (H := H) Tryd.underlying29 (i := 7) rfl (off := 10) rfl Tryd.sizeOf27) (And.intro (fun H => storeAt_agg (H := H) Tryd.sizeOf27) (And.intro (fun H => loadAt_aggE (H := H) Tryd.underlying29 rfl Tryd.sizeOf29) (fun H => storeAt_agg (H := H) Tryd.sizeOf29)))))))))))))))))))))))))))
def y5_17 := @bld_50_0_2_0

theorem RowX.own {t : Option Nat} {H₀ H : Hp} {v : Value} {e e' : TypeId} {cs : List Value} (h : RowX t H₀ H v e cs) {x : Nat} {p : Bool} {c' : Array Value} {fr : Nat × Nat} (hx0 : H₀ x = none) (hx : H x = some (p, .cells c' e' fr)) (he : e' ≠ e) {o : Obj} : RowX t H₀ (H.set x o) v e cs := by
  refine ⟨h.1.own hx0, h.2.imp id ?_⟩
  rintro ⟨b, c, cap, h0, h1, h2, h3, h4, h5⟩
  refine ⟨b, c, cap, h0, ?_, h2, h3, h4, h5⟩
  rw [set_ne (H := H) (b := x) (b' := b) (fun e'' => ?_)]
  · exact h1
  · rw [e'', hx] at h1
    simp only [Option.some.injEq, Prod.mk.injEq, Obj.cells.injEq] at h1
    exact he h1.2.2.1

/-- Memory without a block. -/
def drop (H : Hp) (b : Nat) : Hp := fun x => if x = b then none else H x
theorem drop_at {H : Hp} {b : Nat} : drop H b b = none := by simp [drop]
theorem drop_ne {H : Hp} {b x : Nat} (h : x ≠ b) : drop H b x = H x := by simp [drop, h]
theorem Lex.drop {t : Option Nat} {H H' : Hp} {b : Nat} (h : Lex t H H') (hb : H b = none) : Lex t H (drop H' b) := fun x v hx => by
  rw [drop_ne (fun e => by rw [e, hb] at hx; cases hx)]
  exact h x v hx
theorem drop_le {H : Hp} {b : Nat} : (Go.Proofs.YtiempdpjcddgfaaDoor.drop H b).le H := fun x v hx => by
  by_cases e : x = b
  · rw [e, drop_at] at hx; cases hx
  · rwa [drop_ne e] at hx

/-- A vault's pieces, its calls, a truth. -/
def VT (H : Hp) (sv : Value) (start : List Int) (cv : Value) (xss : List (List Int)) (tv : Value) (ts : List Int) : Prop := SlI H sv start ∧ SlR H cv xss ∧ SlI H tv ts
section
variable {H H' : Hp} {sv : Value} {start : List Int} {cv : Value} {xss : List (List Int)} {tv : Value} {ts : List Int}
theorem VT.move (h : VT H sv start cv xss tv ts) (hl : ∀ x p c fr e, (e = 3 ∨ e = 22) → H x = some (p, .cells c e fr) → H' x = some (p, .cells c e fr)) : VT H' sv start cv xss tv ts :=
  ⟨h.1.move fun _ _ _ _ hx => hl _ _ _ _ _ (.inl rfl) hx, h.2.1.move hl, h.2.2.move fun _ _ _ _ hx => hl _ _ _ _ _ (.inl rfl) hx⟩
theorem VT.set (h : VT H sv start cv xss tv ts) {b : Nat} {p : Bool} {c : Array Value} {e : TypeId} {fr : Nat × Nat} (hb : H b = some (p, .cells c e fr)) (h1 : e ≠ 3) (h2 : e ≠ 22) {o : Obj} : VT (H.set b o) sv start cv xss tv ts :=
  h.move fun x p' c' fr' e' he hx => by
    rw [set_ne (H := H) (b := b) (b' := x) (fun e'' => ?_)]
    · exact hx
    · rw [e'', hb] at hx
      simp only [Option.some.injEq, Prod.mk.injEq, Obj.cells.injEq] at hx
      rcases he with he | he
      · exact h1 (hx.2.2.1.trans he)
      · exact h2 (hx.2.2.1.trans he)
theorem VT.drop (h : VT H sv start cv xss tv ts) {b : Nat} {p : Bool} {c : Array Value} {e : TypeId} {fr : Nat × Nat} (hb : H b = some (p, .cells c e fr)) (h1 : e ≠ 3) (h2 : e ≠ 22) : VT (Go.Proofs.YtiempdpjcddgfaaDoor.drop H b) sv start cv xss tv ts :=
  h.move fun x p' c' fr' e' he hx => by
    rw [drop_ne (fun e'' => ?_)]
    · exact hx
    · rw [e'', hb] at hx
      simp only [Option.some.injEq, Prod.mk.injEq, Obj.cells.injEq] at hx
      rcases he with he | he
      · exact h1 (hx.2.2.1.trans he)
      · exact h2 (hx.2.2.1.trans he)
theorem VT.lex (h : VT H sv start cv xss tv ts) {b k : Nat} (hl : Lex (some b) H H') (hT : TinI H b k) : VT H' sv start cv xss tv ts := ⟨h.1.lex hl hT, h.2.1.lex hl hT, h.2.2.lex hl hT⟩
theorem VT.le (h : VT H sv start cv xss tv ts) (hl : H.le H') : VT H' sv start cv xss tv ts := h.move fun _ _ _ _ _ _ hx => hl _ _ hx
end
theorem TinI.drop {H : Hp} {b k x : Nat} (h : TinI H b k) {o : Obj} (hx : H x = some (true, o)) (hn : x ≠ b) : TinI (drop H x) b k := by
  obtain ⟨sa, sl, sc, g, st, h1, h2, h3, h4⟩ := h
  refine ⟨sa, sl, sc, g, st, by rw [drop_ne hn.symm]; exact h1, h2, h3, fun i hi => ?_⟩
  obtain ⟨sb, so, c, e, fr, y, ha, hs, hy⟩ := h4 i hi
  exact ⟨sb, so, c, e, fr, y, ha, by rw [drop_ne (fun e' => by rw [e', hx] at hs; cases hs)]; exact hs, hy⟩

/-- The minutes of calls. -/
def TimesOk (n : Nat) (ts : List Int) : Prop := ts.length = n ∧ ts.Pairwise (· ≤ ·) ∧ ∀ x ∈ ts, 0 ≤ x ∧ x ≤ 99

theorem haulOf_spec (m : Bool) (H : Hp) (b k : Nat) (hT : TinI H b (k + 200)) :
    FnX Tryd.prog m 4 #[.pointer (some ⟨b, 0, none⟩), .int .i64 7] H fun e H' => ∃ places pieces st start cv xss tv ts rule xv xs notice load barrows lo hi,
      e = .returned (.agg #[.int .i64 places, .int .i64 pieces, st, cv, tv, .int .i64 rule, xv, .int .i64 notice, .int .i64 load, .int .i64 barrows, .int .i64 lo, .int .i64 hi]) ∧
      SlI H' st start ∧ SlR H' cv xss ∧ SlI H' tv ts ∧ SlI H' xv xs ∧ VaultOk places pieces start xss ∧ xss.length ≤ 7 ∧ TruthOk xss ts ∧ TimesOk xss.length xs ∧ 0 ≤ notice ∧ notice ≤ 30 ∧ 1 ≤ load ∧ load ≤ 3 ∧ 1 ≤ barrows ∧ barrows ≤ 4 ∧ 1 ≤ lo ∧ lo ≤ hi ∧ hi ≤ 20 ∧
      Lex (some b) H H' ∧ TinI H' b k := by
  refine FnX_start Tryd.func4 rfl Tryd.ntmps4 (by simp) ?_
  (refine wpX_stmt ?_; intro K hK; simp -implicitDefEqProofs (disch := first | omega | (simp only [qd] <;> omega)) only [xq, ↓xp, qc, Nat.reduceAdd, List.range, List.range.loop, fine, Nat.reduceEqDiff, ↓reduceIte, yielded, reduceCtorEq, Nat.reduceLT, Nat.reduceMul, Nat.reduceSub, one, Nat.reduceLeDiff, runX_cons, y4_17])
  intro rb hrb
  refine hK _ _ ?_; clear hK K
  (refine wpX_stmt ?_; intro K hK; simp -implicitDefEqProofs (disch := first | omega | (simp only [qd] <;> omega)) only [xq, ↓xp, qc, Nat.reduceAdd, List.range, List.range.loop, fine, Nat.reduceEqDiff, ↓reduceIte, yielded, reduceCtorEq, Nat.reduceLT, Nat.reduceMul, Nat.reduceSub, one, Nat.reduceLeDiff, runX_cons, y4_17])
  intro hb hhb
  refine hK _ _ ?_; clear hK K
  have hrbn := hT.ne hrb
  have hT1 := hT.new hrb (o := .cells #[.int .i64 0, .int .i64 0, .slice none 0 0, .slice none 0 0, .slice none 0 0, .int .i64 0, .slice none 0 0, .int .i64 0, .int .i64 0, .int .i64 0, .int .i64 0, .int .i64 0] 29 (0, 0))
  have hT2 := hT1.new hhb (o := .cells #[.int .i64 0, .int .i64 0, .slice none 0 0, .slice none 0 0, .slice none 0 0, .int .i64 0, .slice none 0 0, .int .i64 0, .int .i64 0, .int .i64 0, .int .i64 0, .int .i64 0] 29 (0, 0))
  have hhbn := hT1.ne hhb
  (refine wpX_stmt ?_; intro K hK; simp -implicitDefEqProofs (disch := first | omega | (simp only [qd] <;> omega)) only [xq, ↓xp, qc, Nat.reduceAdd, List.range, List.range.loop, fine, Nat.reduceEqDiff, ↓reduceIte, yielded, reduceCtorEq, Nat.reduceLT, Nat.reduceMul, Nat.reduceSub, one, Nat.reduceLeDiff, runX_cons, y4_17])
  refine (vaultOf_spec m _ b (k + 110) 7 2 (by omega) (by omega) (by omega) (by exact hT2.less (by omega))).runs.mono ?_
  rintro _ H3 ⟨places, pieces, st, start, cv, xss, tv, ts, rfl, hst, hcv, hts, hvok, hxl, htok, hl3, hT3⟩
  have hhb3 := hl3.keeps set_at hhbn
  obtain ⟨sa, sc, rfl, hsc, hsi⟩ := hst
  obtain ⟨ca, cc, rfl, hcc, hci⟩ := hcv
  obtain ⟨ta, tc, rfl, htc, hti⟩ := hts
  simp -implicitDefEqProofs (disch := first | omega | (simp only [qd] <;> omega)) only [xq, ↓xp, qc, Nat.reduceAdd, List.range, List.range.loop, fine, Nat.reduceEqDiff, ↓reduceIte, yielded, reduceCtorEq, Nat.reduceLT, Nat.reduceMul, Nat.reduceSub, one, Nat.reduceLeDiff, runX_cons, y4_17, storL_of hhb3, stor_at hhb3]
  refine hK _ _ ?_; clear hK K
  have hvt3 : VT H3 (.slice sa start.length sc) start (.slice ca xss.length cc) xss (.slice ta ts.length tc) ts := ⟨⟨sa, sc, rfl, hsc, hsi⟩, ⟨ca, cc, rfl, hcc, hci⟩, ⟨ta, tc, rfl, htc, hti⟩⟩
  have hvt4 := hvt3.set hhb3 (by decide) (by decide) (o := .cells #[.int .i64 places, .int .i64 pieces, .slice sa start.length sc, .slice ca xss.length cc, .slice ta ts.length tc, .int .i64 0, .slice none 0 0, .int .i64 0, .int .i64 0, .int .i64 0, .int .i64 0, .int .i64 0] 29 (0, 0))
  have hT4 := hT3.own hhb3 hhbn.symm (o' := .cells #[.int .i64 places, .int .i64 pieces, .slice sa start.length sc, .slice ca xss.length cc, .slice ta ts.length tc, .int .i64 0, .slice none 0 0, .int .i64 0, .int .i64 0, .int .i64 0, .int .i64 0, .int .i64 0] 29 (0, 0))
  have hl4 := ((Lex.refl.new hhb).trans hl3).own hhb (o := .cells #[.int .i64 places, .int .i64 pieces, .slice sa start.length sc, .slice ca xss.length cc, .slice ta ts.length tc, .int .i64 0, .slice none 0 0, .int .i64 0, .int .i64 0, .int .i64 0, .int .i64 0, .int .i64 0] 29 (0, 0))
  have hhb4 : (H3.set hb (.cells #[.int .i64 places, .int .i64 pieces, .slice sa start.length sc, .slice ca xss.length cc, .slice ta ts.length tc, .int .i64 0, .slice none 0 0, .int .i64 0, .int .i64 0, .int .i64 0, .int .i64 0, .int .i64 0] 29 (0, 0))) hb = _ := set_at
  generalize (H3.set hb (.cells #[.int .i64 places, .int .i64 pieces, .slice sa start.length sc, .slice ca xss.length cc, .slice ta ts.length tc, .int .i64 0, .slice none 0 0, .int .i64 0, .int .i64 0, .int .i64 0, .int .i64 0, .int .i64 0] 29 (0, 0))) = H4 at *
  (refine wpX_stmt ?_; intro K hK; simp -implicitDefEqProofs (disch := first | omega | (simp only [qd] <;> omega)) only [xq, ↓xp, qc, Nat.reduceAdd, List.range, List.range.loop, fine, Nat.reduceEqDiff, ↓reduceIte, yielded, reduceCtorEq, Nat.reduceLT, Nat.reduceMul, Nat.reduceSub, one, Nat.reduceLeDiff, runX_cons, y4_17])
  refine (uptoL m H4 b (k + 109) 3 (by omega) (hT4.less (by omega))).runs.mono ?_
  rintro _ H5 ⟨rule, hru0, hru1, rfl, hl5, hT5⟩
  have hhb5 := hl5.keeps hhb4 hhbn
  simp -implicitDefEqProofs (disch := first | omega | (simp only [qd] <;> omega)) only [xq, ↓xp, qc, Nat.reduceAdd, List.range, List.range.loop, fine, Nat.reduceEqDiff, ↓reduceIte, yielded, reduceCtorEq, Nat.reduceLT, Nat.reduceMul, Nat.reduceSub, one, Nat.reduceLeDiff, runX_cons, y4_17, stor_at hhb5]
  refine hK _ _ ?_; clear hK K
  have hvt6 := (hvt4.lex hl5 hT4).set hhb5 (by decide) (by decide) (o := .cells #[.int .i64 places, .int .i64 pieces, .slice sa start.length sc, .slice ca xss.length cc, .slice ta ts.length tc, .int .i64 rule, .slice none 0 0, .int .i64 0, .int .i64 0, .int .i64 0, .int .i64 0, .int .i64 0] 29 (0, 0))
  have hT6 := hT5.own hhb5 hhbn.symm (o' := .cells #[.int .i64 places, .int .i64 pieces, .slice sa start.length sc, .slice ca xss.length cc, .slice ta ts.length tc, .int .i64 rule, .slice none 0 0, .int .i64 0, .int .i64 0, .int .i64 0, .int .i64 0, .int .i64 0] 29 (0, 0))
  have hl6 := (hl4.trans hl5).own hhb (o := .cells #[.int .i64 places, .int .i64 pieces, .slice sa start.length sc, .slice ca xss.length cc, .slice ta ts.length tc, .int .i64 rule, .slice none 0 0, .int .i64 0, .int .i64 0, .int .i64 0, .int .i64 0, .int .i64 0] 29 (0, 0))
  have hhb6 : (H5.set hb (.cells #[.int .i64 places, .int .i64 pieces, .slice sa start.length sc, .slice ca xss.length cc, .slice ta ts.length tc, .int .i64 rule, .slice none 0 0, .int .i64 0, .int .i64 0, .int .i64 0, .int .i64 0, .int .i64 0] 29 (0, 0))) hb = _ := set_at
  generalize (H5.set hb (.cells #[.int .i64 places, .int .i64 pieces, .slice sa start.length sc, .slice ca xss.length cc, .slice ta ts.length tc, .int .i64 rule, .slice none 0 0, .int .i64 0, .int .i64 0, .int .i64 0, .int .i64 0, .int .i64 0] 29 (0, 0))) = H6 at *
  (refine wpX_stmt ?_; intro K hK; simp -implicitDefEqProofs (disch := first | omega | (simp only [qd] <;> omega)) only [xq, ↓xp, qc, Nat.reduceAdd, List.range, List.range.loop, fine, Nat.reduceEqDiff, ↓reduceIte, yielded, reduceCtorEq, Nat.reduceLT, Nat.reduceMul, Nat.reduceSub, one, Nat.reduceLeDiff, runX_cons, y4_17])
  refine (uptoL m H6 b (k + 108) 10 (by omega) (hT6.less (by omega))).runs.mono ?_
  rintro _ H7 ⟨at0, hat0, hat1, rfl, hl7, hT7⟩
  have hhb7 := hl7.keeps hhb6 hhbn
  have hvt7 := hvt6.lex hl7 hT6
  have hl7' := hl6.trans hl7
  simp -implicitDefEqProofs (disch := first | omega | (simp only [qd] <;> omega)) only [xq, ↓xp, qc, Nat.reduceAdd, List.range, List.range.loop, fine, Nat.reduceEqDiff, ↓reduceIte, yielded, reduceCtorEq, Nat.reduceLT, Nat.reduceMul, Nat.reduceSub, one, Nat.reduceLeDiff, runX_cons, y4_17]
  refine hK _ _ ?_; clear hK K
  have hrhb : rb ≠ hb := fun e => by rw [← e, set_at] at hhb; cases hhb
  have hrb7 := hl7'.keeps set_at hrbn
  have hvtB := hvt7.drop hhb7 (by decide) (by decide)
  have hTB := hT7.drop hhb7 hhbn
  have hlB := hl7'.drop hhb
  have hrbB : drop H7 hb rb = _ := (drop_ne hrhb).trans hrb7
  have hBle : (drop H7 hb).le H7 := drop_le
  have hB0 : drop H7 hb hb = none := drop_at
  generalize drop H7 hb = B at *
  refine wpX_seq ?_
  (refine wpX_stmt ?_; intro K hK; simp -implicitDefEqProofs (disch := first | omega | (simp only [qd] <;> omega)) only [xq, ↓xp, qc, Nat.reduceAdd, List.range, List.range.loop, fine, Nat.reduceEqDiff, ↓reduceIte, yielded, reduceCtorEq, Nat.reduceLT, Nat.reduceMul, Nat.reduceSub, one, Nat.reduceLeDiff, runX_cons, y4_17]; refine hK _ _ ?_; clear hK K)
  refine wpX_block (wpX_loop (fun w a' H' => ∃ e j at' xv xs, w = xss.length - j ∧ j ≤ xss.length ∧ a' = act 64 e [] ∧ e 0 = .pointer (some ⟨b, 0, none⟩) ∧ e 4 = .pointer (some ⟨rb, 0, none⟩) ∧ e 5 = .pointer (some ⟨hb, 0, none⟩) ∧ e 6 = .int .i64 at' ∧ e 7 = .int .i64 (j : Nat) ∧
    H' hb = some (true, .cells #[.int .i64 places, .int .i64 pieces, .slice sa start.length sc, .slice ca xss.length cc, .slice ta ts.length tc, .int .i64 rule, xv, .int .i64 0, .int .i64 0, .int .i64 0, .int .i64 0, .int .i64 0] 29 (0, 0)) ∧ RowX (some b) B H' xv 3 (ints xs) ∧ xs.length = j ∧ xs.Pairwise (· ≤ ·) ∧ (∀ x ∈ xs, 0 ≤ x ∧ x ≤ at') ∧ 0 ≤ at' ∧ at' ≤ 10 + 9 * j ∧ TinI H' b (k + 80 + 2 * (xss.length - j))) (n := xss.length) ?_ ?_)
  · exact ⟨_, 0, at0, _, [], by omega, by omega, rfl, rfl, rfl, rfl, rfl, rfl, hhb7, ⟨Lex.of hBle, .inl ⟨rfl, rfl⟩⟩, rfl, by simp, by simp, hat0, by omega, hT7.less (by omega)⟩
  · rintro w a' H' ⟨e, j, at', xv, xs, rfl, hj, rfl, e0, e4, e5, e6, e7, hh, hrow, hxsl, hasc, hxb, hat', hat'', hT'⟩
    obtain ⟨xa, xc, rfl⟩ := hrow.len
    refine wpX_seq ?_
    (refine wpX_stmt ?_; intro K hK; simp -implicitDefEqProofs (disch := first | omega | (simp only [qd] <;> omega)) only [xq, ↓xp, qc, Nat.reduceAdd, List.range, List.range.loop, fine, Nat.reduceEqDiff, ↓reduceIte, yielded, reduceCtorEq, Nat.reduceLT, Nat.reduceMul, Nat.reduceSub, one, Nat.reduceLeDiff, runX_cons, y4_17, e5, e7, cell_of hh, exists_eq_left']; refine hK _ _ ?_; clear hK K)
    refine wpX_cond (by simp -implicitDefEqProofs (disch := first | omega | (simp only [qd] <;> omega)) only [act_eval, upd_get, Nat.reduceEqDiff, ↓reduceIte]; rfl) ?_
    by_cases hlt : j < xss.length
    · simp only [Int.ofNat_lt, hlt, decide_true, if_true]
      refine wpX_skip (wpX_seq (wpX_block ?_))
      (refine wpX_stmt ?_; intro K hK; simp -implicitDefEqProofs (disch := first | omega | (simp only [qd] <;> omega)) only [xq, ↓xp, qc, Nat.reduceAdd, List.range, List.range.loop, fine, Nat.reduceEqDiff, ↓reduceIte, yielded, reduceCtorEq, Nat.reduceLT, Nat.reduceMul, Nat.reduceSub, one, Nat.reduceLeDiff, runX_cons, y4_17, e5, e6, cell_of hh, exists_eq_left'])
      intro gb hgb
      refine append_i hrow hgb (by omega) _ _ _ _ ?_
      intro v' H8 hr8 ho8
      obtain ⟨va, vc, rfl⟩ := hr8.len
      have hh8 := ho8.cells hh (by decide)
      have hT8 := ho8.tin (by decide) hT'
      simp -implicitDefEqProofs (disch := first | omega | (simp only [qd] <;> omega)) only [xq, ↓xp, qc, Nat.reduceAdd, List.range, List.range.loop, fine, Nat.reduceEqDiff, ↓reduceIte, yielded, reduceCtorEq, Nat.reduceLT, Nat.reduceMul, Nat.reduceSub, one, Nat.reduceLeDiff, runX_cons, y4_17, e5, stor_at hh8]
      refine hK _ _ ?_; clear hK K
      have hh9 : (H8.set hb (.cells #[.int .i64 places, .int .i64 pieces, .slice sa start.length sc, .slice ca xss.length cc, .slice ta ts.length tc, .int .i64 rule, .slice va (ints (xs ++ [at'])).length vc, .int .i64 0, .int .i64 0, .int .i64 0, .int .i64 0, .int .i64 0] 29 (0, 0))) hb = _ := set_at
      have hr9 := hr8.own hB0 hh8 (by decide) (o := .cells #[.int .i64 places, .int .i64 pieces, .slice sa start.length sc, .slice ca xss.length cc, .slice ta ts.length tc, .int .i64 rule, .slice va (ints (xs ++ [at'])).length vc, .int .i64 0, .int .i64 0, .int .i64 0, .int .i64 0, .int .i64 0] 29 (0, 0))
      have hT9 := hT8.own hh8 hhbn.symm (o' := .cells #[.int .i64 places, .int .i64 pieces, .slice sa start.length sc, .slice ca xss.length cc, .slice ta ts.length tc, .int .i64 rule, .slice va (ints (xs ++ [at'])).length vc, .int .i64 0, .int .i64 0, .int .i64 0, .int .i64 0, .int .i64 0] 29 (0, 0))
      generalize H8.set hb (.cells #[.int .i64 places, .int .i64 pieces, .slice sa start.length sc, .slice ca xss.length cc, .slice ta ts.length tc, .int .i64 rule, .slice va (ints (xs ++ [at'])).length vc, .int .i64 0, .int .i64 0, .int .i64 0, .int .i64 0, .int .i64 0] 29 (0, 0)) = H9 at *
      refine wpX_last ?_; intro K hK
      simp -implicitDefEqProofs (disch := first | omega | (simp only [qd] <;> omega)) only [xq, ↓xp, qc, Nat.reduceAdd, List.range, List.range.loop, fine, Nat.reduceEqDiff, ↓reduceIte, yielded, reduceCtorEq, Nat.reduceLT, Nat.reduceMul, Nat.reduceSub, one, Nat.reduceLeDiff, runX_cons, y4_17, e0, e6]
      refine (uptoL m H9 b (k + 80 + 2 * (xss.length - (j + 1)) + 1) 9 (by omega) (hT9.less (by omega))).runs.mono ?_
      rintro _ H10 ⟨u, hu0, hu1, rfl, hl10, hT10⟩
      simp -implicitDefEqProofs (disch := first | omega | (simp only [qd] <;> omega)) only [xq, ↓xp, qc, Nat.reduceAdd, List.range, List.range.loop, fine, Nat.reduceEqDiff, ↓reduceIte, yielded, reduceCtorEq, Nat.reduceLT, Nat.reduceMul, Nat.reduceSub, one, Nat.reduceLeDiff, runX_cons, y4_17, e0, e6]
      intro g2 hg2
      refine (eitherL m _ b (k + 80 + 2 * (xss.length - (j + 1))) _ [0, 1, 2, u] (by exact SlI.lit (vs := [_, _, _, _]) _ rfl rfl) (by simp) (by simp) (by exact hT10.new hg2)).runs.mono ?_
      rintro _ H11 ⟨d, hd, rfl, hl11, hT11⟩
      have hd' : 0 ≤ d ∧ d ≤ 9 := by simp at hd; omega
      simp -implicitDefEqProofs (disch := first | omega | (simp only [qd] <;> omega)) only [xq, ↓xp, qc, Nat.reduceAdd, List.range, List.range.loop, fine, Nat.reduceEqDiff, ↓reduceIte, yielded, reduceCtorEq, Nat.reduceLT, Nat.reduceMul, Nat.reduceSub, one, Nat.reduceLeDiff, runX_cons, y4_17]
      refine hK _ _ ?_; clear hK K
      simp -implicitDefEqProofs (disch := first | omega | (simp only [qd] <;> omega)) only [thn, blk, ↓reduceIte, Nat.reduceEqDiff]
      (refine wpX_last ?_; intro K hK; simp -implicitDefEqProofs (disch := first | omega | (simp only [qd] <;> omega)) only [xq, ↓xp, qc, Nat.reduceAdd, List.range, List.range.loop, fine, Nat.reduceEqDiff, ↓reduceIte, yielded, reduceCtorEq, Nat.reduceLT, Nat.reduceMul, Nat.reduceSub, one, Nat.reduceLeDiff, runX_cons, y4_17, e7]; refine hK _ _ ?_; clear hK K)
      simp -implicitDefEqProofs (disch := first | omega | (simp only [qd] <;> omega)) only [thn, blk, ↓reduceIte, Nat.reduceEqDiff]
      have hL := (hl10.new hg2 (o := .cells #[.int .i64 0, .int .i64 1, .int .i64 2, .int .i64 u] 3 (0, 0))).trans hl11
      refine ⟨_, ?_, _, j + 1, at' + d, _, xs ++ [at'], rfl, hlt, rfl, e0, e4, e5, rfl, rfl, hL.keeps hh9 hhbn, hr9.lex hL (hT9.notI (by decide)), by simp [hxsl], ?_, ?_, by omega, by omega, hT11⟩
      · omega
      · rw [List.pairwise_append]
        refine ⟨hasc, by simp, fun x hx y hy => ?_⟩
        simp at hy
        have := hxb x hx
        omega
      · intro x hx
        rcases List.mem_append.1 hx with hx | hx
        · have := hxb x hx; omega
        · simp at hx; omega
    · simp only [Int.ofNat_lt, hlt, decide_false, Bool.false_eq_true, if_false]
      (refine wpX_exit ?_; simp only [thn, blk, ↓reduceIte, Nat.reduceEqDiff])
      have hje : j = xss.length := by omega
      have hvt12 := hvtB.lex hrow.1 hTB
      have hrb12 := hrow.1.keeps hrbB hrbn
      have hsx12 := hrow.ints
      have hl12 := hlB.trans hrow.1
      have hT12 : TinI H' b (k + 20) := hT'.less (by omega)
      -- notice, load, barrows
      (refine wpX_stmt ?_; intro K hK; simp -implicitDefEqProofs (disch := first | omega | (simp only [qd] <;> omega)) only [xq, ↓xp, qc, Nat.reduceAdd, List.range, List.range.loop, fine, Nat.reduceEqDiff, ↓reduceIte, yielded, reduceCtorEq, Nat.reduceLT, Nat.reduceMul, Nat.reduceSub, one, Nat.reduceLeDiff, runX_cons, y4_17, e0])
      refine (uptoL m H' b (k + 19) 10 (by omega) hT12).runs.mono ?_
      rintro _ H13 ⟨u1, hu10, hu11, rfl, hl13, hT13⟩
      simp -implicitDefEqProofs (disch := first | omega | (simp only [qd] <;> omega)) only [xq, ↓xp, qc, Nat.reduceAdd, List.range, List.range.loop, fine, Nat.reduceEqDiff, ↓reduceIte, yielded, reduceCtorEq, Nat.reduceLT, Nat.reduceMul, Nat.reduceSub, one, Nat.reduceLeDiff, runX_cons, y4_17, e0]
      refine (uptoL m H13 b (k + 18) 30 (by omega) hT13).runs.mono ?_
      rintro _ H14 ⟨u2, hu20, hu21, rfl, hl14, hT14⟩
      simp -implicitDefEqProofs (disch := first | omega | (simp only [qd] <;> omega)) only [xq, ↓xp, qc, Nat.reduceAdd, List.range, List.range.loop, fine, Nat.reduceEqDiff, ↓reduceIte, yielded, reduceCtorEq, Nat.reduceLT, Nat.reduceMul, Nat.reduceSub, one, Nat.reduceLeDiff, runX_cons, y4_17, e0]
      intro g1 hg1
      refine (eitherL m _ b (k + 17) _ [u1, u2] (by exact SlI.lit (vs := [_, _]) _ rfl rfl) (by simp) (by simp) (by exact hT14.new hg1)).runs.mono ?_
      rintro _ H15 ⟨notice, hno, rfl, hl15, hT15⟩
      have hno' : 0 ≤ notice ∧ notice ≤ 30 := by simp at hno; omega
      simp -implicitDefEqProofs (disch := first | omega | (simp only [qd] <;> omega)) only [xq, ↓xp, qc, Nat.reduceAdd, List.range, List.range.loop, fine, Nat.reduceEqDiff, ↓reduceIte, yielded, reduceCtorEq, Nat.reduceLT, Nat.reduceMul, Nat.reduceSub, one, Nat.reduceLeDiff, runX_cons, y4_17, e0]
      refine (withinL m _ b (k + 16) 1 3 (by omega) (by omega) (by omega) (by omega) hT15).runs.mono ?_
      rintro _ H16 ⟨load, hlo0, hlo1, rfl, hl16, hT16⟩
      simp -implicitDefEqProofs (disch := first | omega | (simp only [qd] <;> omega)) only [xq, ↓xp, qc, Nat.reduceAdd, List.range, List.range.loop, fine, Nat.reduceEqDiff, ↓reduceIte, yielded, reduceCtorEq, Nat.reduceLT, Nat.reduceMul, Nat.reduceSub, one, Nat.reduceLeDiff, runX_cons, y4_17, e0]
      intro g2 hg2
      refine (eitherL m _ b (k + 15) _ [1, 1, 2, 4] (by exact SlI.lit (vs := [_, _, _, _]) _ rfl rfl) (by simp) (by simp) (by exact hT16.new hg2)).runs.mono ?_
      rintro _ H17 ⟨barrows, hba, rfl, hl17, hT17⟩
      have hba' : 1 ≤ barrows ∧ barrows ≤ 4 := by simp at hba; omega
      have hL := ((((hl13.trans hl14).new hg1 (o := .cells #[.int .i64 u1, .int .i64 u2] 3 (0, 0))).trans hl15).trans hl16).new hg2 (o := .cells #[.int .i64 1, .int .i64 1, .int .i64 2, .int .i64 4] 3 (0, 0)) |>.trans hl17
      have hh17 := hL.keeps hh hhbn
      simp -implicitDefEqProofs (disch := first | omega | (simp only [qd] <;> omega)) only [xq, ↓xp, qc, Nat.reduceAdd, List.range, List.range.loop, fine, Nat.reduceEqDiff, ↓reduceIte, yielded, reduceCtorEq, Nat.reduceLT, Nat.reduceMul, Nat.reduceSub, one, Nat.reduceLeDiff, runX_cons, y4_17, e5, stor_at hh17]
      refine hK _ _ ?_; clear hK K
      have hvt18 := (hvt12.lex hL hT12).set hh17 (by decide) (by decide) (o := .cells #[.int .i64 places, .int .i64 pieces, .slice sa start.length sc, .slice ca xss.length cc, .slice ta ts.length tc, .int .i64 rule, .slice xa (ints xs).length xc, .int .i64 notice, .int .i64 load, .int .i64 barrows, .int .i64 0, .int .i64 0] 29 (0, 0))
      have hsx18 := (hsx12.lex hL hT12).set (o := .cells #[.int .i64 places, .int .i64 pieces, .slice sa start.length sc, .slice ca xss.length cc, .slice ta ts.length tc, .int .i64 rule, .slice xa (ints xs).length xc, .int .i64 notice, .int .i64 load, .int .i64 barrows, .int .i64 0, .int .i64 0] 29 (0, 0)) (b := hb) fun p c fr e' => by rw [hh17] at e'; cases e'
      have hrb18 := (set_ne (H := H17) (o := .cells #[.int .i64 places, .int .i64 pieces, .slice sa start.length sc, .slice ca xss.length cc, .slice ta ts.length tc, .int .i64 rule, .slice xa (ints xs).length xc, .int .i64 notice, .int .i64 load, .int .i64 barrows, .int .i64 0, .int .i64 0] 29 (0, 0)) hrhb).trans (hL.keeps hrb12 hrbn)
      have hl18 := (hl12.trans hL).own hhb (o := .cells #[.int .i64 places, .int .i64 pieces, .slice sa start.length sc, .slice ca xss.length cc, .slice ta ts.length tc, .int .i64 rule, .slice xa (ints xs).length xc, .int .i64 notice, .int .i64 load, .int .i64 barrows, .int .i64 0, .int .i64 0] 29 (0, 0))
      have hT18 := hT17.own hh17 hhbn.symm (o' := .cells #[.int .i64 places, .int .i64 pieces, .slice sa start.length sc, .slice ca xss.length cc, .slice ta ts.length tc, .int .i64 rule, .slice xa (ints xs).length xc, .int .i64 notice, .int .i64 load, .int .i64 barrows, .int .i64 0, .int .i64 0] 29 (0, 0))
      have hh18 : (H17.set hb (.cells #[.int .i64 places, .int .i64 pieces, .slice sa start.length sc, .slice ca xss.length cc, .slice ta ts.length tc, .int .i64 rule, .slice xa (ints xs).length xc, .int .i64 notice, .int .i64 load, .int .i64 barrows, .int .i64 0, .int .i64 0] 29 (0, 0))) hb = _ := set_at
      generalize H17.set hb (.cells #[.int .i64 places, .int .i64 pieces, .slice sa start.length sc, .slice ca xss.length cc, .slice ta ts.length tc, .int .i64 rule, .slice xa (ints xs).length xc, .int .i64 notice, .int .i64 load, .int .i64 barrows, .int .i64 0, .int .i64 0] 29 (0, 0)) = H18 at *
      (refine wpX_stmt ?_; intro K hK; simp -implicitDefEqProofs (disch := first | omega | (simp only [qd] <;> omega)) only [xq, ↓xp, qc, Nat.reduceAdd, List.range, List.range.loop, fine, Nat.reduceEqDiff, ↓reduceIte, yielded, reduceCtorEq, Nat.reduceLT, Nat.reduceMul, Nat.reduceSub, one, Nat.reduceLeDiff, runX_cons, y4_17, e0])
      intro g3 hg3
      refine (eitherL m _ b (k + 14) _ [4, 8, 20] (by exact SlI.lit (vs := [_, _, _]) _ rfl rfl) (by simp) (by simp) (by exact (hT18.new hg3).less (by omega))).runs.mono ?_
      rintro _ H19 ⟨hm, hhm, rfl, hl19, hT19⟩
      have hhm' : 4 ≤ hm ∧ hm ≤ 20 := by simp at hhm; omega
      simp -implicitDefEqProofs (disch := first | omega | (simp only [qd] <;> omega)) only [xq, ↓xp, qc, Nat.reduceAdd, List.range, List.range.loop, fine, Nat.reduceEqDiff, ↓reduceIte, yielded, reduceCtorEq, Nat.reduceLT, Nat.reduceMul, Nat.reduceSub, one, Nat.reduceLeDiff, runX_cons, y4_17, e0]
      refine (bandIn_spec m _ b (k + 12) 1 hm (by omega) (by omega) (by omega) (by exact hT19.less (by omega))).runs.mono ?_
      rintro _ H20 ⟨lo, hi, hb1, hb2, hb3, rfl, hl20, hT20⟩
      have hL2 := ((Lex.refl.new hg3 (o := .cells #[.int .i64 4, .int .i64 8, .int .i64 20] 3 (0, 0))).trans hl19).trans hl20
      have hh20 := hL2.keeps hh18 hhbn
      simp -implicitDefEqProofs (disch := first | omega | (simp only [qd] <;> omega)) only [xq, ↓xp, qc, Nat.reduceAdd, List.range, List.range.loop, fine, Nat.reduceEqDiff, ↓reduceIte, yielded, reduceCtorEq, Nat.reduceLT, Nat.reduceMul, Nat.reduceSub, one, Nat.reduceLeDiff, runX_cons, y4_17, e5, storL_of hh20]
      refine hK _ _ ?_; clear hK K
      have hvt21 := (hvt18.lex hL2 hT18).set hh20 (by decide) (by decide) (o := .cells #[.int .i64 places, .int .i64 pieces, .slice sa start.length sc, .slice ca xss.length cc, .slice ta ts.length tc, .int .i64 rule, .slice xa (ints xs).length xc, .int .i64 notice, .int .i64 load, .int .i64 barrows, .int .i64 lo, .int .i64 hi] 29 (0, 0))
      have hsx21 := (hsx18.lex hL2 hT18).set (o := .cells #[.int .i64 places, .int .i64 pieces, .slice sa start.length sc, .slice ca xss.length cc, .slice ta ts.length tc, .int .i64 rule, .slice xa (ints xs).length xc, .int .i64 notice, .int .i64 load, .int .i64 barrows, .int .i64 lo, .int .i64 hi] 29 (0, 0)) (b := hb) fun p c fr e' => by rw [hh20] at e'; cases e'
      have hrb21 := (set_ne (H := H20) (o := .cells #[.int .i64 places, .int .i64 pieces, .slice sa start.length sc, .slice ca xss.length cc, .slice ta ts.length tc, .int .i64 rule, .slice xa (ints xs).length xc, .int .i64 notice, .int .i64 load, .int .i64 barrows, .int .i64 lo, .int .i64 hi] 29 (0, 0)) hrhb).trans (hL2.keeps hrb18 hrbn)
      have hl21 := (hl18.trans hL2).own hhb (o := .cells #[.int .i64 places, .int .i64 pieces, .slice sa start.length sc, .slice ca xss.length cc, .slice ta ts.length tc, .int .i64 rule, .slice xa (ints xs).length xc, .int .i64 notice, .int .i64 load, .int .i64 barrows, .int .i64 lo, .int .i64 hi] 29 (0, 0))
      have hT21 := hT20.own hh20 hhbn.symm (o' := .cells #[.int .i64 places, .int .i64 pieces, .slice sa start.length sc, .slice ca xss.length cc, .slice ta ts.length tc, .int .i64 rule, .slice xa (ints xs).length xc, .int .i64 notice, .int .i64 load, .int .i64 barrows, .int .i64 lo, .int .i64 hi] 29 (0, 0))
      have hh21 : (H20.set hb (.cells #[.int .i64 places, .int .i64 pieces, .slice sa start.length sc, .slice ca xss.length cc, .slice ta ts.length tc, .int .i64 rule, .slice xa (ints xs).length xc, .int .i64 notice, .int .i64 load, .int .i64 barrows, .int .i64 lo, .int .i64 hi] 29 (0, 0))) hb = _ := set_at
      generalize H20.set hb (.cells #[.int .i64 places, .int .i64 pieces, .slice sa start.length sc, .slice ca xss.length cc, .slice ta ts.length tc, .int .i64 rule, .slice xa (ints xs).length xc, .int .i64 notice, .int .i64 load, .int .i64 barrows, .int .i64 lo, .int .i64 hi] 29 (0, 0)) = H21 at *
      (refine wpX_stmt ?_; intro K hK; simp -implicitDefEqProofs (disch := first | omega | (simp only [qd] <;> omega)) only [xq, ↓xp, qc, Nat.reduceAdd, List.range, List.range.loop, fine, Nat.reduceEqDiff, ↓reduceIte, yielded, reduceCtorEq, Nat.reduceLT, Nat.reduceMul, Nat.reduceSub, one, Nat.reduceLeDiff, runX_cons, y4_17, e5, e4, loadA_at hh21, storL_of hrb21])
      refine hK _ _ ?_; clear hK K
      (refine wpX_ret ?_; (try simp only [nq, ↓reduceIte, Nat.reduceEqDiff]); rw [bodyX_ret, results_cell Tryd.results4 (by decide) (b := rb) (o := 0) ?hcell Tryd.underlying29 rfl Tryd.sizeOf29]; (case hcell => exact e4); simp -implicitDefEqProofs (disch := first | omega | (simp only [qd] <;> omega)) only [xq, ↓xp, qc, Nat.reduceAdd, List.range, List.range.loop, fine, Nat.reduceEqDiff, ↓reduceIte, yielded, reduceCtorEq, Nat.reduceLT, Nat.reduceMul, Nat.reduceSub, one, Nat.reduceLeDiff, runX_cons, y4_17, loadA_set])
      have hvt22 := hvt21.set hrb21 (by decide) (by decide) (o := .cells #[.int .i64 places, .int .i64 pieces, .slice sa start.length sc, .slice ca xss.length cc, .slice ta ts.length tc, .int .i64 rule, .slice xa (ints xs).length xc, .int .i64 notice, .int .i64 load, .int .i64 barrows, .int .i64 lo, .int .i64 hi] 29 (0, 0))
      refine ⟨places, pieces, _, start, _, xss, _, ts, rule, _, xs, notice, load, barrows, lo, hi, rfl, hvt22.1, hvt22.2.1, hvt22.2.2,
        hsx21.set (fun p c fr e' => by rw [hrb21] at e'; cases e'), hvok, hxl, htok, ⟨by omega, hasc, fun x hx => by have := hxb x hx; omega⟩,
        by omega, by omega, by omega, by omega, by omega, by omega, by omega, by omega, by omega, ((Lex.refl.new hrb).trans hl21).own hrb, (hT21.own hrb21 hrbn.symm).less (by omega)⟩

theorem newTin_spec (m : Bool) (H : Hp) (sa : Option Addr) (sl sc : Nat) (hs : ∀ i : Nat, i < sl → ∃ sb so c e fr x, sa = some ⟨sb, so, none⟩ ∧ H sb = some (false, .cells c e fr) ∧ c[so + i]? = some (.int .i64 x)) (k : Nat) (hk : k ≤ 4611686018427387904) :
    FnX Tryd.prog m 5 #[.slice sa sl sc] H fun e H' => ∃ b, e = .returned (.pointer (some ⟨b, 0, none⟩)) ∧ H.le H' ∧ TinI H' b k := by
  refine FnX_start Tryd.func5 rfl Tryd.ntmps5 (by simp) ?_
  (refine wpX_stmt ?_; intro K hK; simp -implicitDefEqProofs (disch := first | omega | (simp only [qd] <;> omega)) only [xq, ↓xp, qc, Nat.reduceAdd, List.range, List.range.loop, fine, Nat.reduceEqDiff, ↓reduceIte, yielded, reduceCtorEq, Nat.reduceLT, Nat.reduceMul, Nat.reduceSub, one, Nat.reduceLeDiff, runX_cons, y5_17]; refine hK _ _ ?_; clear hK K)
  (refine wpX_stmt ?_; intro K hK; simp -implicitDefEqProofs (disch := first | omega | (simp only [qd] <;> omega)) only [xq, ↓xp, qc, Nat.reduceAdd, List.range, List.range.loop, fine, Nat.reduceEqDiff, ↓reduceIte, yielded, reduceCtorEq, Nat.reduceLT, Nat.reduceMul, Nat.reduceSub, one, Nat.reduceLeDiff, runX_cons, y5_17])
  intro b hb
  refine hK _ _ ?_; clear hK K
  (refine wpX_ret ?_; (try simp only [nq, ↓reduceIte, Nat.reduceEqDiff]); rw [bodyX_ret, results_one Tryd.results5 (by decide)]; simp only [upd_get, Nat.reduceEqDiff, ↓reduceIte])
  refine ⟨b, rfl, Hp.le_set hb, sa, sl, sc, 0, _, set_at, by omega, by omega, fun i hi => ?_⟩
  obtain ⟨sb, so, c, e, fr, x, h1, h2, h3⟩ := hs i hi
  exact ⟨sb, so, c, e, fr, x, h1, Hp.le_set hb _ _ h2, h3⟩
end Go.Proofs.YtiempdpjcddgfaaDoor
end
section
/- What is in the office, as bits. -/
set_option linter.unusedSimpArgs false
set_option maxRecDepth 100000
set_option maxHeartbeats 1000000
set_option linter.unusedVariables false
namespace Go.Proofs.YtiempdpjcddgfaaDoor
open Go Go.X
set_option linter.defProp false
def y36_18 := And.intro @callF51 @lit_22_1_0_0
def y38_18 := And.intro (fun H => len_slice (H := H) Tryd.underlying22) (And.intro (fun H => indexAt_slice (H := H) Tryd.underlying22 Tryd.sizeOf3) (And.intro (fun H => loadAt_one (H := H) Tryd.underlying3 rfl) @callF52))

def oWith (m n : Nat) : Nat := m ||| 2 ^ n
def oWithout (m n : Nat) : Nat := m &&& (63 - 2 ^ n)
def oCount (m : Nat) : Nat := (List.range 6).countP fun n => m.testBit n
def oListN (m k : Nat) : List Int := ((List.range k).filter fun n => m.testBit n).map fun n : Nat => (n : Int)
def oList (m : Nat) : List Int := oListN m 6
def oOf (xs : List Int) : Nat := xs.foldl (fun m x => oWith m x.toNat) 0

theorem has_bits : ∀ m : Fin 64, ∀ n : Fin 6, (bitv (fun x a b => a &&& b) IntKind.u8 ((m.val : Int).fdiv (2 ^ min (n.val : Int).toNat IntKind.u8.bits)) 1 == 1) = m.val.testBit (n.val : Int).toNat := by decide +kernel
theorem with_bits : ∀ m : Fin 64, ∀ n : Fin 6, bitv (fun x a b => a ||| b) IntKind.u8 (m.val : Int) (IntKind.u8.wrap (1 * 2 ^ min (n.val : Int).toNat IntKind.u8.bits)) = (oWith m.val (n.val : Int).toNat : Nat) ∧ oWith m.val (n.val : Int).toNat < 64 := by decide +kernel
theorem without_bits : ∀ m : Fin 64, ∀ n : Fin 6, bitv (fun x a b => a &&& ~~~b) IntKind.u8 (m.val : Int) (IntKind.u8.wrap (1 * 2 ^ min (n.val : Int).toNat IntKind.u8.bits)) = (oWithout m.val (n.val : Int).toNat : Nat) ∧ oWithout m.val (n.val : Int).toNat < 64 := by decide +kernel
theorem count_bits : ∀ m : Fin 64, m.val ≠ 0 → bitv (fun x a b => a &&& b) IntKind.u8 (m.val : Int) (IntKind.u8.wrap ((m.val : Int) - 1)) = (m.val &&& (m.val - 1) : Nat) ∧ (m.val &&& (m.val - 1)) < m.val ∧ oCount (m.val &&& (m.val - 1)) + 1 = oCount m.val := by decide +kernel
theorem oCount_bits : ∀ m : Fin 64, oCount m.val ≤ 6 := by decide +kernel
theorem oCount_le (m : Nat) (hm : m < 64) : oCount m ≤ 6 := oCount_bits ⟨m, hm⟩
theorem has_fin {m : Nat} {n : Int} (hm : m < 64) (h0 : 0 ≤ n) (h1 : n < 6) : ∃ (a : Fin 64) (b : Fin 6), a.val = m ∧ (b.val : Int) = n := ⟨⟨m, hm⟩, ⟨n.toNat, by omega⟩, rfl, by simp; omega⟩
theorem oWith_lt {m : Nat} {n : Int} (hm : m < 64) (h0 : 0 ≤ n) (h1 : n < 6) : oWith m n.toNat < 64 := by
  obtain ⟨a, b, rfl, rfl⟩ := has_fin hm h0 h1
  exact (with_bits a b).2
theorem oWithout_lt {m : Nat} {n : Int} (hm : m < 64) (h0 : 0 ≤ n) (h1 : n < 6) : oWithout m n.toNat < 64 := by
  obtain ⟨a, b, rfl, rfl⟩ := has_fin hm h0 h1
  exact (without_bits a b).2

theorem has_spec (main : Bool) (H : Hp) (m : Nat) (n : Int) (hm : m < 64) (h0 : 0 ≤ n) (h1 : n < 6) :
    FnX Tryd.prog main 51 #[.int .u8 m, .int .i64 n] H fun e H' => e = .returned (.bool (m.testBit n.toNat)) ∧ H' = H := by
  refine FnX_start Tryd.func51 rfl Tryd.ntmps51 (by simp) ?_
  (refine wpX_stmt ?_; intro K hK; simp -implicitDefEqProofs (disch := first | omega | (simp only [qd] <;> omega)) only [xq, ↓xp, qc, Nat.reduceAdd, List.range, List.range.loop, fine, Nat.reduceEqDiff, ↓reduceIte, yielded, reduceCtorEq, Nat.reduceLT, Nat.reduceMul, Nat.reduceSub, one, Nat.reduceLeDiff, runX_cons]; refine hK _ _ ?_; clear hK K)
  (refine wpX_stmt ?_; intro K hK; simp -implicitDefEqProofs (disch := first | omega | (simp only [qd] <;> omega)) only [xq, ↓xp, qc, Nat.reduceAdd, List.range, List.range.loop, fine, Nat.reduceEqDiff, ↓reduceIte, yielded, reduceCtorEq, Nat.reduceLT, Nat.reduceMul, Nat.reduceSub, one, Nat.reduceLeDiff, runX_cons]; refine hK _ _ ?_; clear hK K)
  (refine wpX_ret ?_; (try simp only [nq, ↓reduceIte, Nat.reduceEqDiff]); rw [bodyX_ret, results_one Tryd.results51 (by decide)]; simp only [upd_get, Nat.reduceEqDiff, ↓reduceIte])
  obtain ⟨a, b, rfl, rfl⟩ := has_fin hm h0 h1
  exact ⟨by rw [has_bits a b], trivial⟩
theorem with_spec (main : Bool) (H : Hp) (m : Nat) (n : Int) (hm : m < 64) (h0 : 0 ≤ n) (h1 : n < 6) :
    FnX Tryd.prog main 52 #[.int .u8 m, .int .i64 n] H fun e H' => e = .returned (.int .u8 (oWith m n.toNat)) ∧ H' = H := by
  refine FnX_start Tryd.func52 rfl Tryd.ntmps52 (by simp) ?_
  (refine wpX_stmt ?_; intro K hK; simp -implicitDefEqProofs (disch := first | omega | (simp only [qd] <;> omega)) only [xq, ↓xp, qc, Nat.reduceAdd, List.range, List.range.loop, fine, Nat.reduceEqDiff, ↓reduceIte, yielded, reduceCtorEq, Nat.reduceLT, Nat.reduceMul, Nat.reduceSub, one, Nat.reduceLeDiff, runX_cons]; refine hK _ _ ?_; clear hK K)
  (refine wpX_stmt ?_; intro K hK; simp -implicitDefEqProofs (disch := first | omega | (simp only [qd] <;> omega)) only [xq, ↓xp, qc, Nat.reduceAdd, List.range, List.range.loop, fine, Nat.reduceEqDiff, ↓reduceIte, yielded, reduceCtorEq, Nat.reduceLT, Nat.reduceMul, Nat.reduceSub, one, Nat.reduceLeDiff, runX_cons]; refine hK _ _ ?_; clear hK K)
  (refine wpX_ret ?_; (try simp only [nq, ↓reduceIte, Nat.reduceEqDiff]); rw [bodyX_ret, results_one Tryd.results52 (by decide)]; simp only [upd_get, Nat.reduceEqDiff, ↓reduceIte])
  obtain ⟨a, b, rfl, rfl⟩ := has_fin hm h0 h1
  exact ⟨by rw [(with_bits a b).1], trivial⟩
theorem without_spec (main : Bool) (H : Hp) (m : Nat) (n : Int) (hm : m < 64) (h0 : 0 ≤ n) (h1 : n < 6) :
    FnX Tryd.prog main 58 #[.int .u8 m, .int .i64 n] H fun e H' => e = .returned (.int .u8 (oWithout m n.toNat)) ∧ H' = H := by
  refine FnX_start Tryd.func58 rfl Tryd.ntmps58 (by simp) ?_
  (refine wpX_stmt ?_; intro K hK; simp -implicitDefEqProofs (disch := first | omega | (simp only [qd] <;> omega)) only [xq, ↓xp, qc, Nat.reduceAdd, List.range, List.range.loop, fine, Nat.reduceEqDiff, ↓reduceIte, yielded, reduceCtorEq, Nat.reduceLT, Nat.reduceMul, Nat.reduceSub, one, Nat.reduceLeDiff, runX_cons]; refine hK _ _ ?_; clear hK K)
  (refine wpX_stmt ?_; intro K hK; simp -implicitDefEqProofs (disch := first | omega | (simp only [qd] <;> omega)) only [xq, ↓xp, qc, Nat.reduceAdd, List.range, List.range.loop, fine, Nat.reduceEqDiff, ↓reduceIte, yielded, reduceCtorEq, Nat.reduceLT, Nat.reduceMul, Nat.reduceSub, one, Nat.reduceLeDiff, runX_cons]; refine hK _ _ ?_; clear hK K)
  (refine wpX_ret ?_; (try simp only [nq, ↓reduceIte, Nat.reduceEqDiff]); rw [bodyX_ret, results_one Tryd.results58 (by decide)]; simp only [upd_get, Nat.reduceEqDiff, ↓reduceIte])
  obtain ⟨a, b, rfl, rfl⟩ := has_fin hm h0 h1
  exact ⟨by rw [(without_bits a b).1], trivial⟩

theorem count_spec (main : Bool) (H : Hp) (m : Nat) (hm : m < 64) :
    FnX Tryd.prog main 57 #[.int .u8 m] H fun e H' => e = .returned (.int .i64 (oCount m)) ∧ H' = H := by
  refine FnX_start Tryd.func57 rfl Tryd.ntmps57 (by simp) ?_
  (refine wpX_stmt ?_; intro K hK; simp -implicitDefEqProofs (disch := first | omega | (simp only [qd] <;> omega)) only [xq, ↓xp, qc, Nat.reduceAdd, List.range, List.range.loop, fine, Nat.reduceEqDiff, ↓reduceIte, yielded, reduceCtorEq, Nat.reduceLT, Nat.reduceMul, Nat.reduceSub, one, Nat.reduceLeDiff, runX_cons]; refine hK _ _ ?_; clear hK K)
  (refine wpX_stmt ?_; intro K hK; simp -implicitDefEqProofs (disch := first | omega | (simp only [qd] <;> omega)) only [xq, ↓xp, qc, Nat.reduceAdd, List.range, List.range.loop, fine, Nat.reduceEqDiff, ↓reduceIte, yielded, reduceCtorEq, Nat.reduceLT, Nat.reduceMul, Nat.reduceSub, one, Nat.reduceLeDiff, runX_cons]; refine hK _ _ ?_; clear hK K)
  refine wpX_seq ?_
  refine wpX_block (wpX_loop (fun w a' H' => ∃ e j, w < 64 ∧ a' = act 13 e [] ∧ e 0 = .int .u8 (w : Nat) ∧ e 3 = .int .i64 (j : Nat) ∧ j ≤ 6 ∧ j + oCount w = oCount m ∧ H' = H) (n := m) ?_ ?_)
  · exact ⟨_, 0, hm, rfl, rfl, rfl, by omega, by omega, rfl⟩
  · rintro w a' H' ⟨e, j, hw, rfl, e0, e3, hj6, hj, rfl⟩
    refine wpX_seq ?_
    (refine wpX_stmt ?_; intro K hK; simp -implicitDefEqProofs (disch := first | omega | (simp only [qd] <;> omega)) only [xq, ↓xp, qc, Nat.reduceAdd, List.range, List.range.loop, fine, Nat.reduceEqDiff, ↓reduceIte, yielded, reduceCtorEq, Nat.reduceLT, Nat.reduceMul, Nat.reduceSub, one, Nat.reduceLeDiff, runX_cons, e0]; refine hK _ _ ?_; clear hK K)
    refine wpX_cond (by simp -implicitDefEqProofs (disch := first | omega | (simp only [qd] <;> omega)) only [act_eval, upd_get, Nat.reduceEqDiff, ↓reduceIte]; rfl) ?_
    by_cases hz : w = 0
    · subst hz
      simp only [Int.natCast_zero, bne_self_eq_false, decide_false, Bool.false_eq_true, if_false]
      (refine wpX_exit ?_; simp only [thn, blk, ↓reduceIte, Nat.reduceEqDiff])
      (refine wpX_stmt ?_; intro K hK; simp -implicitDefEqProofs (disch := first | omega | (simp only [qd] <;> omega)) only [xq, ↓xp, qc, Nat.reduceAdd, List.range, List.range.loop, fine, Nat.reduceEqDiff, ↓reduceIte, yielded, reduceCtorEq, Nat.reduceLT, Nat.reduceMul, Nat.reduceSub, one, Nat.reduceLeDiff, runX_cons, e3]; refine hK _ _ ?_; clear hK K)
      (refine wpX_ret ?_; (try simp only [nq, ↓reduceIte, Nat.reduceEqDiff]); rw [bodyX_ret, results_one Tryd.results57 (by decide)]; simp only [upd_get, Nat.reduceEqDiff, ↓reduceIte])
      have : oCount 0 = 0 := by decide
      exact ⟨by rw [← hj, this, Nat.add_zero], trivial⟩
    · have hne : ((w : Int) != 0) = true := by simp; omega
      obtain ⟨h1, h2, h3⟩ := count_bits ⟨w, hw⟩ hz
      simp only at h1 h2 h3
      simp only [hne, if_true]
      refine wpX_skip (wpX_seq (wpX_block ?_))
      (refine wpX_last ?_; intro K hK; simp -implicitDefEqProofs (disch := first | omega | (simp only [qd] <;> omega)) only [xq, ↓xp, qc, Nat.reduceAdd, List.range, List.range.loop, fine, Nat.reduceEqDiff, ↓reduceIte, yielded, reduceCtorEq, Nat.reduceLT, Nat.reduceMul, Nat.reduceSub, one, Nat.reduceLeDiff, runX_cons, e3]; refine hK _ _ ?_; clear hK K)
      simp -implicitDefEqProofs (disch := first | omega | (simp only [qd] <;> omega)) only [thn, blk, ↓reduceIte, Nat.reduceEqDiff]
      (refine wpX_last ?_; intro K hK; simp -implicitDefEqProofs (disch := first | omega | (simp only [qd] <;> omega)) only [xq, ↓xp, qc, Nat.reduceAdd, List.range, List.range.loop, fine, Nat.reduceEqDiff, ↓reduceIte, yielded, reduceCtorEq, Nat.reduceLT, Nat.reduceMul, Nat.reduceSub, one, Nat.reduceLeDiff, runX_cons, e0, h1]; refine hK _ _ ?_; clear hK K)
      simp -implicitDefEqProofs (disch := first | omega | (simp only [qd] <;> omega)) only [thn, blk, ↓reduceIte, Nat.reduceEqDiff]
      exact ⟨_, h2, _, j + 1, by omega, rfl, rfl, rfl, by have := oCount_le m hm; omega, by omega, by trivial⟩

/-- A list of numbers is grown: the row of the pieces so far. -/
theorem oListN_succ (m k : Nat) : oListN m (k + 1) = oListN m k ++ if m.testBit k then [(k : Int)] else [] := by
  unfold oListN
  rw [List.range_succ, List.filter_append, List.map_append]
  congr 1
  by_cases h : m.testBit k <;> simp [h]
theorem oListN_len (m k : Nat) : (oListN m k).length ≤ k := by
  unfold oListN
  rw [List.length_map]
  exact Nat.le_trans (List.length_filter_le _ _) (by simp)

theorem list_spec (main : Bool) (H : Hp) (m : Nat) (hm : m < 64) :
    FnX Tryd.prog main 36 #[.int .u8 m] H fun e H' => ∃ v, e = .returned v ∧ SlI H' v (oList m) ∧ H.le H' := by
  refine FnX_start Tryd.func36 rfl Tryd.ntmps36 (by simp) ?_
  (refine wpX_stmt ?_; intro K hK; simp -implicitDefEqProofs (disch := first | omega | (simp only [qd] <;> omega)) only [xq, ↓xp, qc, Nat.reduceAdd, List.range, List.range.loop, fine, Nat.reduceEqDiff, ↓reduceIte, yielded, reduceCtorEq, Nat.reduceLT, Nat.reduceMul, Nat.reduceSub, one, Nat.reduceLeDiff, runX_cons, y36_18]; refine hK _ _ ?_; clear hK K)
  (refine wpX_stmt ?_; intro K hK; simp -implicitDefEqProofs (disch := first | omega | (simp only [qd] <;> omega)) only [xq, ↓xp, qc, Nat.reduceAdd, List.range, List.range.loop, fine, Nat.reduceEqDiff, ↓reduceIte, yielded, reduceCtorEq, Nat.reduceLT, Nat.reduceMul, Nat.reduceSub, one, Nat.reduceLeDiff, runX_cons, y36_18]; refine hK _ _ ?_; clear hK K)
  refine wpX_seq ?_
  (refine wpX_stmt ?_; intro K hK; simp -implicitDefEqProofs (disch := first | omega | (simp only [qd] <;> omega)) only [xq, ↓xp, qc, Nat.reduceAdd, List.range, List.range.loop, fine, Nat.reduceEqDiff, ↓reduceIte, yielded, reduceCtorEq, Nat.reduceLT, Nat.reduceMul, Nat.reduceSub, one, Nat.reduceLeDiff, runX_cons, y36_18]; refine hK _ _ ?_; clear hK K)
  refine wpX_block (wpX_loop (fun w a' H' => ∃ e j lv, w = 6 - j ∧ j ≤ 6 ∧ a' = act 17 e [] ∧ e 0 = .int .u8 m ∧ e 3 = lv ∧ e 5 = .int .i64 (j : Nat) ∧ RowX none H H' lv 3 (ints (oListN m j))) (n := 6) ?_ ?_)
  · exact ⟨_, 0, _, by omega, by omega, rfl, rfl, rfl, rfl, RowX.nil⟩
  · rintro w a' H' ⟨e, j, lv, rfl, hj, rfl, e0, e3, e5, hrow⟩
    (refine wpX_stmt ?_; intro K hK; simp -implicitDefEqProofs (disch := first | omega | (simp only [qd] <;> omega)) only [xq, ↓xp, qc, Nat.reduceAdd, List.range, List.range.loop, fine, Nat.reduceEqDiff, ↓reduceIte, yielded, reduceCtorEq, Nat.reduceLT, Nat.reduceMul, Nat.reduceSub, one, Nat.reduceLeDiff, runX_cons, y36_18, e5]; refine hK _ _ ?_; clear hK K)
    refine wpX_seq ?_
    refine wpX_cond (by simp -implicitDefEqProofs (disch := first | omega | (simp only [qd] <;> omega)) only [act_eval, upd_get, Nat.reduceEqDiff, ↓reduceIte]; rfl) ?_
    by_cases hlt : j < 6
    · have hlt' : (j : Int) < 6 := by omega
      simp only [hlt', decide_true, if_true]
      refine wpX_skip (wpX_seq (wpX_block ?_))
      (refine wpX_stmt ?_; intro K hK; simp -implicitDefEqProofs (disch := first | omega | (simp only [qd] <;> omega)) only [xq, ↓xp, qc, Nat.reduceAdd, List.range, List.range.loop, fine, Nat.reduceEqDiff, ↓reduceIte, yielded, reduceCtorEq, Nat.reduceLT, Nat.reduceMul, Nat.reduceSub, one, Nat.reduceLeDiff, runX_cons, y36_18, e5]; refine hK _ _ ?_; clear hK K)
      (refine wpX_stmt ?_; intro K hK; simp -implicitDefEqProofs (disch := first | omega | (simp only [qd] <;> omega)) only [xq, ↓xp, qc, Nat.reduceAdd, List.range, List.range.loop, fine, Nat.reduceEqDiff, ↓reduceIte, yielded, reduceCtorEq, Nat.reduceLT, Nat.reduceMul, Nat.reduceSub, one, Nat.reduceLeDiff, runX_cons, y36_18, e0])
      refine (has_spec main H' m j hm (by omega) (by omega)).runs.mono ?_
      rintro _ _ ⟨rfl, rfl⟩
      simp -implicitDefEqProofs (disch := first | omega | (simp only [qd] <;> omega)) only [xq, ↓xp, qc, Nat.reduceAdd, List.range, List.range.loop, fine, Nat.reduceEqDiff, ↓reduceIte, yielded, reduceCtorEq, Nat.reduceLT, Nat.reduceMul, Nat.reduceSub, one, Nat.reduceLeDiff, runX_cons, y36_18]
      refine hK _ _ ?_; clear hK K
      refine wpX_cond (by simp -implicitDefEqProofs (disch := first | omega | (simp only [qd] <;> omega)) only [act_eval, upd_get, Nat.reduceEqDiff, ↓reduceIte]; rfl) ?_
      by_cases hb : m.testBit j
      · simp only [Int.toNat_natCast, hb, if_true]
        refine wpX_last ?_; intro K hK
        simp -implicitDefEqProofs (disch := first | omega | (simp only [qd] <;> omega)) only [xq, ↓xp, qc, Nat.reduceAdd, List.range, List.range.loop, fine, Nat.reduceEqDiff, ↓reduceIte, yielded, reduceCtorEq, Nat.reduceLT, Nat.reduceMul, Nat.reduceSub, one, Nat.reduceLeDiff, runX_cons, y36_18, e3]
        intro gb hgb
        refine append_i hrow hgb (by have := oListN_len m j; omega) _ _ _ _ ?_
        intro v' H5 hr5 ho5
        simp -implicitDefEqProofs (disch := first | omega | (simp only [qd] <;> omega)) only [xq, ↓xp, qc, Nat.reduceAdd, List.range, List.range.loop, fine, Nat.reduceEqDiff, ↓reduceIte, yielded, reduceCtorEq, Nat.reduceLT, Nat.reduceMul, Nat.reduceSub, one, Nat.reduceLeDiff, runX_cons, y36_18]
        refine hK _ _ ?_; clear hK K
        simp -implicitDefEqProofs (disch := first | omega | (simp only [qd] <;> omega)) only [thn, blk, ↓reduceIte, Nat.reduceEqDiff]
        (refine wpX_last ?_; intro K hK; simp -implicitDefEqProofs (disch := first | omega | (simp only [qd] <;> omega)) only [xq, ↓xp, qc, Nat.reduceAdd, List.range, List.range.loop, fine, Nat.reduceEqDiff, ↓reduceIte, yielded, reduceCtorEq, Nat.reduceLT, Nat.reduceMul, Nat.reduceSub, one, Nat.reduceLeDiff, runX_cons, y36_18, e5]; refine hK _ _ ?_; clear hK K)
        simp -implicitDefEqProofs (disch := first | omega | (simp only [qd] <;> omega)) only [thn, blk, ↓reduceIte, Nat.reduceEqDiff]
        refine ⟨_, ?_, _, j + 1, v', rfl, by omega, rfl, e0, rfl, rfl, by rw [oListN_succ, if_pos hb]; exact hr5⟩
        omega
      · simp only [Int.toNat_natCast, hb, Bool.false_eq_true, if_false]
        refine wpX_skip ?_
        simp -implicitDefEqProofs (disch := first | omega | (simp only [qd] <;> omega)) only [thn, blk, ↓reduceIte, Nat.reduceEqDiff]
        (refine wpX_last ?_; intro K hK; simp -implicitDefEqProofs (disch := first | omega | (simp only [qd] <;> omega)) only [xq, ↓xp, qc, Nat.reduceAdd, List.range, List.range.loop, fine, Nat.reduceEqDiff, ↓reduceIte, yielded, reduceCtorEq, Nat.reduceLT, Nat.reduceMul, Nat.reduceSub, one, Nat.reduceLeDiff, runX_cons, y36_18, e5]; refine hK _ _ ?_; clear hK K)
        simp -implicitDefEqProofs (disch := first | omega | (simp only [qd] <;> omega)) only [thn, blk, ↓reduceIte, Nat.reduceEqDiff]
        refine ⟨_, ?_, _, j + 1, lv, rfl, by omega, rfl, e0, e3, rfl, by rw [oListN_succ, if_neg hb, List.append_nil]; exact hrow⟩
        omega
    · have hlt' : ¬ (j : Int) < 6 := by omega
      simp only [hlt', decide_false, Bool.false_eq_true, if_false]
      (refine wpX_exit ?_; simp only [thn, blk, ↓reduceIte, Nat.reduceEqDiff])
      (refine wpX_stmt ?_; intro K hK; simp -implicitDefEqProofs (disch := first | omega | (simp only [qd] <;> omega)) only [xq, ↓xp, qc, Nat.reduceAdd, List.range, List.range.loop, fine, Nat.reduceEqDiff, ↓reduceIte, yielded, reduceCtorEq, Nat.reduceLT, Nat.reduceMul, Nat.reduceSub, one, Nat.reduceLeDiff, runX_cons, y36_18, e3]; refine hK _ _ ?_; clear hK K)
      (refine wpX_ret ?_; (try simp only [nq, ↓reduceIte, Nat.reduceEqDiff]); rw [bodyX_ret, results_one Tryd.results36 (by decide)]; simp only [upd_get, Nat.reduceEqDiff, ↓reduceIte])
      have : j = 6 := by omega
      subst this
      exact ⟨_, rfl, hrow.ints, hrow.1.toLe⟩

theorem oOf_lt : ∀ (xs : List Int) (m : Nat), m < 64 → (∀ x ∈ xs, 0 ≤ x ∧ x < 6) → xs.foldl (fun m x => oWith m x.toNat) m < 64
  | [], m, hm, _ => hm
  | x :: xs, m, hm, h => oOf_lt xs _ (oWith_lt hm (h x List.mem_cons_self).1 (h x List.mem_cons_self).2) fun y hy => h y (List.mem_cons_of_mem _ hy)

theorem officeOf_spec (main : Bool) (H : Hp) (v : Value) (xs : List Int) (hv : SlI H v xs) (hx : ∀ x ∈ xs, 0 ≤ x ∧ x < 6) (hl : xs.length ≤ 1000000) :
    FnX Tryd.prog main 38 #[v] H fun e H' => e = .returned (.int .u8 (oOf xs)) ∧ H' = H := by
  obtain ⟨a, cap, rfl, hc, hv⟩ := hv
  refine FnX_start Tryd.func38 rfl Tryd.ntmps38 (by simp) ?_
  (refine wpX_stmt ?_; intro K hK; simp -implicitDefEqProofs (disch := first | omega | (simp only [qd] <;> omega)) only [xq, ↓xp, qc, Nat.reduceAdd, List.range, List.range.loop, fine, Nat.reduceEqDiff, ↓reduceIte, yielded, reduceCtorEq, Nat.reduceLT, Nat.reduceMul, Nat.reduceSub, one, Nat.reduceLeDiff, runX_cons, y38_18]; refine hK _ _ ?_; clear hK K)
  (refine wpX_stmt ?_; intro K hK; simp -implicitDefEqProofs (disch := first | omega | (simp only [qd] <;> omega)) only [xq, ↓xp, qc, Nat.reduceAdd, List.range, List.range.loop, fine, Nat.reduceEqDiff, ↓reduceIte, yielded, reduceCtorEq, Nat.reduceLT, Nat.reduceMul, Nat.reduceSub, one, Nat.reduceLeDiff, runX_cons, y38_18]; refine hK _ _ ?_; clear hK K)
  refine wpX_seq ?_
  (refine wpX_stmt ?_; intro K hK; simp -implicitDefEqProofs (disch := first | omega | (simp only [qd] <;> omega)) only [xq, ↓xp, qc, Nat.reduceAdd, List.range, List.range.loop, fine, Nat.reduceEqDiff, ↓reduceIte, yielded, reduceCtorEq, Nat.reduceLT, Nat.reduceMul, Nat.reduceSub, one, Nat.reduceLeDiff, runX_cons, y38_18]; refine hK _ _ ?_; clear hK K)
  refine wpX_block (wpX_loop (fun w a' H' => ∃ e j, w = xs.length - j ∧ j ≤ xs.length ∧ a' = act 17 e [] ∧ e 3 = .int .u8 (oOf (xs.take j) : Nat) ∧ e 6 = .slice a xs.length cap ∧ e 7 = .int .i64 xs.length ∧ e 8 = .int .i64 (j : Nat) ∧ H' = H) (n := xs.length) ?_ ?_)
  · exact ⟨_, 0, by omega, by omega, rfl, rfl, rfl, rfl, rfl, rfl⟩
  · rintro w a' H' ⟨e, j, rfl, hj, rfl, e3, e6, e7, e8, rfl⟩
    (refine wpX_stmt ?_; intro K hK; simp -implicitDefEqProofs (disch := first | omega | (simp only [qd] <;> omega)) only [xq, ↓xp, qc, Nat.reduceAdd, List.range, List.range.loop, fine, Nat.reduceEqDiff, ↓reduceIte, yielded, reduceCtorEq, Nat.reduceLT, Nat.reduceMul, Nat.reduceSub, one, Nat.reduceLeDiff, runX_cons, y38_18, e7, e8]; refine hK _ _ ?_; clear hK K)
    refine wpX_seq ?_
    refine wpX_cond (by simp -implicitDefEqProofs (disch := first | omega | (simp only [qd] <;> omega)) only [act_eval, upd_get, Nat.reduceEqDiff, ↓reduceIte]; rfl) ?_
    by_cases hlt : j < xs.length
    · simp only [Int.ofNat_lt, hlt, decide_true, if_true]
      refine wpX_skip (wpX_seq (wpX_block ?_))
      obtain ⟨b, o, p, c, fr, rfl, hb, hx'⟩ := hv j xs[j] (List.getElem?_eq_getElem hlt)
      have hx'' : c[o + (j : Int).toNat * 1]? = some (.int .i64 xs[j]) := by simpa using hx'
      have hxj := hx _ (List.getElem_mem hlt)
      (refine wpX_stmt ?_; intro K hK; simp -implicitDefEqProofs (disch := first | omega | (simp only [qd] <;> omega)) only [xq, ↓xp, qc, Nat.reduceAdd, List.range, List.range.loop, fine, Nat.reduceEqDiff, ↓reduceIte, yielded, reduceCtorEq, Nat.reduceLT, Nat.reduceMul, Nat.reduceSub, one, Nat.reduceLeDiff, runX_cons, y38_18, e6, e8, cell_of hb, hx'', exists_eq_left']; refine hK _ _ ?_; clear hK K)
      refine wpX_last ?_; intro K hK
      simp -implicitDefEqProofs (disch := first | omega | (simp only [qd] <;> omega)) only [xq, ↓xp, qc, Nat.reduceAdd, List.range, List.range.loop, fine, Nat.reduceEqDiff, ↓reduceIte, yielded, reduceCtorEq, Nat.reduceLT, Nat.reduceMul, Nat.reduceSub, one, Nat.reduceLeDiff, runX_cons, y38_18, e3]
      refine (with_spec main H' (oOf (xs.take j)) xs[j] (oOf_lt _ 0 (by omega) fun x h => hx x (List.mem_of_mem_take h)) hxj.1 hxj.2).runs.mono ?_
      rintro _ _ ⟨rfl, rfl⟩
      simp -implicitDefEqProofs (disch := first | omega | (simp only [qd] <;> omega)) only [xq, ↓xp, qc, Nat.reduceAdd, List.range, List.range.loop, fine, Nat.reduceEqDiff, ↓reduceIte, yielded, reduceCtorEq, Nat.reduceLT, Nat.reduceMul, Nat.reduceSub, one, Nat.reduceLeDiff, runX_cons, y38_18]
      refine hK _ _ ?_; clear hK K
      simp -implicitDefEqProofs (disch := first | omega | (simp only [qd] <;> omega)) only [thn, blk, ↓reduceIte, Nat.reduceEqDiff]
      (refine wpX_last ?_; intro K hK; simp -implicitDefEqProofs (disch := first | omega | (simp only [qd] <;> omega)) only [xq, ↓xp, qc, Nat.reduceAdd, List.range, List.range.loop, fine, Nat.reduceEqDiff, ↓reduceIte, yielded, reduceCtorEq, Nat.reduceLT, Nat.reduceMul, Nat.reduceSub, one, Nat.reduceLeDiff, runX_cons, y38_18, e8]; refine hK _ _ ?_; clear hK K)
      simp -implicitDefEqProofs (disch := first | omega | (simp only [qd] <;> omega)) only [thn, blk, ↓reduceIte, Nat.reduceEqDiff]
      refine ⟨_, ?_, _, j + 1, rfl, hlt, rfl, ?_, e6, e7, rfl, by trivial⟩
      · omega
      · show Value.int .u8 _ = _
        rw [List.take_add_one, List.getElem?_eq_getElem hlt]
        unfold oOf
        rw [List.foldl_append]
        rfl
    · simp only [Int.ofNat_lt, hlt, decide_false, Bool.false_eq_true, if_false]
      (refine wpX_exit ?_; simp only [thn, blk, ↓reduceIte, Nat.reduceEqDiff])
      (refine wpX_stmt ?_; intro K hK; simp -implicitDefEqProofs (disch := first | omega | (simp only [qd] <;> omega)) only [xq, ↓xp, qc, Nat.reduceAdd, List.range, List.range.loop, fine, Nat.reduceEqDiff, ↓reduceIte, yielded, reduceCtorEq, Nat.reduceLT, Nat.reduceMul, Nat.reduceSub, one, Nat.reduceLeDiff, runX_cons, y38_18, e3]; refine hK _ _ ?_; clear hK K)
      (refine wpX_ret ?_; (try simp only [nq, ↓reduceIte, Nat.reduceEqDiff]); rw [bodyX_ret, results_one Tryd.results38 (by decide)]; simp only [upd_get, Nat.reduceEqDiff, ↓reduceIte])
      exact ⟨by rw [List.take_of_length_le (by omega)], trivial⟩
end Go.Proofs.YtiempdpjcddgfaaDoor
end
section
/- Maps whose keys are structs of two numbers. -/
set_option linter.unusedSimpArgs false
set_option maxRecDepth 100000
set_option maxHeartbeats 1000000
set_option linter.unusedVariables false
namespace Go.X
open Go
section
variable {P : Program} {H : Hp}

theorem equal_int {t : TypeId} {k : IntKind} (hu : P.underlying t = some (.int k)) (d : Nat) (j : IntKind) (a b : Int) (K : Bool → Hp → Prop) (E : Value → Hp → Prop) : wpS P (Op.equalIn (d + 1) t (.int j a) (.int j b)) H K E = K (a == b) H := by
  unfold Op.equalIn
  simp only [wpS_bind', wpS_underlying hu, if_true, wpS_pure]

theorem wpS_purec {α : Type} (x : α) (K : α → Hp → Prop) (E : Value → Hp → Prop) : wpS P (Sem.pure x) H K E = K x H := rfl
theorem wpS_program (K : Program → Hp → Prop) (E : Value → Hp → Prop) : wpS P program H K E = K P H := rfl
/-- A struct of two numbers, as a key. -/
structure Key2 (P : Program) (ks : TypeId) (k1 k2 : IntKind) : Prop where
  ex : ∃ f1 f2 : Field, P.underlying ks = some (.struct #[f1, f2]) ∧ f1.name ≠ "_" ∧ f2.name ≠ "_" ∧ f1.offset = 0 ∧ f2.offset = 1 ∧ (∃ d, P.underlying f1.type = some (.int d)) ∧ (∃ d, P.underlying f2.type = some (.int d))
  held : P.stoodInHeld ks = false

theorem equal_key {ks : TypeId} {k1 k2 : IntKind} (h : Key2 P ks k1 k2) (a b c d : Int) (K : Bool → Hp → Prop) (E : Value → Hp → Prop) :
    wpS P (Op.equal ks (.agg #[.int k1 a, .int k2 b]) (.agg #[.int k1 c, .int k2 d])) H K E = K (a == c && b == d) H := by
  obtain ⟨⟨f1, f2, hu, hn1, hn2, ho1, ho2, ⟨d1, h1⟩, ⟨d2, h2⟩⟩, hh⟩ := h
  unfold Op.equal Op.maxDepth
  rw [show (10000 : Nat) = 9998 + 1 + 1 from rfl]
  unfold Op.equalIn
  simp only [wpS_bind', wpS_underlying hu, wpS_program, hh, Bool.false_eq_true, if_false, wpS_pure, List.forIn_toArray, List.forIn_cons, List.forIn_nil, hn1, hn2, ne_eq, not_false_eq_true, if_true]
  rw [part_one h1 rfl (v := .int k1 a) _ _ (by simp [ho1])]
  rw [part_one h1 rfl (v := .int k1 c) _ _ (by simp [ho1]), show (9999 : Nat) = 9998 + 1 from rfl, equal_int h1]
  cases a == c
  · simp only [Bool.not_false, if_true, wpS_pure, Bool.false_and]
  · simp only [Bool.not_true, Bool.false_eq_true, if_false, wpS_pure, Bool.true_and, wpS_bind']
    rw [part_one h2 rfl (v := .int k2 b) _ _ (by simp [ho2]), part_one h2 rfl (v := .int k2 d) _ _ (by simp [ho2]), equal_int h2]
    cases b == d
    · simp only [Bool.not_false, if_true, wpS_pure]
    · simp only [Bool.not_true, Bool.false_eq_true, if_false, wpS_pure]

theorem checkKey_int {t : TypeId} {k : IntKind} (hu : P.underlying t = some (.int k)) (em : Bool) (n : Nat) (v : Value) (K : Unit → Hp → Prop) (E : Value → Hp → Prop) : wpS P (Instr.checkKey em (n + 1) t v) H K E = K () H := by
  unfold Instr.checkKey
  rw [wpS_bind', wpS_underlying hu]
  rfl
theorem checkKey2 {ks : TypeId} {k1 k2 : IntKind} (h : Key2 P ks k1 k2) (em : Bool) (a b : Int) (K : Unit → Hp → Prop) (E : Value → Hp → Prop) :
    wpS P (Instr.checkKey em 10000 ks (.agg #[.int k1 a, .int k2 b])) H K E = K () H := by
  obtain ⟨⟨f1, f2, hu, hn1, hn2, ho1, ho2, ⟨d1, h1⟩, ⟨d2, h2⟩⟩, hh⟩ := h
  rw [show (10000 : Nat) = 9998 + 1 + 1 from rfl]
  unfold Instr.checkKey
  rw [wpS_bind', wpS_underlying hu]
  simp only [wpS_bind', wpS_pure, List.forIn_toArray, List.forIn_cons, List.forIn_nil, hn1, hn2, ne_eq, not_false_eq_true, if_true]
  rw [part_one h1 rfl (v := .int k1 a) _ _ (by simp [ho1]), checkKey_int h1, part_one h2 rfl (v := .int k2 b) _ _ (by simp [ho2]), checkKey_int h2]

/-- A map that tells of pairs of numbers what a function tells of them. -/
def MapF (k1 k2 kv : IntKind) (ok : Int → Int → Prop) (F : Int → Int → Int) (es : List MapEntry) : Prop := ∀ e ∈ es, ∃ c d, ok c d ∧ e.key = .agg #[.int k1 c, .int k2 d] ∧ e.val = .int kv (F c d)

theorem findAsking_map {ks : TypeId} {k1 k2 kv : IntKind} (h : Key2 P ks k1 k2) {ok : Int → Int → Prop} {F : Int → Int → Int} (a b : Int) (H : Hp) :
    ∀ (es : List MapEntry) (i : Nat), MapF k1 k2 kv ok F es → ∃ r : Option (Nat × Value), (∀ j v, r = some (j, v) → i ≤ j ∧ v = .int kv (F a b) ∧ ∃ e, es[j - i]? = some e ∧ e.key = .agg #[.int k1 a, .int k2 b]) ∧
      ∀ (K : Option (Nat × Value) → Hp → Prop) (E : Value → Hp → Prop), K r H → wpS P (Instr.findAsking ks (.agg #[.int k1 a, .int k2 b]) es i) H K E
  | [], i, _ => ⟨none, fun j v h => (by cases h), fun K E hk => hk⟩
  | e :: es, i, hm => by
    obtain ⟨c, d, _, hke, hve⟩ := hm e List.mem_cons_self
    unfold Instr.findAsking
    cases hq : (a == c && b == d)
    · obtain ⟨r, hr, hk⟩ := findAsking_map h a b H es (i + 1) (fun e he => hm e (List.mem_cons_of_mem _ he))
      refine ⟨r, fun j v hj => ?_, fun K E hK => ?_⟩
      · obtain ⟨h1, h2, e', h3, h4⟩ := hr j v hj
        refine ⟨by omega, h2, e', ?_, h4⟩
        rw [show j - i = (j - (i + 1)) + 1 by omega, List.getElem?_cons_succ]
        exact h3
      · rw [wpS_bind', hke, equal_key h, hq]
        simp only [Bool.false_eq_true, if_false]
        exact hk K E hK
    · have hq' := hq
      simp only [Bool.and_eq_true, beq_iff_eq] at hq
      obtain ⟨rfl, rfl⟩ := hq
      refine ⟨some (i, e.val), fun j v hj => ?_, fun K E hK => ?_⟩
      · cases hj
        exact ⟨Nat.le_refl _, hve, e, by simp, hke⟩
      · rw [wpS_bind', hke, equal_key h, hq']
        simp only [if_true, wpS_pure]
        exact hK
theorem findKey_map {ks : TypeId} {k1 k2 kv : IntKind} (h : Key2 P ks k1 k2) {ok : Int → Int → Prop} {F : Int → Int → Int} (a b : Int) (H : Hp)
    (es : List MapEntry) (hm : MapF k1 k2 kv ok F es) : ∃ r : Option (Nat × Value), (∀ j v, r = some (j, v) → v = .int kv (F a b) ∧ ∃ e, es[j]? = some e ∧ e.key = .agg #[.int k1 a, .int k2 b]) ∧
      ∀ (K : Option (Nat × Value) → Hp → Prop) (E : Value → Hp → Prop), K r H → wpS P (Instr.findKey ks (.agg #[.int k1 a, .int k2 b]) es) H K E := by
  obtain ⟨⟨f1, f2, hu, _⟩, _⟩ := id h
  cases es with
  | nil =>
    refine ⟨none, fun j v h => (by cases h), fun K E hK => ?_⟩
    unfold Instr.findKey
    rw [wpS_bind', wpS_underlying hu]
    exact hK
  | cons e es =>
    obtain ⟨c, d, _, hke, hve⟩ := hm e List.mem_cons_self
    obtain ⟨r, hr, hk⟩ := findAsking_map h a b H (e :: es) 0 hm
    refine ⟨r, fun j v hj => ?_, fun K E hK => ?_⟩
    · obtain ⟨_, h2, e', h3, h4⟩ := hr j v hj
      exact ⟨h2, e', by simpa using h3, h4⟩
    · unfold Instr.findKey
      rw [wpS_bind', wpS_underlying hu]
      simp only [Instr.findNow, hke, Instr.sameNow]
      exact hk K E hK

theorem lookup_map {mt ks vt : TypeId} {k1 k2 kv : IntKind} {z : Value} (hu : P.underlying mt = some (.map ks vt)) (h : Key2 P ks k1 k2) (hz : ∀ w, (zeroValue vt).run P w = .ok z w) {ok : Int → Int → Prop} {F : Int → Int → Int} (a b : Int)
    {mb : Nat} {p : Bool} {es : Array MapEntry} {clock : Nat} (hb : H mb = some (p, .map es clock)) (hm : MapF k1 k2 kv ok F es.toList) : ∃ v met, (met = true → v = .int kv (F a b)) ∧ (met = false → v = z) ∧ ∀ (K : Value → Hp → Prop) (E : Value → Hp → Prop),
      K (.tuple #[v, .bool met]) H → wpS P (Instr.lookup mt (.map (some mb)) (.agg #[.int k1 a, .int k2 b]) true) H K E := by
  obtain ⟨r, hr, hk'⟩ := findKey_map h a b H es.toList hm
  have step : ∀ (K : Value → Hp → Prop) (E : Value → Hp → Prop), (match r with | some (_, v) => K (.tuple #[v, .bool true]) H | none => K (.tuple #[z, .bool false]) H) → wpS P (Instr.lookup mt (.map (some mb)) (.agg #[.int k1 a, .int k2 b]) true) H K E := fun K E hK => by
    unfold Instr.lookup
    simp only [wpS_bind', wpS_underlying hu]
    refine ⟨p, _, hb, rfl, rfl, ?_⟩
    simp only [wpS_purec, wpS_pure, wpS_bind', checkKey2 h]
    refine hk' _ _ ?_
    cases r with
    | none =>
      simp only [wpS_bind', wpS_zeroValue hz, wpS_pure, if_true]
      exact hK
    | some q =>
      obtain ⟨j, v⟩ := q
      simp only [wpS_pure, if_true]
      exact hK
  cases r with
  | none => exact ⟨z, false, by simp, fun _ => rfl, fun K E hK => step K E hK⟩
  | some q =>
    obtain ⟨j, v⟩ := q
    exact ⟨v, true, fun _ => (hr j v rfl).1, by simp, fun K E hK => step K E hK⟩
theorem sameBits_key (k1 k2 : IntKind) (a b : Int) : Instr.sameBits 10000 (.agg #[.int k1 a, .int k2 b]) (.agg #[.int k1 a, .int k2 b]) = true := by
  rw [show (10000 : Nat) = 9998 + 1 + 1 from rfl]
  simp [Instr.sameBits]
theorem mapUpdate_map {mt ks vt : TypeId} {k1 k2 kv : IntKind} (hu : P.underlying mt = some (.map ks vt)) (h : Key2 P ks k1 k2) {ok : Int → Int → Prop} {F : Int → Int → Int} (a b : Int) (hok : ok a b)
    {mb : Nat} {es : Array MapEntry} {clock : Nat} (hb : H mb = some (true, .map es clock)) (hm : MapF k1 k2 kv ok F es.toList) (K : Unit → Hp → Prop) (E : Value → Hp → Prop)
    (hk : ∀ es' clock', MapF k1 k2 kv ok F es'.toList → K () (H.set mb (.map es' clock'))) : wpS P (Instr.mapUpdate mt (.map (some mb)) (.agg #[.int k1 a, .int k2 b]) (.int kv (F a b))) H K E := by
  unfold Instr.mapUpdate
  simp only [wpS_bind', wpS_underlying hu]
  refine ⟨true, _, hb, rfl, rfl, ?_⟩
  simp only [wpS_purec, wpS_pure, wpS_bind', checkKey2 h]
  obtain ⟨r, hr, hk'⟩ := findKey_map h a b H es.toList hm
  refine hk' _ _ ?_
  cases r with
  | none =>
    refine ⟨_, hb, rfl, rfl, hk _ _ fun e he => ?_⟩
    simp only [Array.toList_push, List.mem_append, List.mem_singleton] at he
    rcases he with he | rfl
    · exact hm e he
    · exact ⟨a, b, hok, rfl, rfl⟩
  | some q =>
    obtain ⟨j, v⟩ := q
    obtain ⟨hv, e, he, hke⟩ := hr j v rfl
    have he' : es[j]? = some e := by simpa using he
    simp only [he', Option.map_some, Option.getD_some, hke, Instr.keyThatStays, sameBits_key, if_true, wpS_pure]
    refine ⟨_, hb, rfl, rfl, hk _ _ fun x hx => ?_⟩
    simp only [Array.toList_modify] at hx
    obtain ⟨i, hi, rfl⟩ := List.getElem_of_mem hx
    rw [List.getElem_modify]
    split
    · exact ⟨a, b, hok, rfl, rfl⟩
    · exact hm _ (List.getElem_mem _)
end
end Go.X
end
