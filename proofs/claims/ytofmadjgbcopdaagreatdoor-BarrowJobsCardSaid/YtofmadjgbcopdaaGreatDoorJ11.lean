/- Texts HaulN Keep LawJ Jobs BJobs Leave PBase PBarrowJobs SBarrowJobs. -/
import Derived.Test.YtofmadjgbcopdaaGreatDoorJ10
import Derived.Conc.Holds
import Derived.Conc.LeavingOf
import Derived.Calls
import Derived.Below
import Derived.Carry
import Derived.ChangeSame
import Derived.ChangeVars
import Derived.ChangeSlices
import Derived.JoinedOf
import Derived.RowKit
import Derived.RowKitTokens
import Derived.LaidLaws
import Derived.LaidHandle
import Derived.Stop.Joined
import Derived.Handed
import Derived.Test.YtofmadjgbcopdaaGreatDoorRows
import Derived.Test.YtofmadjgbcopdaaGreatDoorAFactA
import Derived.Test.YtofmadjgbcopdaaGreatDoorAFactB
import Derived.Test.YtofmadjgbcopdaaGreatDoorAFactC
section
set_option linter.unusedSimpArgs false
set_option maxRecDepth 100000
set_option maxHeartbeats 1000000
set_option linter.unusedVariables false
namespace Go.Proofs.YtofmadjgbcopdaaGreatDoor
open Go Go.X
set_option linter.defProp false
def y38_88 := And.intro (fun H => ex_alloc (H := H) (P := Tryz.prog) (h := Tryz.zeroValue29)) (And.intro @callF81 (And.intro (fun H => fieldAt_eq (H := H) Tryz.underlying29 (i := 0) rfl (off := 0) rfl Tryz.sizeOf25) (And.intro (fun H => storeAt_agg (H := H) Tryz.sizeOf25) (And.intro (fun H => fieldAt_eq (H := H) Tryz.underlying29 (i := 1) rfl (off := 4) rfl Tryz.sizeOf22) (And.intro (fun H => storeAt_slice (H := H) Tryz.sizeOf22) (And.intro @callF42 (And.intro (fun H => fieldAt_eq (H := H) Tryz.underlying29 (i := 2) rfl (off := 5) rfl Tryz.sizeOf3) (And.intro (fun H => storeAt_int (H := H) Tryz.sizeOf3) (And.intro (fun H => fieldAt_eq (H := H) Tryz.underlying25 (i := 3) rfl (off := 3) rfl Tryz.sizeOf23) (And.intro (fun H => loadAt_one (H := H) Tryz.underlying23 rfl) (And.intro (fun H => len_slice (H := H) Tryz.underlying23) (And.intro (fun H => fieldAt_eq (H := H) Tryz.underlying29 (i := 3) rfl (off := 6) rfl Tryz.sizeOf22) (And.intro (fun H => loadAt_one (H := H) Tryz.underlying22 rfl) (And.intro @lit_22_1_0_0 (And.intro @lit_22_4_0_1_2_3_0 (And.intro @callF82 (And.intro @lit_22_2_0_1_0 (And.intro @callF24 (And.intro (fun H => fieldAt_eq (H := H) Tryz.underlying29 (i := 4) rfl (off := 7) rfl Tryz.sizeOf3) (And.intro (fun H => fieldAt_eq (H := H) Tryz.underlying29 (i := 5) rfl (off := 8) rfl Tryz.sizeOf3) (And.intro (fun H => fieldAt_eq (H := H) Tryz.underlying29 (i := 6) rfl (off := 9) rfl Tryz.sizeOf3) (And.intro @lit_22_3_0_1_2_0 (And.intro @callF83 (And.intro (fun H => fieldAt_eq (H := H) Tryz.underlying29 (i := 7) rfl (off := 10) rfl Tryz.sizeOf27) (And.intro (fun H => storeAt_agg (H := H) Tryz.sizeOf27) (And.intro (fun H => loadAt_aggE (H := H) Tryz.underlying29 rfl Tryz.sizeOf29) (fun H => storeAt_agg (H := H) Tryz.sizeOf29)))))))))))))))))))))))))))
theorem haulN_spec (m : Md) (H : Hp) (b k c : Nat) (hc : c ≤ 8) (hT : TinI H b (k + 220)) :
    FnX Tryz.prog m 38 #[.pointer (some ⟨b, 0, none⟩), .int .i64 (c : Nat)] H fun e H' => ∃ n v, e = .returned (n.agg v) ∧ HaulIn H' n v ∧ n.xss.length ≤ c ∧ Lex (some b) H H' ∧ TinI H' b k := by
  refine FnX_start Tryz.func38 rfl Tryz.ntmps38 (by simp) ?_
  (refine wpX_stmt ?_; intro K hK; simp -implicitDefEqProofs (disch := first | omega | (simp only [qd] <;> omega)) only [xq, ↓xp, qc, Nat.reduceAdd, List.range, List.range.loop, fine, Nat.reduceEqDiff, ↓reduceIte, yielded, reduceCtorEq, Nat.reduceLT, Nat.reduceMul, Nat.reduceSub, one, Nat.reduceLeDiff, runX_cons, y38_88])
  intro rb hrb
  refine hK _ _ ?_; clear hK K
  (refine wpX_stmt ?_; intro K hK; simp -implicitDefEqProofs (disch := first | omega | (simp only [qd] <;> omega)) only [xq, ↓xp, qc, Nat.reduceAdd, List.range, List.range.loop, fine, Nat.reduceEqDiff, ↓reduceIte, yielded, reduceCtorEq, Nat.reduceLT, Nat.reduceMul, Nat.reduceSub, one, Nat.reduceLeDiff, runX_cons, y38_88])
  intro hb hhb
  refine hK _ _ ?_; clear hK K
  have hrbn := hT.ne hrb
  have hT1 := hT.new hrb (o := .cells #[.int .i64 0, .int .i64 0, .slice none 0 0, .slice none 0 0, .slice none 0 0, .int .i64 0, .slice none 0 0, .int .i64 0, .int .i64 0, .int .i64 0, .int .i64 0, .int .i64 0] 29 (0, 0))
  have hT2 := hT1.new hhb (o := .cells #[.int .i64 0, .int .i64 0, .slice none 0 0, .slice none 0 0, .slice none 0 0, .int .i64 0, .slice none 0 0, .int .i64 0, .int .i64 0, .int .i64 0, .int .i64 0, .int .i64 0] 29 (0, 0))
  have hhbn := hT1.ne hhb
  (refine wpX_stmt ?_; intro K hK; simp -implicitDefEqProofs (disch := first | omega | (simp only [qd] <;> omega)) only [xq, ↓xp, qc, Nat.reduceAdd, List.range, List.range.loop, fine, Nat.reduceEqDiff, ↓reduceIte, yielded, reduceCtorEq, Nat.reduceLT, Nat.reduceMul, Nat.reduceSub, one, Nat.reduceLeDiff, runX_cons, y38_88])
  refine (vaultOf_spec m _ b (k + 110) c 2 (by omega) (by omega) (by omega) (by exact hT2.less (by omega))).runs.mono ?_
  rintro _ H3 ⟨places, pieces, st, start, cv, xss, tv, ts, rfl, hst, hcv, hts, hvok, hxl, htok, hl3, hT3⟩
  have hhb3 := hl3.keeps set_at hhbn
  obtain ⟨sa, sc, rfl, hsc, hsi⟩ := hst
  obtain ⟨ca, cc, rfl, hcc, hci⟩ := hcv
  obtain ⟨ta, tc, rfl, htc, hti⟩ := hts
  simp -implicitDefEqProofs (disch := first | omega | (simp only [qd] <;> omega)) only [xq, ↓xp, qc, Nat.reduceAdd, List.range, List.range.loop, fine, Nat.reduceEqDiff, ↓reduceIte, yielded, reduceCtorEq, Nat.reduceLT, Nat.reduceMul, Nat.reduceSub, one, Nat.reduceLeDiff, runX_cons, y38_88, storL_of hhb3, stor_at hhb3]
  refine hK _ _ ?_; clear hK K
  have hvt3 : VT H3 (.slice sa start.length sc) start (.slice ca xss.length cc) xss (.slice ta ts.length tc) ts := ⟨⟨sa, sc, rfl, hsc, hsi⟩, ⟨ca, cc, rfl, hcc, hci⟩, ⟨ta, tc, rfl, htc, hti⟩⟩
  have hvt4 := hvt3.set hhb3 (by decide) (by decide) (o := .cells #[.int .i64 places, .int .i64 pieces, .slice sa start.length sc, .slice ca xss.length cc, .slice ta ts.length tc, .int .i64 0, .slice none 0 0, .int .i64 0, .int .i64 0, .int .i64 0, .int .i64 0, .int .i64 0] 29 (0, 0))
  have hT4 := hT3.own hhb3 hhbn.symm (o' := .cells #[.int .i64 places, .int .i64 pieces, .slice sa start.length sc, .slice ca xss.length cc, .slice ta ts.length tc, .int .i64 0, .slice none 0 0, .int .i64 0, .int .i64 0, .int .i64 0, .int .i64 0, .int .i64 0] 29 (0, 0))
  have hl4 := ((Lex.refl.new hhb).trans hl3).own hhb (o := .cells #[.int .i64 places, .int .i64 pieces, .slice sa start.length sc, .slice ca xss.length cc, .slice ta ts.length tc, .int .i64 0, .slice none 0 0, .int .i64 0, .int .i64 0, .int .i64 0, .int .i64 0, .int .i64 0] 29 (0, 0))
  have hhb4 : (H3.set hb (.cells #[.int .i64 places, .int .i64 pieces, .slice sa start.length sc, .slice ca xss.length cc, .slice ta ts.length tc, .int .i64 0, .slice none 0 0, .int .i64 0, .int .i64 0, .int .i64 0, .int .i64 0, .int .i64 0] 29 (0, 0))) hb = _ := set_at
  generalize (H3.set hb (.cells #[.int .i64 places, .int .i64 pieces, .slice sa start.length sc, .slice ca xss.length cc, .slice ta ts.length tc, .int .i64 0, .slice none 0 0, .int .i64 0, .int .i64 0, .int .i64 0, .int .i64 0, .int .i64 0] 29 (0, 0))) = H4 at *
  (refine wpX_stmt ?_; intro K hK; simp -implicitDefEqProofs (disch := first | omega | (simp only [qd] <;> omega)) only [xq, ↓xp, qc, Nat.reduceAdd, List.range, List.range.loop, fine, Nat.reduceEqDiff, ↓reduceIte, yielded, reduceCtorEq, Nat.reduceLT, Nat.reduceMul, Nat.reduceSub, one, Nat.reduceLeDiff, runX_cons, y38_88])
  refine (uptoL m H4 b (k + 109) 3 (by omega) (hT4.less (by omega))).runs.mono ?_
  rintro _ H5 ⟨rule, hru0, hru1, rfl, hl5, hT5⟩
  have hhb5 := hl5.keeps hhb4 hhbn
  simp -implicitDefEqProofs (disch := first | omega | (simp only [qd] <;> omega)) only [xq, ↓xp, qc, Nat.reduceAdd, List.range, List.range.loop, fine, Nat.reduceEqDiff, ↓reduceIte, yielded, reduceCtorEq, Nat.reduceLT, Nat.reduceMul, Nat.reduceSub, one, Nat.reduceLeDiff, runX_cons, y38_88, stor_at hhb5]
  refine hK _ _ ?_; clear hK K
  have hvt6 := (hvt4.lex hl5 hT4).set hhb5 (by decide) (by decide) (o := .cells #[.int .i64 places, .int .i64 pieces, .slice sa start.length sc, .slice ca xss.length cc, .slice ta ts.length tc, .int .i64 rule, .slice none 0 0, .int .i64 0, .int .i64 0, .int .i64 0, .int .i64 0, .int .i64 0] 29 (0, 0))
  have hT6 := hT5.own hhb5 hhbn.symm (o' := .cells #[.int .i64 places, .int .i64 pieces, .slice sa start.length sc, .slice ca xss.length cc, .slice ta ts.length tc, .int .i64 rule, .slice none 0 0, .int .i64 0, .int .i64 0, .int .i64 0, .int .i64 0, .int .i64 0] 29 (0, 0))
  have hl6 := (hl4.trans hl5).own hhb (o := .cells #[.int .i64 places, .int .i64 pieces, .slice sa start.length sc, .slice ca xss.length cc, .slice ta ts.length tc, .int .i64 rule, .slice none 0 0, .int .i64 0, .int .i64 0, .int .i64 0, .int .i64 0, .int .i64 0] 29 (0, 0))
  have hhb6 : (H5.set hb (.cells #[.int .i64 places, .int .i64 pieces, .slice sa start.length sc, .slice ca xss.length cc, .slice ta ts.length tc, .int .i64 rule, .slice none 0 0, .int .i64 0, .int .i64 0, .int .i64 0, .int .i64 0, .int .i64 0] 29 (0, 0))) hb = _ := set_at
  generalize (H5.set hb (.cells #[.int .i64 places, .int .i64 pieces, .slice sa start.length sc, .slice ca xss.length cc, .slice ta ts.length tc, .int .i64 rule, .slice none 0 0, .int .i64 0, .int .i64 0, .int .i64 0, .int .i64 0, .int .i64 0] 29 (0, 0))) = H6 at *
  (refine wpX_stmt ?_; intro K hK; simp -implicitDefEqProofs (disch := first | omega | (simp only [qd] <;> omega)) only [xq, ↓xp, qc, Nat.reduceAdd, List.range, List.range.loop, fine, Nat.reduceEqDiff, ↓reduceIte, yielded, reduceCtorEq, Nat.reduceLT, Nat.reduceMul, Nat.reduceSub, one, Nat.reduceLeDiff, runX_cons, y38_88])
  refine (uptoL m H6 b (k + 108) 10 (by omega) (hT6.less (by omega))).runs.mono ?_
  rintro _ H7 ⟨at0, hat0, hat1, rfl, hl7, hT7⟩
  have hhb7 := hl7.keeps hhb6 hhbn
  have hvt7 := hvt6.lex hl7 hT6
  have hl7' := hl6.trans hl7
  simp -implicitDefEqProofs (disch := first | omega | (simp only [qd] <;> omega)) only [xq, ↓xp, qc, Nat.reduceAdd, List.range, List.range.loop, fine, Nat.reduceEqDiff, ↓reduceIte, yielded, reduceCtorEq, Nat.reduceLT, Nat.reduceMul, Nat.reduceSub, one, Nat.reduceLeDiff, runX_cons, y38_88]
  refine hK _ _ ?_; clear hK K
  have hrhb : rb ≠ hb := fun e => by rw [← e, set_at] at hhb; cases hhb
  have hrb7 := hl7'.keeps set_at hrbn
  have hvtB := hvt7.drop hhb7 (by decide) (by decide)
  have hTB := hT7.drop hhb7 hhbn
  have hlB := hl7'.drop hhb
  have hrbB : drop H7 hb rb = _ := (drop_ne hrhb).trans hrb7
  have hBle : (drop H7 hb).le H7 := drop_le
  have hB0 : drop H7 hb hb = none := drop_at
  generalize drop H7 hb = B at *
  refine wpX_seq ?_
  (refine wpX_stmt ?_; intro K hK; simp -implicitDefEqProofs (disch := first | omega | (simp only [qd] <;> omega)) only [xq, ↓xp, qc, Nat.reduceAdd, List.range, List.range.loop, fine, Nat.reduceEqDiff, ↓reduceIte, yielded, reduceCtorEq, Nat.reduceLT, Nat.reduceMul, Nat.reduceSub, one, Nat.reduceLeDiff, runX_cons, y38_88]; refine hK _ _ ?_; clear hK K)
  refine wpX_block (wpX_loop (fun w a' H' => ∃ e j at' xv xs, w = xss.length - j ∧ j ≤ xss.length ∧ a' = act 64 e [] ∧ e 0 = .pointer (some ⟨b, 0, none⟩) ∧ e 4 = .pointer (some ⟨rb, 0, none⟩) ∧ e 5 = .pointer (some ⟨hb, 0, none⟩) ∧ e 6 = .int .i64 at' ∧ e 7 = .int .i64 (j : Nat) ∧
    H' hb = some (true, .cells #[.int .i64 places, .int .i64 pieces, .slice sa start.length sc, .slice ca xss.length cc, .slice ta ts.length tc, .int .i64 rule, xv, .int .i64 0, .int .i64 0, .int .i64 0, .int .i64 0, .int .i64 0] 29 (0, 0)) ∧ RowX (some b) B H' xv 3 (ints xs) ∧ xs.length = j ∧ xs.Pairwise (· ≤ ·) ∧ (∀ x ∈ xs, 0 ≤ x ∧ x ≤ at') ∧ 0 ≤ at' ∧ at' ≤ 10 + 9 * j ∧ TinI H' b (k + 80 + 2 * (xss.length - j))) (n := xss.length) ?_ ?_)
  · exact ⟨_, 0, at0, _, [], by omega, by omega, rfl, rfl, rfl, rfl, rfl, rfl, hhb7, ⟨Lex.of hBle, .inl ⟨rfl, rfl⟩⟩, rfl, by simp, by simp, hat0, by omega, hT7.less (by omega)⟩
  · rintro w a' H' ⟨e, j, at', xv, xs, rfl, hj, rfl, e0, e4, e5, e6, e7, hh, hrow, hxsl, hasc, hxb, hat', hat'', hT'⟩
    obtain ⟨xa, xc, rfl⟩ := hrow.len
    refine wpX_seq ?_
    (refine wpX_stmt ?_; intro K hK; simp -implicitDefEqProofs (disch := first | omega | (simp only [qd] <;> omega)) only [xq, ↓xp, qc, Nat.reduceAdd, List.range, List.range.loop, fine, Nat.reduceEqDiff, ↓reduceIte, yielded, reduceCtorEq, Nat.reduceLT, Nat.reduceMul, Nat.reduceSub, one, Nat.reduceLeDiff, runX_cons, y38_88, e5, e7, cell_of hh, exists_eq_left']; refine hK _ _ ?_; clear hK K)
    refine wpX_cond (by simp -implicitDefEqProofs (disch := first | omega | (simp only [qd] <;> omega)) only [act_eval, upd_get, Nat.reduceEqDiff, ↓reduceIte]; rfl) ?_
    by_cases hlt : j < xss.length
    · simp only [Int.ofNat_lt, hlt, decide_true, if_true]
      refine wpX_skip (wpX_seq (wpX_block ?_))
      (refine wpX_stmt ?_; intro K hK; simp -implicitDefEqProofs (disch := first | omega | (simp only [qd] <;> omega)) only [xq, ↓xp, qc, Nat.reduceAdd, List.range, List.range.loop, fine, Nat.reduceEqDiff, ↓reduceIte, yielded, reduceCtorEq, Nat.reduceLT, Nat.reduceMul, Nat.reduceSub, one, Nat.reduceLeDiff, runX_cons, y38_88, e5, e6, cell_of hh, exists_eq_left'])
      intro gb hgb
      refine append_i hrow hgb (by omega) _ _ _ _ ?_
      intro v' H8 hr8 ho8
      obtain ⟨va, vc, rfl⟩ := hr8.len
      have hh8 := ho8.cells hh (by decide)
      have hT8 := ho8.tin (by decide) hT'
      simp -implicitDefEqProofs (disch := first | omega | (simp only [qd] <;> omega)) only [xq, ↓xp, qc, Nat.reduceAdd, List.range, List.range.loop, fine, Nat.reduceEqDiff, ↓reduceIte, yielded, reduceCtorEq, Nat.reduceLT, Nat.reduceMul, Nat.reduceSub, one, Nat.reduceLeDiff, runX_cons, y38_88, e5, stor_at hh8]
      refine hK _ _ ?_; clear hK K
      have hh9 : (H8.set hb (.cells #[.int .i64 places, .int .i64 pieces, .slice sa start.length sc, .slice ca xss.length cc, .slice ta ts.length tc, .int .i64 rule, .slice va (ints (xs ++ [at'])).length vc, .int .i64 0, .int .i64 0, .int .i64 0, .int .i64 0, .int .i64 0] 29 (0, 0))) hb = _ := set_at
      have hr9 := hr8.own hB0 hh8 (by decide) (o := .cells #[.int .i64 places, .int .i64 pieces, .slice sa start.length sc, .slice ca xss.length cc, .slice ta ts.length tc, .int .i64 rule, .slice va (ints (xs ++ [at'])).length vc, .int .i64 0, .int .i64 0, .int .i64 0, .int .i64 0, .int .i64 0] 29 (0, 0))
      have hT9 := hT8.own hh8 hhbn.symm (o' := .cells #[.int .i64 places, .int .i64 pieces, .slice sa start.length sc, .slice ca xss.length cc, .slice ta ts.length tc, .int .i64 rule, .slice va (ints (xs ++ [at'])).length vc, .int .i64 0, .int .i64 0, .int .i64 0, .int .i64 0, .int .i64 0] 29 (0, 0))
      generalize H8.set hb (.cells #[.int .i64 places, .int .i64 pieces, .slice sa start.length sc, .slice ca xss.length cc, .slice ta ts.length tc, .int .i64 rule, .slice va (ints (xs ++ [at'])).length vc, .int .i64 0, .int .i64 0, .int .i64 0, .int .i64 0, .int .i64 0] 29 (0, 0)) = H9 at *
      refine wpX_last ?_; intro K hK
      simp -implicitDefEqProofs (disch := first | omega | (simp only [qd] <;> omega)) only [xq, ↓xp, qc, Nat.reduceAdd, List.range, List.range.loop, fine, Nat.reduceEqDiff, ↓reduceIte, yielded, reduceCtorEq, Nat.reduceLT, Nat.reduceMul, Nat.reduceSub, one, Nat.reduceLeDiff, runX_cons, y38_88, e0, e6]
      refine (uptoL m H9 b (k + 80 + 2 * (xss.length - (j + 1)) + 1) 9 (by omega) (hT9.less (by omega))).runs.mono ?_
      rintro _ H10 ⟨u, hu0, hu1, rfl, hl10, hT10⟩
      simp -implicitDefEqProofs (disch := first | omega | (simp only [qd] <;> omega)) only [xq, ↓xp, qc, Nat.reduceAdd, List.range, List.range.loop, fine, Nat.reduceEqDiff, ↓reduceIte, yielded, reduceCtorEq, Nat.reduceLT, Nat.reduceMul, Nat.reduceSub, one, Nat.reduceLeDiff, runX_cons, y38_88, e0, e6]
      intro g2 hg2
      refine (eitherL m _ b (k + 80 + 2 * (xss.length - (j + 1))) _ [0, 1, 2, u] (by exact SlI.lit (vs := [_, _, _, _]) _ rfl rfl) (by simp) (by simp) (by exact hT10.new hg2)).runs.mono ?_
      rintro _ H11 ⟨d, hd, rfl, hl11, hT11⟩
      have hd' : 0 ≤ d ∧ d ≤ 9 := by simp at hd; omega
      simp -implicitDefEqProofs (disch := first | omega | (simp only [qd] <;> omega)) only [xq, ↓xp, qc, Nat.reduceAdd, List.range, List.range.loop, fine, Nat.reduceEqDiff, ↓reduceIte, yielded, reduceCtorEq, Nat.reduceLT, Nat.reduceMul, Nat.reduceSub, one, Nat.reduceLeDiff, runX_cons, y38_88]
      refine hK _ _ ?_; clear hK K
      simp -implicitDefEqProofs (disch := first | omega | (simp only [qd] <;> omega)) only [thn, blk, ↓reduceIte, Nat.reduceEqDiff]
      (refine wpX_last ?_; intro K hK; simp -implicitDefEqProofs (disch := first | omega | (simp only [qd] <;> omega)) only [xq, ↓xp, qc, Nat.reduceAdd, List.range, List.range.loop, fine, Nat.reduceEqDiff, ↓reduceIte, yielded, reduceCtorEq, Nat.reduceLT, Nat.reduceMul, Nat.reduceSub, one, Nat.reduceLeDiff, runX_cons, y38_88, e7]; refine hK _ _ ?_; clear hK K)
      simp -implicitDefEqProofs (disch := first | omega | (simp only [qd] <;> omega)) only [thn, blk, ↓reduceIte, Nat.reduceEqDiff]
      have hL := (hl10.new hg2 (o := .cells #[.int .i64 0, .int .i64 1, .int .i64 2, .int .i64 u] 3 (0, 0))).trans hl11
      refine ⟨_, ?_, _, j + 1, at' + d, _, xs ++ [at'], rfl, hlt, rfl, e0, e4, e5, rfl, rfl, hL.keeps hh9 hhbn, hr9.lex hL (hT9.notI (by decide)), by simp [hxsl], ?_, ?_, by omega, by omega, hT11⟩
      · omega
      · rw [List.pairwise_append]
        refine ⟨hasc, by simp, fun x hx y hy => ?_⟩
        simp at hy
        have := hxb x hx
        omega
      · intro x hx
        rcases List.mem_append.1 hx with hx | hx
        · have := hxb x hx; omega
        · simp at hx; omega
    · simp only [Int.ofNat_lt, hlt, decide_false, Bool.false_eq_true, if_false]
      (refine wpX_exit ?_; simp only [thn, blk, ↓reduceIte, Nat.reduceEqDiff])
      have hje : j = xss.length := by omega
      have hvt12 := hvtB.lex hrow.1 hTB
      have hrb12 := hrow.1.keeps hrbB hrbn
      have hsx12 := hrow.ints
      have hl12 := hlB.trans hrow.1
      have hT12 : TinI H' b (k + 20) := hT'.less (by omega)
      (refine wpX_stmt ?_; intro K hK; simp -implicitDefEqProofs (disch := first | omega | (simp only [qd] <;> omega)) only [xq, ↓xp, qc, Nat.reduceAdd, List.range, List.range.loop, fine, Nat.reduceEqDiff, ↓reduceIte, yielded, reduceCtorEq, Nat.reduceLT, Nat.reduceMul, Nat.reduceSub, one, Nat.reduceLeDiff, runX_cons, y38_88, e0])
      refine (uptoL m H' b (k + 19) 10 (by omega) hT12).runs.mono ?_
      rintro _ H13 ⟨u1, hu10, hu11, rfl, hl13, hT13⟩
      simp -implicitDefEqProofs (disch := first | omega | (simp only [qd] <;> omega)) only [xq, ↓xp, qc, Nat.reduceAdd, List.range, List.range.loop, fine, Nat.reduceEqDiff, ↓reduceIte, yielded, reduceCtorEq, Nat.reduceLT, Nat.reduceMul, Nat.reduceSub, one, Nat.reduceLeDiff, runX_cons, y38_88, e0]
      refine (uptoL m H13 b (k + 18) 30 (by omega) hT13).runs.mono ?_
      rintro _ H14 ⟨u2, hu20, hu21, rfl, hl14, hT14⟩
      simp -implicitDefEqProofs (disch := first | omega | (simp only [qd] <;> omega)) only [xq, ↓xp, qc, Nat.reduceAdd, List.range, List.range.loop, fine, Nat.reduceEqDiff, ↓reduceIte, yielded, reduceCtorEq, Nat.reduceLT, Nat.reduceMul, Nat.reduceSub, one, Nat.reduceLeDiff, runX_cons, y38_88, e0]
      intro g1 hg1
      refine (eitherL m _ b (k + 17) _ [u1, u2] (by exact SlI.lit (vs := [_, _]) _ rfl rfl) (by simp) (by simp) (by exact hT14.new hg1)).runs.mono ?_
      rintro _ H15 ⟨notice, hno, rfl, hl15, hT15⟩
      have hno' : 0 ≤ notice ∧ notice ≤ 30 := by simp at hno; omega
      simp -implicitDefEqProofs (disch := first | omega | (simp only [qd] <;> omega)) only [xq, ↓xp, qc, Nat.reduceAdd, List.range, List.range.loop, fine, Nat.reduceEqDiff, ↓reduceIte, yielded, reduceCtorEq, Nat.reduceLT, Nat.reduceMul, Nat.reduceSub, one, Nat.reduceLeDiff, runX_cons, y38_88, e0]
      refine (withinL m _ b (k + 16) 1 3 (by omega) (by omega) (by omega) (by omega) hT15).runs.mono ?_
      rintro _ H16 ⟨load, hlo0, hlo1, rfl, hl16, hT16⟩
      simp -implicitDefEqProofs (disch := first | omega | (simp only [qd] <;> omega)) only [xq, ↓xp, qc, Nat.reduceAdd, List.range, List.range.loop, fine, Nat.reduceEqDiff, ↓reduceIte, yielded, reduceCtorEq, Nat.reduceLT, Nat.reduceMul, Nat.reduceSub, one, Nat.reduceLeDiff, runX_cons, y38_88, e0]
      intro g2 hg2
      refine (eitherL m _ b (k + 15) _ [1, 1, 2, 4] (by exact SlI.lit (vs := [_, _, _, _]) _ rfl rfl) (by simp) (by simp) (by exact hT16.new hg2)).runs.mono ?_
      rintro _ H17 ⟨barrows, hba, rfl, hl17, hT17⟩
      have hba' : 1 ≤ barrows ∧ barrows ≤ 4 := by simp at hba; omega
      have hL := ((((hl13.trans hl14).new hg1 (o := .cells #[.int .i64 u1, .int .i64 u2] 3 (0, 0))).trans hl15).trans hl16).new hg2 (o := .cells #[.int .i64 1, .int .i64 1, .int .i64 2, .int .i64 4] 3 (0, 0)) |>.trans hl17
      have hh17 := hL.keeps hh hhbn
      simp -implicitDefEqProofs (disch := first | omega | (simp only [qd] <;> omega)) only [xq, ↓xp, qc, Nat.reduceAdd, List.range, List.range.loop, fine, Nat.reduceEqDiff, ↓reduceIte, yielded, reduceCtorEq, Nat.reduceLT, Nat.reduceMul, Nat.reduceSub, one, Nat.reduceLeDiff, runX_cons, y38_88, e5, stor_at hh17]
      refine hK _ _ ?_; clear hK K
      have hvt18 := (hvt12.lex hL hT12).set hh17 (by decide) (by decide) (o := .cells #[.int .i64 places, .int .i64 pieces, .slice sa start.length sc, .slice ca xss.length cc, .slice ta ts.length tc, .int .i64 rule, .slice xa (ints xs).length xc, .int .i64 notice, .int .i64 load, .int .i64 barrows, .int .i64 0, .int .i64 0] 29 (0, 0))
      have hsx18 := (hsx12.lex hL hT12).set (o := .cells #[.int .i64 places, .int .i64 pieces, .slice sa start.length sc, .slice ca xss.length cc, .slice ta ts.length tc, .int .i64 rule, .slice xa (ints xs).length xc, .int .i64 notice, .int .i64 load, .int .i64 barrows, .int .i64 0, .int .i64 0] 29 (0, 0)) (b := hb) fun p c fr e' => by rw [hh17] at e'; cases e'
      have hrb18 := (set_ne (H := H17) (o := .cells #[.int .i64 places, .int .i64 pieces, .slice sa start.length sc, .slice ca xss.length cc, .slice ta ts.length tc, .int .i64 rule, .slice xa (ints xs).length xc, .int .i64 notice, .int .i64 load, .int .i64 barrows, .int .i64 0, .int .i64 0] 29 (0, 0)) hrhb).trans (hL.keeps hrb12 hrbn)
      have hl18 := (hl12.trans hL).own hhb (o := .cells #[.int .i64 places, .int .i64 pieces, .slice sa start.length sc, .slice ca xss.length cc, .slice ta ts.length tc, .int .i64 rule, .slice xa (ints xs).length xc, .int .i64 notice, .int .i64 load, .int .i64 barrows, .int .i64 0, .int .i64 0] 29 (0, 0))
      have hT18 := hT17.own hh17 hhbn.symm (o' := .cells #[.int .i64 places, .int .i64 pieces, .slice sa start.length sc, .slice ca xss.length cc, .slice ta ts.length tc, .int .i64 rule, .slice xa (ints xs).length xc, .int .i64 notice, .int .i64 load, .int .i64 barrows, .int .i64 0, .int .i64 0] 29 (0, 0))
      have hh18 : (H17.set hb (.cells #[.int .i64 places, .int .i64 pieces, .slice sa start.length sc, .slice ca xss.length cc, .slice ta ts.length tc, .int .i64 rule, .slice xa (ints xs).length xc, .int .i64 notice, .int .i64 load, .int .i64 barrows, .int .i64 0, .int .i64 0] 29 (0, 0))) hb = _ := set_at
      generalize H17.set hb (.cells #[.int .i64 places, .int .i64 pieces, .slice sa start.length sc, .slice ca xss.length cc, .slice ta ts.length tc, .int .i64 rule, .slice xa (ints xs).length xc, .int .i64 notice, .int .i64 load, .int .i64 barrows, .int .i64 0, .int .i64 0] 29 (0, 0)) = H18 at *
      (refine wpX_stmt ?_; intro K hK; simp -implicitDefEqProofs (disch := first | omega | (simp only [qd] <;> omega)) only [xq, ↓xp, qc, Nat.reduceAdd, List.range, List.range.loop, fine, Nat.reduceEqDiff, ↓reduceIte, yielded, reduceCtorEq, Nat.reduceLT, Nat.reduceMul, Nat.reduceSub, one, Nat.reduceLeDiff, runX_cons, y38_88, e0])
      intro g3 hg3
      refine (eitherL m _ b (k + 14) _ [4, 8, 20] (by exact SlI.lit (vs := [_, _, _]) _ rfl rfl) (by simp) (by simp) (by exact (hT18.new hg3).less (by omega))).runs.mono ?_
      rintro _ H19 ⟨hm, hhm, rfl, hl19, hT19⟩
      have hhm' : 4 ≤ hm ∧ hm ≤ 20 := by simp at hhm; omega
      simp -implicitDefEqProofs (disch := first | omega | (simp only [qd] <;> omega)) only [xq, ↓xp, qc, Nat.reduceAdd, List.range, List.range.loop, fine, Nat.reduceEqDiff, ↓reduceIte, yielded, reduceCtorEq, Nat.reduceLT, Nat.reduceMul, Nat.reduceSub, one, Nat.reduceLeDiff, runX_cons, y38_88, e0]
      refine (bandIn_spec m _ b (k + 12) 1 hm (by omega) (by omega) (by omega) (by exact hT19.less (by omega))).runs.mono ?_
      rintro _ H20 ⟨lo, hi, hb1, hb2, hb3, rfl, hl20, hT20⟩
      have hL2 := ((Lex.refl.new hg3 (o := .cells #[.int .i64 4, .int .i64 8, .int .i64 20] 3 (0, 0))).trans hl19).trans hl20
      have hh20 := hL2.keeps hh18 hhbn
      simp -implicitDefEqProofs (disch := first | omega | (simp only [qd] <;> omega)) only [xq, ↓xp, qc, Nat.reduceAdd, List.range, List.range.loop, fine, Nat.reduceEqDiff, ↓reduceIte, yielded, reduceCtorEq, Nat.reduceLT, Nat.reduceMul, Nat.reduceSub, one, Nat.reduceLeDiff, runX_cons, y38_88, e5, storL_of hh20]
      refine hK _ _ ?_; clear hK K
      have hvt21 := (hvt18.lex hL2 hT18).set hh20 (by decide) (by decide) (o := .cells #[.int .i64 places, .int .i64 pieces, .slice sa start.length sc, .slice ca xss.length cc, .slice ta ts.length tc, .int .i64 rule, .slice xa (ints xs).length xc, .int .i64 notice, .int .i64 load, .int .i64 barrows, .int .i64 lo, .int .i64 hi] 29 (0, 0))
      have hsx21 := (hsx18.lex hL2 hT18).set (o := .cells #[.int .i64 places, .int .i64 pieces, .slice sa start.length sc, .slice ca xss.length cc, .slice ta ts.length tc, .int .i64 rule, .slice xa (ints xs).length xc, .int .i64 notice, .int .i64 load, .int .i64 barrows, .int .i64 lo, .int .i64 hi] 29 (0, 0)) (b := hb) fun p c fr e' => by rw [hh20] at e'; cases e'
      have hrb21 := (set_ne (H := H20) (o := .cells #[.int .i64 places, .int .i64 pieces, .slice sa start.length sc, .slice ca xss.length cc, .slice ta ts.length tc, .int .i64 rule, .slice xa (ints xs).length xc, .int .i64 notice, .int .i64 load, .int .i64 barrows, .int .i64 lo, .int .i64 hi] 29 (0, 0)) hrhb).trans (hL2.keeps hrb18 hrbn)
      have hl21 := (hl18.trans hL2).own hhb (o := .cells #[.int .i64 places, .int .i64 pieces, .slice sa start.length sc, .slice ca xss.length cc, .slice ta ts.length tc, .int .i64 rule, .slice xa (ints xs).length xc, .int .i64 notice, .int .i64 load, .int .i64 barrows, .int .i64 lo, .int .i64 hi] 29 (0, 0))
      have hT21 := hT20.own hh20 hhbn.symm (o' := .cells #[.int .i64 places, .int .i64 pieces, .slice sa start.length sc, .slice ca xss.length cc, .slice ta ts.length tc, .int .i64 rule, .slice xa (ints xs).length xc, .int .i64 notice, .int .i64 load, .int .i64 barrows, .int .i64 lo, .int .i64 hi] 29 (0, 0))
      have hh21 : (H20.set hb (.cells #[.int .i64 places, .int .i64 pieces, .slice sa start.length sc, .slice ca xss.length cc, .slice ta ts.length tc, .int .i64 rule, .slice xa (ints xs).length xc, .int .i64 notice, .int .i64 load, .int .i64 barrows, .int .i64 lo, .int .i64 hi] 29 (0, 0))) hb = _ := set_at
      generalize H20.set hb (.cells #[.int .i64 places, .int .i64 pieces, .slice sa start.length sc, .slice ca xss.length cc, .slice ta ts.length tc, .int .i64 rule, .slice xa (ints xs).length xc, .int .i64 notice, .int .i64 load, .int .i64 barrows, .int .i64 lo, .int .i64 hi] 29 (0, 0)) = H21 at *
      (refine wpX_stmt ?_; intro K hK; simp -implicitDefEqProofs (disch := first | omega | (simp only [qd] <;> omega)) only [xq, ↓xp, qc, Nat.reduceAdd, List.range, List.range.loop, fine, Nat.reduceEqDiff, ↓reduceIte, yielded, reduceCtorEq, Nat.reduceLT, Nat.reduceMul, Nat.reduceSub, one, Nat.reduceLeDiff, runX_cons, y38_88, e5, e4, loadA_at hh21, storL_of hrb21])
      refine hK _ _ ?_; clear hK K
      (refine wpX_ret ?_; (try simp only [nq, ↓reduceIte, Nat.reduceEqDiff]); rw [bodyX_ret, results_cell Tryz.results38 (by decide) (b := rb) (o := 0) ?hcell Tryz.underlying29 rfl Tryz.sizeOf29]; (case hcell => exact e4); simp -implicitDefEqProofs (disch := first | omega | (simp only [qd] <;> omega)) only [xq, ↓xp, qc, Nat.reduceAdd, List.range, List.range.loop, fine, Nat.reduceEqDiff, ↓reduceIte, yielded, reduceCtorEq, Nat.reduceLT, Nat.reduceMul, Nat.reduceSub, one, Nat.reduceLeDiff, runX_cons, y38_88, loadA_set])
      have hvt22 := hvt21.set hrb21 (by decide) (by decide) (o := .cells #[.int .i64 places, .int .i64 pieces, .slice sa start.length sc, .slice ca xss.length cc, .slice ta ts.length tc, .int .i64 rule, .slice xa (ints xs).length xc, .int .i64 notice, .int .i64 load, .int .i64 barrows, .int .i64 lo, .int .i64 hi] 29 (0, 0))
      refine ⟨⟨places, pieces, rule, notice, load, barrows, lo, hi, start, xss, ts, xs⟩, ⟨_, _, _, _⟩, rfl, { day := ⟨hvt22.1, hvt22.2.1, hvt22.2.2, hvok, Nat.le_trans hxl hc, htok⟩, times := hsx21.set (fun p c fr e' => by rw [hrb21] at e'; cases e'), ok := ⟨hxsl.trans hje, hasc, fun x hx => by have := hxb x hx; omega⟩, r0 := hru0, r3 := (by show rule ≤ 3; omega), n0 := hno'.1, n30 := hno'.2, l1 := hlo0, l3 := (by show load ≤ 3; omega), b1 := hba'.1, b4 := hba'.2, t1 := hb1, t2 := hb2, t20 := Int.le_trans hb3 hhm'.2 }, hxl, ((Lex.refl.new hrb).trans hl21).own hrb, (hT21.own hrb21 hrbn.symm).less (by omega)⟩
end Go.Proofs.YtofmadjgbcopdaaGreatDoor
end
section
set_option linter.unusedSimpArgs false
set_option maxRecDepth 100000
set_option maxHeartbeats 1000000
set_option linter.unusedVariables false
namespace Go.Proofs.YtofmadjgbcopdaaGreatDoor
open Go Go.X
set_option linter.defProp false
def y31_89 := (fun H => buildSlice0 (H := H) Tryz.underlying22 Tryz.sizeOf3)
def y40_89 := And.intro (fun H => len_slice (H := H) Tryz.underlying22) (And.intro (fun H => indexAt_slice (H := H) Tryz.underlying22 Tryz.sizeOf3) (fun H => loadAt_one (H := H) Tryz.underlying3 rfl))
theorem z0_89 {p q : Prop} (g : q) (h : Hid q → p := by
  intro g
  repeat' (first
  | (refine wpX_stmtL rfl ?_; intro Kz hKz; simp -implicitDefEqProofs (disch := first | omega | (simp only [qd] <;> omega)) only [xq, ↓xp, qc, Nat.reduceAdd, List.range, List.range.loop, fine, Nat.reduceEqDiff, ↓reduceIte, yielded, reduceCtorEq, Nat.reduceLT, Nat.reduceMul, Nat.reduceSub, one, Nat.reduceLeDiff, runX_cons, y40_89, aq, ↓ap, qe0, qe1, qe2, *, -g, -hKz, beq_self_eq_true]; try (refine hKz _ _ ?_; clear hKz Kz))
  | (refine wpX_lastL rfl ?_; intro Kz hKz; simp -implicitDefEqProofs (disch := first | omega | (simp only [qd] <;> omega)) only [xq, ↓xp, qc, Nat.reduceAdd, List.range, List.range.loop, fine, Nat.reduceEqDiff, ↓reduceIte, yielded, reduceCtorEq, Nat.reduceLT, Nat.reduceMul, Nat.reduceSub, one, Nat.reduceLeDiff, runX_cons, y40_89, aq, ↓ap, qe0, qe1, qe2, *, -g, -hKz, beq_self_eq_true]; try (refine hKz _ _ ?_; clear hKz Kz; (try simp only [nq, ↓reduceIte, Nat.reduceEqDiff])))
  | (refine wpX_skip ?_; (try simp only [nq, ↓reduceIte, Nat.reduceEqDiff]))
  | (refine wpX_label ?_; (try simp only [nq, ↓reduceIte, Nat.reduceEqDiff]))
  | (refine wpX_exit ?_; (try simp only [nq, ↓reduceIte, Nat.reduceEqDiff]))
  | (refine wpX_goto ?_; (try simp only [nq, ↓reduceIte, Nat.reduceEqDiff]))
  | (refine wpX_condK (by simp only [act_eval, upd_get, Nat.reduceEqDiff, Nat.reduceLT, ↓reduceIte, *, -g]; rfl) ?_ ?_ <;> (intro hcz; first | (exfalso; simp -implicitDefEqProofs (disch := omega) only [*, -g, bq, reduceCtorEq] at hcz; done) | (simp only [dq, qe3, qe4, qe5, qe6] at hcz) | skip))
  | (refine wpX_scope0 ?_)
  | (refine wpX_block ?_)
  | (refine wpX_seq ?_))
  (try (revert Kz; refine unK ?_)); (repeat (revert hcz; refine unC ?_))
  exact Hid.out g) : Hid p := ⟨h ⟨g⟩⟩
theorem keepI_spec (m : Md) (H : Hp) (v : Value) (xs : List Int) (hv : SlI H v xs) (hl : xs.length ≤ 1000000) :
    FnX Tryz.prog m 31 #[v] H fun e H' => ∃ w, e = .returned w ∧ RowX none H H' w 3 (ints xs) := by
  obtain ⟨a, cap, rfl, hcap, hx⟩ := hv
  refine FnX_start Tryz.func31 rfl Tryz.ntmps31 (by simp) ?_
  (refine @Hid.out _ ?_; refine zA y31_89 ?_; (repeat (refine inC ?_; intro hc)); try (refine inK ?_; intro K hK))
  intro nb hnb
  have hle : H.le (H.set nb (.cells #[] 3 (0, 0))) := Hp.le_set hnb
  have hrow0 : NewRow H (H.set nb (.cells #[] 3 (0, 0))) (.slice (some ⟨nb, 0, none⟩) 0 0) 3 1 0 (ints []) := .inr ⟨nb, #[], 0, hnb, rfl, rfl, rfl, rfl, Nat.le_refl _, fun i u hi => by simp [ints] at hi⟩
  cases xs with
  | nil =>
    ((try (refine @Hid.out _ ?_; refine zX y31_89 ?_)); (try (refine hK _ _ ?_; clear hK K; (try simp only [nq, ↓reduceIte, Nat.reduceEqDiff]))); refine @Hid.out _ ?_; refine zA y31_89 ?_; (repeat (refine inC ?_; intro hc)); try (refine inK ?_; intro K hK))
    refine append_zero Tryz.underlying22 Tryz.sizeOf3 _ _ _ _ _ _ _ (Nat.le_refl _) _ _ ?_
    ((try (refine @Hid.out _ ?_; refine zX y31_89 ?_)); (try (refine hK _ _ ?_; clear hK K; (try simp only [nq, ↓reduceIte, Nat.reduceEqDiff]))); refine @Hid.out _ ?_; refine zA y31_89 ?_; (repeat (refine inC ?_; intro hc)); try (refine inK ?_; intro K hK))
    (refine wpX_ret ?_; (try simp only [nq, ↓reduceIte, Nat.reduceEqDiff]); rw [bodyX_ret, results_one Tryz.results31 (by decide)]; simp only [upd_get, Nat.reduceEqDiff, ↓reduceIte])
    exact ⟨_, rfl, Lex.of hle, .inr ⟨nb, #[], 0, hnb, set_at, rfl, rfl, Nat.le_refl _, fun i u hi => by simp [ints] at hi⟩⟩
  | cons x0 xs0 =>
    obtain ⟨b', o', p', c', fr', h', hb', _⟩ := hx 0 x0 rfl
    subst h'
    ((try (refine @Hid.out _ ?_; refine zX y31_89 ?_)); (try (refine hK _ _ ?_; clear hK K; (try simp only [nq, ↓reduceIte, Nat.reduceEqDiff]))); refine @Hid.out _ ?_; refine zA y31_89 ?_; (repeat (refine inC ?_; intro hc)); try (refine inK ?_; intro K hK))
    have hgne : b' ≠ nb := ne_new hb' hnb
    refine append_ints hrow0 (Hp.le_refl _) (ys := x0 :: xs0) rfl (fun h => absurd h (by rw [hb']; simp)) (fun j y hj => ?_) (by simp at hl ⊢; omega) _ _ _ _ (fun v' H1 H2 hr hl2 => ?_)
    · obtain ⟨b2, o2, p2, c2, fr2, e2, hb2, hc2⟩ := hx j y hj
      cases e2
      rw [cell_set_ne hgne, cell_of hb2]
      exact hc2
    · ((try (refine @Hid.out _ ?_; refine zX y31_89 ?_)); (try (refine hK _ _ ?_; clear hK K; (try simp only [nq, ↓reduceIte, Nat.reduceEqDiff]))); refine @Hid.out _ ?_; refine zA y31_89 ?_; (repeat (refine inC ?_; intro hc)); try (refine inK ?_; intro K hK))
      (refine wpX_ret ?_; (try simp only [nq, ↓reduceIte, Nat.reduceEqDiff]); rw [bodyX_ret, results_one Tryz.results31 (by decide)]; simp only [upd_get, Nat.reduceEqDiff, ↓reduceIte])
      refine ⟨_, rfl, ?_⟩
      have hlen := hr.len
      rcases hr with ⟨_, h0, _⟩ | ⟨b3, c3, cap3, hb3, rfl, rfl, hs3, hl3, hn3, hg3⟩
      · simp at h0
      · refine ⟨Lex.of (Hp.le_trans (Hp.le_set hb3) hl2), .inr ⟨b3, c3, cap3, hb3, hl2 _ _ set_at, ?_, by simpa using hs3, ?_, ?_⟩⟩
        · simp [ints]
        · simpa [ints] using hn3
        · intro i u hi; exact hg3 i u (by simpa using hi)
theorem atI_spec (m : Md) (H : Hp) (v : Value) (xs : List Int) (n : Int) (hv : SlI H v xs) (hl : xs.length ≤ 1000000) :
    FnX Tryz.prog m 40 #[v, .int .i64 n] H fun e H' => H' = H ∧ ∃ r : Int, e = .returned (.int .i64 r) ∧ ((r = -1 ∧ n ∉ xs) ∨ ∃ k : Nat, r = k ∧ k < xs.length ∧ xs[k]? = some n ∧ n ∉ xs.take k) := by
  have hvS := hv
  obtain ⟨a, cap, rfl, hcap, hx⟩ := hv
  refine FnX_start Tryz.func40 rfl Tryz.ntmps40 (by simp) ?_
  (refine @Hid.out _ ?_; refine zA y40_89 ?_; (repeat (refine inC ?_; intro hc)); try (refine inK ?_; intro K hK))
  refine wpX_loop (fun w a' H' => ∃ e j, w = xs.length - j ∧ j ≤ xs.length ∧ a' = act 19 e [] ∧ e 0 = .slice a xs.length cap ∧ e 1 = .int .i64 n ∧ e 5 = .int .i64 (j : Nat) ∧ H' = H ∧ n ∉ xs.take j) (n := xs.length) ?_ ?_
  · exact ⟨_, 0, by omega, by omega, rfl, rfl, rfl, rfl, by trivial, by simp⟩
  · rintro w a' H' ⟨e, j, rfl, hj, rfl, e0, e1, e5, hH, hno⟩
    rw [hH]; clear hH H'
    by_cases hlt : j < xs.length
    · obtain ⟨b, o, p, c, fr, rfl, hb, hcx⟩ := hx j xs[j] (List.getElem?_eq_getElem hlt)
      have hxj := List.getElem?_eq_getElem hlt
      generalize hy : xs[j] = y at *
      have hcx' : c[o + (j : Int).toNat * 1]? = some (.int .i64 y) := by simpa using hcx
      have hno' : SameP (n ∉ xs.take j) := hno
      have hxj' : SameP (xs[j]? = some y) := hxj
      clear hx hno hxj hy
      by_cases hyn : y = n
      · subst hyn
        (refine @Hid.out _ ?_; refine z0_89 ?_; (repeat (refine inC ?_; intro hc)); try (refine inK ?_; intro K hK))
        (refine wpX_ret ?_; (try simp only [nq, ↓reduceIte, Nat.reduceEqDiff]); rw [bodyX_ret, results_one Tryz.results40 (by decide)]; simp only [upd_get, Nat.reduceEqDiff, ↓reduceIte])
        exact ⟨by trivial, _, rfl, .inr ⟨j, rfl, hlt, hxj', hno'⟩⟩
      · have hne : (y == n) = false := beq_false_of_ne hyn
        clear hyn
        have hnext : n ∉ xs.take (j + 1) := fun h => by
          have hxj : xs[j]? = some y := hxj'
          rw [List.take_add_one, hxj] at h
          rcases List.mem_append.1 h with h | h
          · exact hno' h
          · rw [show n = y by simpa using h] at hne
            simp at hne
        replace hnext : SameP _ := hnext
        (refine @Hid.out _ ?_; refine zA y40_89 ?_; (repeat (refine inC ?_; intro hc)); try (refine inK ?_; intro K hK))
        exact ⟨_, by omega, _, j + 1, rfl, hlt, rfl, e0, e1, rfl, by trivial, hnext⟩
    · obtain rfl : j = xs.length := by omega
      (refine @Hid.out _ ?_; refine zA y40_89 ?_; (repeat (refine inC ?_; intro hc)); try (refine inK ?_; intro K hK))
      (refine wpX_ret ?_; (try simp only [nq, ↓reduceIte, Nat.reduceEqDiff]); rw [bodyX_ret, results_one Tryz.results40 (by decide)]; simp only [upd_get, Nat.reduceEqDiff, ↓reduceIte])
      exact ⟨by trivial, _, rfl, .inl ⟨rfl, by simpa using hno⟩⟩
end Go.Proofs.YtofmadjgbcopdaaGreatDoor
end
section
set_option linter.unusedSimpArgs false
set_option maxRecDepth 100000
set_option maxHeartbeats 1000000
set_option linter.unusedVariables false
namespace Go.Proofs.YtofmadjgbcopdaaGreatDoor
open Go Go.X
theorem oList_len (m : Nat) : (oList m).length = oCount m := by
  simp [oList, oListN, oCount, List.countP_eq_length_filter]
def optsF (pl : Int) (m : Nat) (t : Int) : List Int := if m.testBit t.toNat then [-1] else if pl ≤ oCount m then oList m else [-1]
def costF (m : Nat) (t : Int) : Nat := if m.testBit t.toNat then 0 else 1
theorem oWith_bit (m n x : Nat) : (oWith m n).testBit x = (m.testBit x || decide (x = n)) := by
  unfold oWith
  rw [Nat.testBit_or, Nat.testBit_two_pow]
  congr 1
  exact decide_eq_decide.2 eq_comm
theorem mask_bit : ∀ n : Fin 6, ∀ x : Fin 6, (63 - 2 ^ n.val).testBit x.val = !decide (x.val = n.val) := by decide
theorem oWithout_bit (m n x : Nat) (hn : n < 6) (hx : x < 6) : (oWithout m n).testBit x = (m.testBit x && !decide (x = n)) := by
  unfold oWithout
  rw [Nat.testBit_and, mask_bit ⟨n, hn⟩ ⟨x, hx⟩]
theorem oNext_bit (m : Nat) (s t : Int) (hs : -1 ≤ s) (hs6 : s < 6) (h0 : 0 ≤ t) (x : Nat) (hx : x < 6) : (oNext m s t).testBit x = (decide ((x : Int) = t) || (m.testBit x && !decide ((x : Int) = s))) := by
  unfold oNext
  rw [oWith_bit]
  have ht : decide (x = t.toNat) = decide ((x : Int) = t) := decide_eq_decide.2 (by omega)
  rw [ht]
  split
  · rw [oWithout_bit m _ x (by omega) hx]
    have : decide (x = s.toNat) = decide ((x : Int) = s) := decide_eq_decide.2 (by omega)
    rw [this, Bool.or_comm]
  · have : decide ((x : Int) = s) = false := decide_eq_false (by omega)
    rw [this, Bool.not_false, Bool.and_true, Bool.or_comm]
def inO (m : Nat) (x : Int) : Prop := 0 ≤ x ∧ x < 6 ∧ m.testBit x.toNat = true
theorem inO_next {m : Nat} {s t x : Int} (hs : -1 ≤ s) (hs6 : s < 6) (h0 : 0 ≤ t) (h6 : t < 6) : inO (oNext m s t) x ↔ x = t ∨ (inO m x ∧ x ≠ s) := by
  unfold inO
  by_cases hx : 0 ≤ x ∧ x < 6
  · rw [oNext_bit m s t hs hs6 h0 x.toNat (by omega), Bool.or_eq_true, Bool.and_eq_true, Bool.not_eq_true', decide_eq_true_eq, decide_eq_false_iff_not]
    have hxe : (x.toNat : Int) = x := by omega
    rw [hxe]
    constructor
    · rintro ⟨_, _, h | h⟩
      · exact .inl h
      · exact .inr ⟨⟨hx.1, hx.2, h.1⟩, h.2⟩
    · rintro (h | h)
      · exact ⟨hx.1, hx.2, .inl h⟩
      · exact ⟨hx.1, hx.2, .inr ⟨h.1.2.2, h.2⟩⟩
  · constructor
    · rintro ⟨h1, h2, _⟩; exact absurd ⟨h1, h2⟩ hx
    · rintro (h | h)
      · exact absurd ⟨by omega, by omega⟩ hx
      · exact absurd ⟨h.1.1, h.1.2.1⟩ hx
theorem inO_list {m : Nat} {x : Int} : x ∈ oList m ↔ inO m x := by
  refine ⟨fun h => oList_mem h, fun ⟨h0, h6, hb⟩ => ?_⟩
  simp only [oList, oListN, List.mem_map, List.mem_filter, List.mem_range]
  exact ⟨x.toNat, ⟨by omega, by simpa using hb⟩, by omega⟩
theorem inO_bit {m : Nat} {x : Int} (h0 : 0 ≤ x) (h6 : x < 6) : m.testBit x.toNat = true ↔ inO m x := ⟨fun h => ⟨h0, h6, h⟩, fun h => h.2.2⟩
theorem oCount_mono {m n : Nat} (h : ∀ x, inO m x → inO n x) : oCount m ≤ oCount n := by
  unfold oCount
  refine List.countP_mono_left fun x hx hb => ?_
  rw [List.mem_range] at hx
  have := (h (x : Int) ⟨by omega, by omega, by simpa using hb⟩).2.2
  simpa using this
theorem optsF_range {pl : Int} {m : Nat} {t s : Int} (h : s ∈ optsF pl m t) : -1 ≤ s ∧ s < 6 := by
  unfold optsF at h
  split at h
  · rw [List.mem_singleton.1 h]; omega
  · split at h
    · have := oList_mem h; omega
    · rw [List.mem_singleton.1 h]; omega
theorem optsF_hit {pl : Int} {m : Nat} {t : Int} (h0 : 0 ≤ t) (h6 : t < 6) (h : inO m t) : optsF pl m t = [-1] ∧ costF m t = 0 := by
  unfold optsF costF
  rw [(inO_bit h0 h6).2 h]
  simp
theorem optsF_miss {pl : Int} {m : Nat} {t : Int} (h : ¬ inO m t) (h0 : 0 ≤ t) (h6 : t < 6) : optsF pl m t = (if pl ≤ oCount m then oList m else [-1]) ∧ costF m t = 1 := by
  unfold optsF costF
  have : m.testBit t.toNat ≠ true := fun hb => h ((inO_bit h0 h6).1 hb)
  simp [this]
theorem inO_none {m : Nat} {x : Int} (h : inO m x) : x ≠ -1 := fun e => by have := h.1; omega
theorem next_count : ∀ m : Fin 64, ∀ s t : Fin 6, m.val.testBit s.val = true → m.val.testBit t.val = false → oCount (oNext m.val (s.val : Int) (t.val : Int)) = oCount m.val := by decide +kernel
theorem next_more : ∀ m : Fin 64, ∀ t : Fin 6, oCount (oNext m.val (-1) (t.val : Int)) ≤ oCount m.val + 1 := by decide +kernel
theorem oCount_send {m : Nat} {s t : Int} (hm : m < 64) (hs : inO m s) (h0 : 0 ≤ t) (h6 : t < 6) (ht : ¬ inO m t) : oCount (oNext m s t) = oCount m := by
  have := next_count ⟨m, hm⟩ ⟨s.toNat, by have := hs.1; have := hs.2.1; omega⟩ ⟨t.toNat, by omega⟩ hs.2.2 (by
    cases hb : m.testBit t.toNat
    · rfl
    · exact absurd ⟨h0, h6, hb⟩ ht)
  simp only [] at this
  rwa [show ((s.toNat : Nat) : Int) = s by have := hs.1; omega, show ((t.toNat : Nat) : Int) = t by omega] at this
theorem oCount_more {m : Nat} {t : Int} (hm : m < 64) (h0 : 0 ≤ t) (h6 : t < 6) : oCount (oNext m (-1) t) ≤ oCount m + 1 := by
  have := next_more ⟨m, hm⟩ ⟨t.toNat, by omega⟩
  simp only [] at this
  rwa [show ((t.toNat : Nat) : Int) = t by omega] at this
theorem oCount_hit {m : Nat} {t : Int} (h0 : 0 ≤ t) (h6 : t < 6) (ht : inO m t) : oCount (oNext m (-1) t) ≤ oCount m := oCount_mono fun x hx => by
  rcases (inO_next (by omega) (by omega) h0 h6).1 hx with rfl | hx
  · exact ht
  · exact hx.1
structure Fit (pl : Int) (m : Nat) : Prop where
  lt : m < 64
  few : (oCount m : Int) ≤ pl
theorem Fit.next {pl : Int} {m : Nat} {s t : Int} (h : Fit pl m) (h0 : 0 ≤ t) (h6 : t < 6) (hs : s ∈ optsF pl m t) : Fit pl (oNext m s t) := by
  refine ⟨oNext_lt h.lt (optsF_range hs).2 h0 h6, ?_⟩
  have hf := h.few
  by_cases ht : inO m t
  · rw [(optsF_hit h0 h6 ht).1, List.mem_singleton] at hs
    subst hs
    have := oCount_hit h0 h6 ht
    omega
  · rw [(optsF_miss ht h0 h6).1] at hs
    split at hs
    · have := oCount_send h.lt (inO_list.1 hs) h0 h6 ht
      omega
    · rw [List.mem_singleton] at hs
      subst hs
      have := oCount_more h.lt h0 h6
      omega
theorem pickF_min (rk : Int → Int) : ∀ (l : List Int) (c : Int), (∀ x ∈ l, 0 ≤ x) → (c < 0 → l ≠ []) →
    let r := l.foldl (fun c q => if c < 0 ∨ rk q < rk c then q else c) c
    (r ∈ l ∨ (r = c ∧ 0 ≤ c)) ∧ (∀ x ∈ l, rk r ≤ rk x) ∧ (0 ≤ c → rk r ≤ rk c)
  | [], c, _, hc => by
    refine ⟨.inr ⟨rfl, ?_⟩, by simp, fun _ => Int.le_refl _⟩
    exact Int.not_lt.1 fun h => hc h rfl
  | x :: l, c, hl, hc => by
    have hx := hl x List.mem_cons_self
    simp only [List.foldl_cons]
    by_cases hif : c < 0 ∨ rk x < rk c
    · rw [if_pos hif]
      obtain ⟨h1, h2, h3⟩ := pickF_min rk l x (fun y hy => hl y (List.mem_cons_of_mem _ hy)) (by omega)
      refine ⟨.inl ?_, fun y hy => ?_, fun h => ?_⟩
      · rcases h1 with h1 | h1
        · exact List.mem_cons_of_mem _ h1
        · rw [h1.1]; exact List.mem_cons_self
      · rcases List.mem_cons.1 hy with rfl | hy
        · exact h3 hx
        · exact h2 y hy
      · have := h3 hx; omega
    · rw [if_neg hif]
      have hc0 : 0 ≤ c := by omega
      obtain ⟨h1, h2, h3⟩ := pickF_min rk l c (fun y hy => hl y (List.mem_cons_of_mem _ hy)) (by omega)
      refine ⟨?_, fun y hy => ?_, h3⟩
      · rcases h1 with h1 | h1
        · exact .inl (List.mem_cons_of_mem _ h1)
        · exact .inr h1
      · rcases List.mem_cons.1 hy with rfl | hy
        · have := h3 hc0; omega
        · exact h2 y hy
theorem pickF_spec (rk : Int → Int) (m : Nat) (h : 0 < oCount m) : inO m (pickF rk (oList m)) ∧ ∀ x, inO m x → rk (pickF rk (oList m)) ≤ rk x := by
  obtain ⟨h1, h2, _⟩ := pickF_min rk (oList m) (-1) (fun x hx => (oList_mem hx).1) (fun _ hn => by
    have := oList_len m; rw [hn] at this; simp at this; omega)
  refine ⟨?_, fun x hx => h2 x (inO_list.2 hx)⟩
  rcases h1 with h1 | h1
  · exact inO_list.1 h1
  · omega
theorem sendB_iff {pl : Int} {m : Nat} {t : Int} (h0 : 0 ≤ t) (h6 : t < 6) : sendB pl m t = true ↔ ¬ inO m t ∧ pl ≤ oCount m := by
  unfold sendB
  rw [Bool.and_eq_true, Bool.not_eq_true', decide_eq_true_eq, ← inO_bit h0 h6]
  simp
theorem rsent_opts {pl r : Int} {ts : List Int} {i : Nat} {t : Int} {s : RS} (h1 : 1 ≤ pl) (h0 : 0 ≤ t) (h6 : t < 6) : rsent pl r ts i t s ∈ optsF pl s.m t := by
  unfold rsent
  by_cases hs : sendB pl s.m t = true
  · rw [if_pos hs]
    obtain ⟨hm, hf⟩ := (sendB_iff h0 h6).1 hs
    rw [(optsF_miss hm h0 h6).1, if_pos hf]
    exact inO_list.2 (pickF_spec _ s.m (by omega)).1
  · rw [if_neg hs]
    by_cases hm : inO s.m t
    · rw [(optsF_hit h0 h6 hm).1]; simp
    · rw [(optsF_miss hm h0 h6).1, if_neg (fun hf => hs ((sendB_iff h0 h6).2 ⟨hm, hf⟩))]; simp
theorem ts_in {ts : List Int} {i : Nat} (h : i < ts.length) (hb : ∀ t ∈ ts, 0 ≤ t ∧ t < 6) : 0 ≤ ts.getD i 0 ∧ ts.getD i 0 < 6 := by
  simp [List.getD, List.getElem?_eq_getElem h]
  exact hb _ (List.getElem_mem _)
theorem cost_f (s : RS) (pl r : Int) (ts : List Int) (i : Nat) (t : Int) : (rstep pl r ts i t s).f = s.f + costF s.m t := by
  simp [rstep, costF]
theorem oWith_inO {m : Nat} {n x : Int} (h0 : 0 ≤ n) (h6 : n < 6) : inO (oWith m n.toNat) x ↔ x = n ∨ inO m x := by
  have := inO_next (m := m) (s := -1) (t := n) (x := x) (by omega) (by omega) h0 h6
  have e : oNext m (-1) n = oWith m n.toNat := by simp [oNext]
  rw [e] at this
  rw [this]
  constructor
  · rintro (h | h)
    · exact .inl h
    · exact .inr h.1
  · rintro (h | h)
    · exact .inl h
    · exact .inr ⟨h, inO_none h⟩
theorem oOf_inO : ∀ (xs : List Int) (m : Nat) (x : Int), (∀ y ∈ xs, 0 ≤ y ∧ y < 6) → (inO (xs.foldl (fun m x => oWith m x.toNat) m) x ↔ x ∈ xs ∨ inO m x)
  | [], m, x, _ => by simp
  | y :: xs, m, x, h => by
    have hy := h y List.mem_cons_self
    rw [List.foldl_cons, oOf_inO xs _ x fun z hz => h z (List.mem_cons_of_mem _ hz), oWith_inO hy.1 hy.2, List.mem_cons]
    constructor
    · rintro (h | h | h)
      · exact .inl (.inr h)
      · exact .inl (.inl h)
      · exact .inr h
    · rintro ((h | h) | h)
      · exact .inr (.inl h)
      · exact .inl h
      · exact .inr (.inr h)
theorem inO_zero (x : Int) : ¬ inO 0 x := fun h => by have := h.2.2; simp at this
theorem start_inO {start : List Int} (h : ∀ y ∈ start, 0 ≤ y ∧ y < 6) (x : Int) : inO (oOf start) x ↔ x ∈ start := by
  rw [oOf, oOf_inO start 0 x h]
  exact ⟨fun h => h.resolve_right (inO_zero x), .inl⟩
theorem rrun_cl {pl r : Int} {ts : List Int} {s0 : RS} (hl : s0.cl.length = 8) (h8 : ts.length ≤ 8) : ∀ k, k ≤ ts.length → (rrun pl r ts s0 k).cl.length = 8 ∧ ∀ i, i < k → (rrun pl r ts s0 k).cl[i]? = some (rsent pl r ts i (ts.getD i 0) (rrun pl r ts s0 i))
  | 0, _ => ⟨hl, fun i h => by omega⟩
  | k + 1, h => by
    obtain ⟨h1, h2⟩ := rrun_cl (pl := pl) (r := r) (s0 := s0) hl h8 k (by omega)
    refine ⟨by simp [rrun, rstep, h1], fun i hi => ?_⟩
    simp only [rrun, rstep]
    by_cases hik : i = k
    · subst hik
      rw [List.getElem?_set_self (by omega)]
    · rw [List.getElem?_set_ne (by omega)]
      exact h2 i (by omega)
theorem sents_at {pl r : Int} {ts : List Int} {s0 : RS} (hl : s0.cl.length = 8) (h8 : ts.length ≤ 8) {i : Nat} (hi : i < ts.length) : ((rrun pl r ts s0 ts.length).cl.take ts.length).getD i 0 = rsent pl r ts i (ts.getD i 0) (rrun pl r ts s0 i) := by
  have := (rrun_cl (pl := pl) (r := r) hl h8 ts.length (Nat.le_refl _)).2 i hi
  simp [List.getD, List.getElem?_take_of_lt hi, this]
theorem nhS_run {pl r : Int} {ts start : List Int} (h1 : 1 ≤ pl) (h8 : ts.length ≤ 8) (hb : ∀ t ∈ ts, 0 ≤ t ∧ t < 6) (hs : ∀ y ∈ start, 0 ≤ y ∧ y < 6) (ss : List Int) (hss : ∀ i, i < ts.length → ss.getD i 0 = rsent pl r ts i (ts.getD i 0) (rrun pl r ts (rs0 start) i)) :
    ∀ i, i ≤ ts.length → (∀ x, x ∈ (nhS ts ss start i).1 ↔ inO (rrun pl r ts (rs0 start) i).m x) ∧ (nhS ts ss start i).2.length = (rrun pl r ts (rs0 start) i).f ∧ ∀ j ∈ (nhS ts ss start i).2, 0 ≤ j ∧ j < i
  | 0, _ => ⟨fun x => (start_inO hs x).symm, rfl, by simp [nhS]⟩
  | i + 1, h => by
    obtain ⟨ih1, ih2, ih3⟩ := nhS_run h1 h8 hb hs ss hss i (by omega)
    have h6 := ts_in (i := i) (by omega) hb
    have hsi := hss i (by omega)
    have hmem := rsent_opts (pl := pl) (r := r) (ts := ts) (i := i) (s := rrun pl r ts (rs0 start) i) h1 h6.1 h6.2
    have e : (rrun pl r ts (rs0 start) (i + 1)).m = oNext (rrun pl r ts (rs0 start) i).m (rsent pl r ts i (ts.getD i 0) (rrun pl r ts (rs0 start) i)) (ts.getD i 0) := rfl
    have ef : (rrun pl r ts (rs0 start) (i + 1)).f = (rrun pl r ts (rs0 start) i).f + costF (rrun pl r ts (rs0 start) i).m (ts.getD i 0) := cost_f _ _ _ _ _ _
    rw [e, ef]
    rw [nhS, hsi]
    have hsr := optsF_range hmem
    by_cases ht : inO (rrun pl r ts (rs0 start) i).m (ts.getD i 0)
    · rw [if_pos ((ih1 _).2 ht)]
      obtain ⟨ho, hc⟩ := optsF_hit (pl := pl) h6.1 h6.2 ht
      rw [ho, List.mem_singleton] at hmem
      rw [hmem, hc]
      refine ⟨fun x => ?_, ih2, fun j hj => by have := ih3 j hj; omega⟩
      rw [ih1, inO_next (by omega) (by omega) h6.1 h6.2]
      constructor
      · intro hx; exact .inr ⟨hx, inO_none hx⟩
      · rintro (rfl | hx)
        · exact ht
        · exact hx.1
    · rw [if_neg (fun h => ht ((ih1 _).1 h))]
      obtain ⟨ho, hc⟩ := optsF_miss (pl := pl) ht h6.1 h6.2
      rw [hc]
      refine ⟨fun x => ?_, by simp [ih2], fun j hj => ?_⟩
      · rw [inO_next hsr.1 hsr.2 h6.1 h6.2, List.mem_append, List.mem_filter, List.mem_singleton, ih1]
        simp only [Bool.not_eq_true', beq_eq_false_iff_ne, ne_eq]
        exact or_comm
      · simp only [List.mem_append, List.mem_singleton] at hj
        rcases hj with hj | rfl
        · have := ih3 j hj; omega
        · omega
structure NumOk (n : HN) : Prop where
  pl : 1 ≤ n.places
  t8 : n.ts.length ≤ 8
  tb : ∀ t ∈ n.ts, 0 ≤ t ∧ t < 6
  sb : ∀ y ∈ n.start, 0 ≤ y ∧ y < 6
  sl : (n.start.length : Int) ≤ n.places
theorem HN.jobs_run (n : HN) (h : NumOk n) : n.jobs.length = (rrun n.places n.rule n.ts (rs0 n.start) n.ts.length).f ∧ ∀ j ∈ n.jobs, 0 ≤ j ∧ j < n.ts.length := by
  have hcl : (rs0 n.start).cl.length = 8 := by simp [rs0]
  have := nhS_run (r := n.rule) h.pl h.t8 h.tb h.sb n.sents (fun i hi => sents_at hcl h.t8 hi) n.ts.length (Nat.le_refl _)
  exact this.2
end Go.Proofs.YtofmadjgbcopdaaGreatDoor
end
section
set_option linter.unusedSimpArgs false
set_option maxRecDepth 100000
set_option maxHeartbeats 1000000
set_option linter.unusedVariables false
namespace Go.Proofs.YtofmadjgbcopdaaGreatDoor
open Go Go.X
theorem append_rowI {H₀ H : Hp} {v : Value} {xs ys : List Int} (h : RowX none H₀ H v 3 (ints xs)) {g o m cap : Nat} (hm : ys.length = m) (hgx : ∃ u, H g = some u) (hsep : rowB v ≠ some g)
    (hys : ∀ (j : Nat) (y : Int), ys[j]? = some y → H.cell ⟨g, o + j, none⟩ = some (.int .i64 y)) (hn : xs.length + m ≤ 1000000) (ty : TypeId) (cb : Array Bool) (K : Next → Hp → Prop) (E : Value → Hp → Prop)
    (h' : ∀ v' H', RowX none H₀ H' v' 3 (ints (xs ++ ys)) → (∀ x u, H x = some u → rowB v ≠ some x → H' x = some u) → K (.value v') H') :
    wpS Tryz.prog (builtin .append #[22, 22] ty cb #[v, .slice (some ⟨g, o, none⟩) m cap]) H K E := by
  obtain ⟨hlex, hrow⟩ := h
  obtain ⟨ug, hug⟩ := hgx
  rcases hrow with ⟨rfl, hx0⟩ | ⟨b, c, cp, hb0, hb, rfl, hcs, hcap, hget⟩
  · have : xs = [] := by simpa [ints] using hx0
    subst this
    refine append_ints (H₀ := H) (H := H) (n := 0) (xs := []) (NewRow.nil H _ 1) (Hp.le_refl _) hm id hys (by omega) ty cb K E (fun v' H1 H2 hr hl => ?_)
    have hle : H.le H2 := fun x u hx => hl _ _ (hr.le _ _ hx)
    refine h' v' H2 ⟨hlex.le hle, ?_⟩ (fun x u hx _ => hle _ _ hx)
    rcases hr with ⟨rfl, hn0, he, _⟩ | ⟨b', c', cap', hb', rfl, rfl, hs', hl', hn', hg'⟩
    · exact .inl ⟨rfl, he⟩
    · refine .inr ⟨b', c', cap', hlex.gone hb', hl _ _ (by rw [get_set, if_pos rfl]), ?_, by omega, by omega, hg'⟩
      rw [hl', Nat.mul_one]
  · have hgb : g ≠ b := fun e => hsep (by rw [e]; rfl)
    have hD : (fun x => if x = b then none else H x : Hp) b = none := by simp
    have hH : H = Hp.set (fun x => if x = b then none else H x) b (.cells c 3 (0, 0)) := by
      funext x
      unfold Hp.set
      by_cases e : x = b
      · subst e; simp [hb]
      · simp [e]
    rw [ints_len] at hcap
    have hil := ints_len xs
    refine append_ints (H₀ := fun x => if x = b then none else H x) (H := H) (n := xs.length) (xs := xs) (.inr ⟨b, c, cp, hD, hH, by rw [hil], by omega, by omega, hcap, hget⟩) (Hp.le_refl _) hm (fun h => by simp only [hgb, if_false] at h; exact h) hys (by omega) ty cb K E (fun v' H1 H2 hr hl => ?_)
    have hkeep : ∀ x u, x ≠ b → H x = some u → H2 x = some u := fun x u hn hx => hl _ _ (hr.le _ _ (by simp only [hn, if_false]; exact hx))
    have hlx : Lex none H₀ H2 := fun x u hx => by
      obtain ⟨u', hu', e'⟩ := hlex x u hx
      exact ⟨u', hkeep x u' (fun e => by rw [e, hb0] at hx; cases hx) hu', e'⟩
    rcases hr with ⟨rfl, hn0, he, _⟩ | ⟨b', c', cap', hb', rfl, rfl, hs', hl', hn', hg'⟩
    · exact h' _ H2 ⟨hlx, .inl ⟨rfl, he⟩⟩ (fun x u hx ho => hkeep x _ (fun e => ho (by rw [e]; rfl)) hx)
    · have hb2 : H2 b' = some (true, .cells c' 3 (0, 0)) := hl _ _ (by rw [get_set, if_pos rfl])
      have hb'0 : H₀ b' = none := by
        by_cases e : b' = b
        · rw [e]; exact hb0
        · simp only [e, if_false] at hb'; exact hlex.gone hb'
      refine h' _ H2 ⟨hlx, .inr ⟨b', c', cap', hb'0, hb2, ?_, by omega, by omega, hg'⟩⟩ (fun x u hx ho => hkeep x _ (fun e => ho (by rw [e]; rfl)) hx)
      rw [hl', Nat.mul_one]
theorem filter_out {xs : List Int} {s : Int} {k : Nat} (hn : xs.Nodup) (hk : xs[k]? = some s) : (xs.filter fun x => !(x == s)) = xs.take k ++ xs.drop (k + 1) := by
  induction xs generalizing k with
  | nil => cases hk
  | cons x xs ih =>
    rw [List.nodup_cons] at hn
    cases k with
    | zero =>
      have hx : x = s := by simpa using hk
      subst hx
      simp only [List.filter_cons, beq_self_eq_true, Bool.not_true, Bool.false_eq_true, if_false, List.take_zero, List.nil_append, Nat.zero_add, List.drop_succ_cons, List.drop_zero]
      rw [List.filter_eq_self]
      intro a ha
      have : a ≠ x := fun e => hn.1 (e ▸ ha)
      simpa using this
    | succ k =>
      have hk' : xs[k]? = some s := by simpa using hk
      have hne : x ≠ s := fun e => hn.1 (e ▸ List.mem_of_getElem? hk')
      rw [List.filter_cons_of_pos (by simpa using hne), ih hn.2 hk']
      rfl
theorem filter_none {xs : List Int} {s : Int} (h : s ∉ xs) : (xs.filter fun x => !(x == s)) = xs := by
  rw [List.filter_eq_self]
  intro a ha
  have : a ≠ s := fun e => h (e ▸ ha)
  simpa using this
theorem nhS_nodup {ts ss start : List Int} (h : start.Nodup) : ∀ i, (nhS ts ss start i).1.Nodup
  | 0 => h
  | i + 1 => by
    have ih := nhS_nodup (ts := ts) (ss := ss) h i
    unfold nhS
    split
    · exact ih
    · rename_i hm
      rw [List.nodup_append]
      refine ⟨ih.filter _, by simp, fun a ha b hb => ?_⟩
      have : b = ts.getD i 0 := by simpa using hb
      subst this
      exact fun e => hm (e ▸ (List.mem_filter.1 ha).1)
theorem nhS_pre (ts ss start : List Int) (i : Nat) : ∀ j, ∃ l, (nhS ts ss start (i + j)).2 = (nhS ts ss start i).2 ++ l
  | 0 => ⟨[], by simp⟩
  | j + 1 => by
    obtain ⟨l, hl⟩ := nhS_pre ts ss start i j
    rw [show i + (j + 1) = (i + j) + 1 by omega, nhS]
    split
    · exact ⟨l, hl⟩
    · exact ⟨l ++ [((i + j : Nat) : Int)], by simp only [hl, List.append_assoc]⟩
end Go.Proofs.YtofmadjgbcopdaaGreatDoor
end
section
set_option linter.unusedSimpArgs false
set_option maxRecDepth 100000
set_option maxHeartbeats 2000000
set_option linter.unusedVariables false
namespace Go.Proofs.YtofmadjgbcopdaaGreatDoor
open Go Go.X
set_option linter.defProp false
def y4_92 := And.intro @callF21 (And.intro @callF38 (And.intro (fun H => ex_alloc (H := H) (P := Tryz.prog) (h := Tryz.zeroValue29)) (And.intro (fun H => storeAt_agg (H := H) Tryz.sizeOf29) (And.intro (fun H => loadAt_aggE (H := H) Tryz.underlying29 rfl Tryz.sizeOf29) (And.intro @callF26 (And.intro (fun H => fieldAt_eq (H := H) Tryz.underlying29 (i := 0) rfl (off := 0) rfl Tryz.sizeOf25) (And.intro (fun H => loadAt_aggE (H := H) Tryz.underlying25 rfl Tryz.sizeOf25) (And.intro (fun H => fieldAt_eq (H := H) Tryz.underlying29 (i := 1) rfl (off := 4) rfl Tryz.sizeOf22) (And.intro (fun H => loadAt_one (H := H) Tryz.underlying22 rfl) (And.intro (fun H => fieldAt_eq (H := H) Tryz.underlying29 (i := 2) rfl (off := 5) rfl Tryz.sizeOf3) (And.intro (fun H => loadAt_one (H := H) Tryz.underlying3 rfl) (And.intro @callF39 (And.intro (fun H => len_slice (H := H) Tryz.underlying22) (And.intro (fun H => fieldAt_eq (H := H) Tryz.underlying25 (i := 2) rfl (off := 2) rfl Tryz.sizeOf22) (And.intro @callF31 (And.intro (fun H => indexAt_slice (H := H) Tryz.underlying22 Tryz.sizeOf3) (And.intro @callF40 (And.intro (fun H => slice_hi (H := H) Tryz.underlying22 Tryz.sizeOf3) (And.intro (fun H => slice_lo (H := H) Tryz.underlying22 Tryz.sizeOf3) (And.intro (fun H => slice_lohi (H := H) Tryz.underlying22 Tryz.sizeOf3) (And.intro @lit_22_1_0_0 @callF20)))))))))))))))))))))
theorem HaulIn.numO {H : Hp} {n : HN} {v : HV} (h : HaulIn H n v) : NumOk n :=
  ⟨h.day.ok.1, by have := h.day.true.1; have := h.day.few; omega, h.day.true.bnd h.day.ok, fun x hx => by
    have := h.day.ok.2.2.2.2.2.2.1 x hx; have := h.day.ok.2.2.2.1; omega, h.day.ok.2.2.2.2.1⟩
theorem HN.sents_len (n : HN) (h : NumOk n) : n.sents.length = n.ts.length := by
  have hcl : (rs0 n.start).cl.length = 8 := by simp [rs0]
  have := (rrun_cl (pl := n.places) (r := n.rule) hcl h.t8 n.ts.length (Nat.le_refl _)).1
  have h8 := h.t8
  show ((rrun n.places n.rule n.ts (rs0 n.start) n.ts.length).cl.take n.ts.length).length = _
  rw [List.length_take]
  omega
theorem sli_take {H : Hp} {a : Option Addr} {m cap : Nat} {xs : List Int} (h : SlI H (.slice a m cap) xs) {k : Nat} (hk : k ≤ xs.length) : SlI H (.slice a k cap) (xs.take k) := by
  obtain ⟨a', c', h1, h2, h3⟩ := h
  cases h1
  have hl : (xs.take k).length = k := by rw [List.length_take]; omega
  refine ⟨_, _, by rw [hl], by omega, fun i x hi => ?_⟩
  rw [List.getElem?_take] at hi
  split at hi
  · exact h3 i x hi
  · cases hi
theorem bjobs_spec (H : Hp) (sa : Option Addr) (sl sc : Nat) (hs : ∀ i : Nat, i < sl → ∃ sb so c e fr x, sa = some ⟨sb, so, none⟩ ∧ H sb = some (false, .cells c e fr) ∧ c[so + i]? = some (.int .i64 x)) :
    FnX Tryz.prog (.co Tryz.prog) 4 #[.slice sa sl sc] H fun e _ => e = .returned (.bool true) := by
  refine FnX_start Tryz.func4 rfl Tryz.ntmps4 (by simp) ?_
  (refine @Hid.out _ ?_; refine zA y4_92 ?_; (repeat (refine inC ?_; intro hc)); try (refine inK ?_; intro K hK))
  refine (newTin_spec _ H sa sl sc hs 220 (by omega)).runs.mono ?_
  rintro _ H1 ⟨tb, rfl, l1, hT⟩
  ((try (refine @Hid.out _ ?_; refine zX y4_92 ?_)); (try (refine hK _ _ ?_; clear hK K; (try simp only [nq, ↓reduceIte, Nat.reduceEqDiff]))); refine @Hid.out _ ?_; refine zA y4_92 ?_; (repeat (refine inC ?_; intro hc)); try (refine inK ?_; intro K hK))
  refine (haulN_spec _ H1 tb 0 8 (by omega) hT).runs.mono ?_
  rintro _ H2 ⟨n, v, rfl, hd2, hx8, _, _⟩
  obtain ⟨sv, cv, tv, xv⟩ := v
  obtain ⟨a1, n1, c1, hsv⟩ := hd2.day.st.isSlice
  obtain ⟨a2, n2, c2, hcv⟩ := hd2.day.calls.isSlice
  obtain ⟨a3, c3, htv, ht3, _⟩ := id hd2.day.truth
  obtain ⟨a4, n4, c4, hxv⟩ := hd2.times.isSlice
  simp only [] at hsv hcv htv hxv
  subst hsv hcv htv hxv
  have hjob := fun H' h' => jobs_spec (.co Tryz.prog) H' n ⟨.slice a1 n1 c1, .slice a2 n2 c2, .slice a3 n.ts.length c3, .slice a4 n4 c4⟩ h'
  simp only [HN.agg] at hjob ⊢
  clear hT hs l1
  ((try (refine @Hid.out _ ?_; refine zX y4_92 ?_)); (try (refine hK _ _ ?_; clear hK K; (try simp only [nq, ↓reduceIte, Nat.reduceEqDiff]))); refine @Hid.out _ ?_; refine zA y4_92 ?_; (repeat (refine inC ?_; intro hc)); try (refine inK ?_; intro K hK))
  (intro hb hhb; generalize hG : Hp.set _ hb _ = H3; have lH3 := le_of_set hG hhb; have vhb := at_of_set hG; clear hG)
  have hd3 := hd2.le lH3
  clear hd2 lH3 hhb
  ((try (refine @Hid.out _ ?_; refine zX y4_92 ?_)); (try (refine hK _ _ ?_; clear hK K; (try simp only [nq, ↓reduceIte, Nat.reduceEqDiff]))); refine @Hid.out _ ?_; refine zA y4_92 ?_; (repeat (refine inC ?_; intro hc)); try (refine inK ?_; intro K hK))
  refine (hjob H3 hd3).runs.mono ?_
  rintro _ H4 ⟨jv, rfl, lH4, hj4⟩
  have hd4 := hd3.le lH4
  have vhb4 := lH4 _ _ vhb
  clear hjob hd3 lH4 vhb
  have hrun := fun H' (h' : HaulIn H' n ⟨.slice a1 n1 c1, .slice a2 n2 c2, .slice a3 n.ts.length c3, .slice a4 n4 c4⟩) => vrun_spec (.co Tryz.prog) H' n.places n.pieces (.slice a1 n1 c1) (.slice a2 n2 c2) (.slice a3 n.ts.length c3) n.start n.xss n.ts h'.day n.rule h'.r0 h'.r3
  ((try (refine @Hid.out _ ?_; refine zX y4_92 ?_)); (try (refine hK _ _ ?_; clear hK K; (try simp only [nq, ↓reduceIte, Nat.reduceEqDiff]))); refine @Hid.out _ ?_; refine zA y4_92 ?_; (repeat (refine inC ?_; intro hc)); try (refine inK ?_; intro K hK))
  refine (hrun H4 hd4).runs.mono ?_
  rintro _ H5 ⟨cw, rfl, lH5, hcw⟩
  have hd5 := hd4.le lH5
  have hj5 := hj4.le lH5
  have vhb5 := lH5 _ _ vhb4
  clear hrun hd4 hj4 lH5 vhb4
  have hnum := hd5.numO
  have hsl := n.sents_len hnum
  obtain ⟨hjf, hjr⟩ := n.jobs_run hnum
  rw [← hjf]
  replace hcw : SlI H5 cw n.sents := hcw
  obtain ⟨ca, cc, rfl, hcc, _⟩ := id hcw
  obtain ⟨ja, jc, rfl, hjc, _⟩ := id hj5
  rw [hsl] at hcw ⊢
  have ht8 := hnum.t8
  clear hjf hnum
  generalize hJ : n.jobs = js at *
  generalize hS : n.sents = ss at *
  have hsl' : SameP (ss.length = n.ts.length) := hsl
  have hJ' : SameP (n.jobs = js) := hJ
  have hS' : SameP (n.sents = ss) := hS
  clear hsl hJ hS
  have hjr' : SameP _ := hjr
  clear hjr
  ((try (refine @Hid.out _ ?_; refine zX y4_92 ?_)); (try (refine hK _ _ ?_; clear hK K; (try simp only [nq, ↓reduceIte, Nat.reduceEqDiff]))); refine @Hid.out _ ?_; refine zA y4_92 ?_; (repeat (refine inC ?_; intro hc)); try (refine inK ?_; intro K hK))
  have hst4 : n.start.length ≤ 4 := by have := hd5.day.ok.2.2.2.2.1; have := hd5.day.ok.2.1; omega
  have hnd := hd5.day.ok.2.2.2.2.2.1
  refine (keepI_spec _ H5 _ n.start hd5.day.st (by omega)).runs.mono ?_
  rintro _ H6 ⟨ow, rfl, hrow6⟩
  have htr5 : SlI H5 (.slice a3 n.ts.length c3) n.ts := hd5.day.truth
  clear hd5
  ((try (refine @Hid.out _ ?_; refine zX y4_92 ?_)); (try (refine hK _ _ ?_; clear hK K; (try simp only [nq, ↓reduceIte, Nat.reduceEqDiff]))); refine @Hid.out _ ?_; refine zA y4_92 ?_; (repeat (refine inC ?_; intro hc)); try (refine inK ?_; intro K hK))
  refine wpX_loop (fun w a' H' => ∃ e i ov, w = n.ts.length - i ∧ i ≤ n.ts.length ∧ a' = act 117 e [] ∧ e 3 = .pointer (some ⟨hb, 0, none⟩) ∧ e 4 = .slice ja js.length jc ∧ e 6 = .slice ca n.ts.length cc ∧ e 9 = ov ∧ e 10 = .int .i64 ((nhS n.ts ss n.start i).2.length : Nat) ∧ e 11 = .int .i64 (i : Nat) ∧ RowX none H5 H' ov 3 (ints (nhS n.ts ss n.start i).1)) (n := n.ts.length) ?_ ?_
  · exact ⟨_, 0, ow, rfl, by omega, rfl, rfl, rfl, rfl, rfl, rfl, rfl, hrow6⟩
  · clear hrow6
    rintro w a' H7 ⟨e, i, ov, rfl, hi, rfl, e3, e4, e6, e9, e10, e11, hov⟩
    have vhb7 := hov.1.toLe _ _ vhb5
    by_cases hlt : i < n.ts.length
    · have htr7 := htr5.le hov.1.toLe
      have hcw7 := hcw.le hov.1.toLe
      have hj7 := hj5.le hov.1.toLe
      have hlts : i < ss.length := by have h : ss.length = n.ts.length := hsl'; omega
      obtain ⟨bt, ot, pt, ct, frt, hat, hbt, hct⟩ := SlI.get htr7 (List.getElem?_eq_getElem hlt)
      obtain ⟨bs, os, ps, cs, frs, has', hbs, hcs⟩ := SlI.get hcw7 (List.getElem?_eq_getElem hlts)
      have hgt : n.ts.getD i 0 = n.ts[i] := by simp [List.getD, List.getElem?_eq_getElem hlt]
      have hgs : ss.getD i 0 = ss[i] := by simp [List.getD, List.getElem?_eq_getElem hlts]
      have hstep : nhS n.ts ss n.start (i + 1) = if n.ts[i] ∈ (nhS n.ts ss n.start i).1 then nhS n.ts ss n.start i else
        (((nhS n.ts ss n.start i).1.filter fun x => !(x == ss[i])) ++ [n.ts[i]], (nhS n.ts ss n.start i).2 ++ [(i : Int)]) := by rw [nhS, hgt, hgs]
      have hndo := nhS_nodup (ts := n.ts) (ss := ss) hnd i
      have hlen := nhS_len n.ts ss n.start i
      have hpre : n.ts[i] ∉ (nhS n.ts ss n.start i).1 → (nhS n.ts ss n.start i).2.length < js.length ∧ js[(nhS n.ts ss n.start i).2.length]? = some (i : Int) := fun hno => by
        have h1 : n.jobs = js := hJ'
        have h2 : n.sents = ss := hS'
        obtain ⟨l, hl⟩ := nhS_pre n.ts ss n.start (i + 1) (n.ts.length - (i + 1))
        rw [show i + 1 + (n.ts.length - (i + 1)) = n.ts.length by omega, hstep, if_neg hno] at hl
        have h3 : js = (nhS n.ts ss n.start n.ts.length).2 := by rw [← h1, ← h2]; rfl
        rw [h3, hl]
        simp
      have hq : nhS n.ts ss n.start i = ((nhS n.ts ss n.start i).1, (nhS n.ts ss n.start i).2) := rfl
      generalize (nhS n.ts ss n.start i).1 = off at hov hstep hndo hlen hpre hq
      generalize (nhS n.ts ss n.start i).2 = jb at e10 hstep hlen hpre hq
      generalize n.ts[i] = t at *
      generalize ss[i] = sg at *
      subst hat has'
      rw [hq] at hstep
      have hstep' : SameP _ := hstep
      have hpre' : SameP _ := hpre
      have hndo' : SameP _ := hndo
      clear hstep hpre hndo hgt hgs hq htr7 hcw7
      obtain ⟨oa, oc, rfl⟩ := hov.len
      have hovI := hov.ints
      rw [ints_len] at e9
      have hol : off.length ≤ 1000 := by omega
      have hat := atI_spec (.co Tryz.prog) H7 (.slice oa (ints off).length oc) off t hovI (by omega)
      rw [ints_len] at hat
      have hat' : SameP _ := hat
      clear hat
      (refine @Hid.out _ ?_; refine zA y4_92 ?_; (repeat (refine inC ?_; intro hc)); try (refine inK ?_; intro K hK))
      have hat : FnX _ _ _ _ _ _ := hat'
      refine hat.runs.mono ?_
      clear hat' hat
      rintro _ HQ ⟨hHQ, r, rfl, hr⟩
      rw [hHQ]; clear hHQ HQ
      rcases hr with ⟨rfl, hno⟩ | ⟨k, rfl, hk, hkt, _⟩
      · obtain ⟨hjl, hji⟩ : jb.length < js.length ∧ js[jb.length]? = some (i : Int) := hpre' hno
        have hst1 : nhS n.ts ss n.start (i + 1) = (((off.filter fun x => !(x == sg)) ++ [t], jb ++ [(i : Int)])) := by
          have h : nhS n.ts ss n.start (i + 1) = if t ∈ off then (off, jb) else _ := hstep'
          rw [h, if_neg hno]
        replace hst1 : SameP _ := hst1
        obtain ⟨bj, oj, pj, cj, frj, haj, hbj, hcj⟩ := SlI.get hj7 hji
        subst haj
        clear hpre' hstep' hno hji hj7
        ((try (refine @Hid.out _ ?_; refine zX y4_92 ?_)); (try (refine hK _ _ ?_; clear hK K; (try simp only [nq, ↓reduceIte, Nat.reduceEqDiff]))); refine @Hid.out _ ?_; refine zA y4_92 ?_; (repeat (refine inC ?_; intro hc)); try (refine inK ?_; intro K hK))
        have hat := atI_spec (.co Tryz.prog) H7 (.slice oa (ints off).length oc) off sg hovI (by omega)
        rw [ints_len] at hat
        refine hat.runs.mono ?_
        clear hat
        rintro _ HQ ⟨hHQ, r, rfl, hr⟩
        rw [hHQ]; clear hHQ HQ
        rcases hr with ⟨rfl, hno⟩ | ⟨k, rfl, hk, hkt, _⟩
        · have hst2 : nhS n.ts ss n.start (i + 1) = (off ++ [t], jb ++ [(i : Int)]) := by
            have h : nhS n.ts ss n.start (i + 1) = _ := hst1
            rw [h, filter_none hno]
          replace hst2 : SameP _ := hst2
          clear hst1 hno
          ((try (refine @Hid.out _ ?_; refine zX y4_92 ?_)); (try (refine hK _ _ ?_; clear hK K; (try simp only [nq, ↓reduceIte, Nat.reduceEqDiff]))); refine @Hid.out _ ?_; refine zA y4_92 ?_; (repeat (refine inC ?_; intro hc)); try (refine inK ?_; intro K hK))
          intro g hg
          rw [show Value.slice oa off.length oc = .slice oa (ints off).length oc by rw [ints_len]]
          refine append_i hov hg (by omega) _ _ _ _ ?_
          intro v' H9 hr9 _
          ((try (refine @Hid.out _ ?_; refine zX y4_92 ?_)); (try (refine hK _ _ ?_; clear hK K; (try simp only [nq, ↓reduceIte, Nat.reduceEqDiff]))); refine @Hid.out _ ?_; refine zA y4_92 ?_; (repeat (refine inC ?_; intro hc)); try (refine inK ?_; intro K hK))
          have hst3 : nhS n.ts ss n.start (i + 1) = (off ++ [t], jb ++ [(i : Int)]) := hst2
          refine ⟨_, by omega, _, i + 1, _, rfl, hlt, rfl, e3, e4, e6, rfl, ?_, rfl, ?_⟩
          · rw [hst3]
            show Value.int .i64 ((jb.length : Int) + 1) = _
            simp
          · rw [hst3]
            exact hr9
        · have hst2 : nhS n.ts ss n.start (i + 1) = ((off.take k ++ off.drop (k + 1)) ++ [t], jb ++ [(i : Int)]) := by
            have h : nhS n.ts ss n.start (i + 1) = _ := hst1
            have hn : off.Nodup := hndo'
            rw [h, filter_out hn hkt]
          replace hst2 : SameP _ := hst2
          obtain ⟨bo, oo, po, co, fro, hao, hbo, hco⟩ := SlI.get (by rw [← ints_len off]; exact hovI : SlI H7 (.slice oa off.length oc) off) hkt
          subst hao
          have hocl : off.length ≤ oc := by
            obtain ⟨a9, c9, h9, h8, _⟩ := hovI
            have h7 := (Value.slice.inj h9).2.2
            omega
          clear hst1 hkt hco
          ((try (refine @Hid.out _ ?_; refine zX y4_92 ?_)); (try (refine hK _ _ ?_; clear hK K; (try simp only [nq, ↓reduceIte, Nat.reduceEqDiff]))); refine @Hid.out _ ?_; refine zA y4_92 ?_; (repeat (refine inC ?_; intro hc)); try (refine inK ?_; intro K hK))
          refine wpX_dlast (fun HX => HX hb = some (true, .cells #[.int .i64 n.places, .int .i64 n.pieces, .slice a1 n1 c1, .slice a2 n2 c2, .slice (some ⟨bt, ot, none⟩) n.ts.length c3, .int .i64 n.rule, .slice a4 n4 c4, .int .i64 n.notice, .int .i64 n.load, .int .i64 n.barrows, .int .i64 n.lo, .int .i64 n.hi] 29 (0, 0))) 10 [(true, 0), (true, 1), (true, 2), (true, 4), (true, 5), (true, 6), (true, 7), (false, 3), (false, 8), (true, 9)] (by kernel_rfl) (by kernel_rfl) (by simp) (by kernel_rfl) ?_; intro K hK
          (iterate 7 (apply plan_takeB rfl rfl rfl ‹_›; (focus (intro HX hHX; simp -implicitDefEqProofs (disch := first | omega | (simp only [qd] <;> omega)) only [xq, ↓xp, qc, Nat.reduceAdd, List.range, List.range.loop, fine, Nat.reduceEqDiff, ↓reduceIte, yielded, reduceCtorEq, Nat.reduceLT, Nat.reduceMul, Nat.reduceSub, one, Nat.reduceLeDiff, runX_cons, y4_92, aq, ↓ap, qe0, qe1, qe2, *, -hK, YN_value] <;> (first | exact rfl | exact ⟨rfl, rfl⟩ | exact ⟨rfl, trivial⟩))); simp -implicitDefEqProofs (disch := first | omega | (simp only [qd] <;> omega)) only [act_put, act_put_none]))
          obtain ⟨o9, h9, hys9⟩ : ∃ o9 : Nat, (if oc = ((k : Int) + 1).toNat then some (⟨bo, oo, none⟩ : Addr) else some ⟨bo, oo + ((k : Int) + 1).toNat, none⟩) = some ⟨bo, o9, none⟩ ∧ ∀ (j : Nat) (y : Int), (off.drop (k + 1))[j]? = some y → ∀ H' : Hp, H7.le H' → H'.cell ⟨bo, o9 + j, none⟩ = some (.int .i64 y) := by
            by_cases hce : oc = ((k : Int) + 1).toNat
            · refine ⟨oo, if_pos hce, fun j y hj => ?_⟩
              rw [List.drop_eq_nil_of_le (by omega)] at hj
              cases hj
            · refine ⟨oo + ((k : Int) + 1).toNat, if_neg hce, fun j y hj H' hl => ?_⟩
              rw [List.getElem?_drop] at hj
              rw [ints_len] at hovI
              obtain ⟨b8, o8, p8, c8, fr8, h8, hb8, hc8⟩ := SlI.get hovI hj
              cases h8
              rw [cell_of (hl _ _ hb8), show oo + ((k : Int) + 1).toNat + j = oo + (k + 1 + j) by omega]
              exact hc8
          rw [h9]
          have hm9 : off.length - ((k : Int) + 1).toNat = off.length - (k + 1) := by omega
          rw [hm9]
          replace hys9 : SameP _ := hys9
          clear h9
          refine planX_act ?_
          simp -implicitDefEqProofs (disch := first | omega | (simp only [qd] <;> omega)) only [xq, ↓xp, qc, Nat.reduceAdd, List.range, List.range.loop, fine, Nat.reduceEqDiff, ↓reduceIte, yielded, reduceCtorEq, Nat.reduceLT, Nat.reduceMul, Nat.reduceSub, one, Nat.reduceLeDiff, runX_cons, y4_92, aq, ↓ap, qe0, qe1, qe2, *, -hK]
          have hkp := keepI_spec (.co Tryz.prog) H7 (.slice (some ⟨bo, oo, none⟩) k oc) (off.take k) (sli_take (by rw [← ints_len off]; exact hovI : SlI H7 (.slice (some ⟨bo, oo, none⟩) off.length oc) off) (by omega)) (by rw [List.length_take]; omega)
          refine hkp.runs.mono ?_
          clear hkp
          rintro _ H8 ⟨w8, rfl, hrow8⟩
          have vhb8 := hrow8.1.toLe _ _ vhb7
          have hbo8 := hrow8.1.toLe _ _ hbo
          have hbt8 := hrow8.1.toLe _ _ hbt
          have hsep8 := row_sep hrow8 hbo
          have hsepB := row_sep hrow8 vhb7
          have hsepT := row_sep hrow8 hbt
          clear vhb7 hovI hbt hbs hbj
          obtain ⟨wa8, wc8, rfl⟩ := hrow8.len
          simp -implicitDefEqProofs (disch := first | omega | (simp only [qd] <;> omega)) only [xq, ↓xp, qc, Nat.reduceAdd, List.range, List.range.loop, fine, Nat.reduceEqDiff, ↓reduceIte, yielded, reduceCtorEq, Nat.reduceLT, Nat.reduceMul, Nat.reduceSub, one, Nat.reduceLeDiff, runX_cons, y4_92, aq, ↓ap, qe0, qe1, qe2, *, -hK, onEnd_ret]
          refine ⟨.inr trivial, ?_⟩
          refine planX_act ?_
          simp -implicitDefEqProofs (disch := first | omega | (simp only [qd] <;> omega)) only [xq, ↓xp, qc, Nat.reduceAdd, List.range, List.range.loop, fine, Nat.reduceEqDiff, ↓reduceIte, yielded, reduceCtorEq, Nat.reduceLT, Nat.reduceMul, Nat.reduceSub, one, Nat.reduceLeDiff, runX_cons, y4_92, aq, ↓ap, qe0, qe1, qe2, *, -hK]
          refine append_rowI (ys := off.drop (k + 1)) hrow8 (by rw [List.length_drop]) ⟨_, hbo8⟩ hsep8 (fun j y hj => by
            have h : ∀ (j : Nat) (y : Int), (off.drop (k + 1))[j]? = some y → ∀ H' : Hp, H7.le H' → H'.cell ⟨bo, o9 + j, none⟩ = some (.int .i64 y) := hys9
            exact h j y hj H8 hrow8.1.toLe) (by rw [List.length_take]; omega) _ _ _ _ ?_
          intro w9 H9 hrow9 hk9
          have vhb9 := hk9 _ _ vhb8 hsepB
          have hbt9 := hk9 _ _ hbt8 hsepT
          have hrow := hrow9.base hov.1
          obtain ⟨wa9, wc9, rfl⟩ := hrow9.len
          clear hk9 hrow9 vhb8 hbt8 hsepB hsepT hsep8 hbo8 hys9 hrow8
          simp -implicitDefEqProofs (disch := first | omega | (simp only [qd] <;> omega)) only [xq, ↓xp, qc, Nat.reduceAdd, List.range, List.range.loop, fine, Nat.reduceEqDiff, ↓reduceIte, yielded, reduceCtorEq, Nat.reduceLT, Nat.reduceMul, Nat.reduceSub, one, Nat.reduceLeDiff, runX_cons, y4_92, aq, ↓ap, qe0, qe1, qe2, *, -hK, onEnd_ret]
          refine ⟨.inr trivial, ?_⟩
          (apply plan_takeB rfl rfl rfl ‹_›; (focus (intro HX hHX; simp -implicitDefEqProofs (disch := first | omega | (simp only [qd] <;> omega)) only [xq, ↓xp, qc, Nat.reduceAdd, List.range, List.range.loop, fine, Nat.reduceEqDiff, ↓reduceIte, yielded, reduceCtorEq, Nat.reduceLT, Nat.reduceMul, Nat.reduceSub, one, Nat.reduceLeDiff, runX_cons, y4_92, aq, ↓ap, qe0, qe1, qe2, *, -hK, YN_value] <;> (first | exact rfl | exact ⟨rfl, rfl⟩ | exact ⟨rfl, trivial⟩))); simp -implicitDefEqProofs (disch := first | omega | (simp only [qd] <;> omega)) only [act_put, act_put_none])
          refine plan_nil (hK _ _ ?_)
          clear hK K
          (try simp only [nq, ↓reduceIte, Nat.reduceEqDiff])
          (refine @Hid.out _ ?_; refine zA y4_92 ?_; (repeat (refine inC ?_; intro hc)); try (refine inK ?_; intro K hK))
          intro g hg
          refine append_i hrow hg (by rw [List.length_append, List.length_take, List.length_drop]; omega) _ _ _ _ ?_
          intro v' H10 hr10 _
          ((try (refine @Hid.out _ ?_; refine zX y4_92 ?_)); (try (refine hK _ _ ?_; clear hK K; (try simp only [nq, ↓reduceIte, Nat.reduceEqDiff]))); refine @Hid.out _ ?_; refine zA y4_92 ?_; (repeat (refine inC ?_; intro hc)); try (refine inK ?_; intro K hK))
          have hst3 : nhS n.ts ss n.start (i + 1) = ((off.take k ++ off.drop (k + 1)) ++ [t], jb ++ [(i : Int)]) := hst2
          refine ⟨_, by omega, _, i + 1, _, rfl, hlt, rfl, e3, e4, e6, rfl, ?_, rfl, ?_⟩
          · rw [hst3]
            show Value.int .i64 ((jb.length : Int) + 1) = _
            simp
          · rw [hst3]
            exact hr10
      · have hst1 : nhS n.ts ss n.start (i + 1) = (off, jb) := by
          have h : nhS n.ts ss n.start (i + 1) = if t ∈ off then (off, jb) else _ := hstep'
          rw [h, if_pos (List.mem_of_getElem? hkt)]
        replace hst1 : SameP _ := hst1
        clear hpre' hstep' hkt
        ((try (refine @Hid.out _ ?_; refine zX y4_92 ?_)); (try (refine hK _ _ ?_; clear hK K; (try simp only [nq, ↓reduceIte, Nat.reduceEqDiff]))); refine @Hid.out _ ?_; refine zA y4_92 ?_; (repeat (refine inC ?_; intro hc)); try (refine inK ?_; intro K hK))
        have hst2 : nhS n.ts ss n.start (i + 1) = (off, jb) := hst1
        refine ⟨_, by omega, _, i + 1, _, rfl, hlt, rfl, e3, e4, e6, e9, ?_, rfl, ?_⟩
        · rw [hst2]; exact e10
        · rw [hst2]
          have := hov
          rw [ints_len] at this
          exact this
    · obtain rfl : i = n.ts.length := by omega
      have hjl : (nhS n.ts ss n.start n.ts.length).2.length = js.length := by
        have h1 : n.jobs = js := hJ'
        have h2 : n.sents = ss := hS'
        rw [← h1, ← h2]
        rfl
      rw [hjl] at e10
      clear hjl
      (refine @Hid.out _ ?_; refine zA y4_92 ?_; (repeat (refine inC ?_; intro hc)); try (refine inK ?_; intro K hK))
      refine (driven_spec H7).runs.mono ?_
      rintro _ H8 ⟨rfl, lH8⟩
      ((try (refine @Hid.out _ ?_; refine zX y4_92 ?_)); (try (refine hK _ _ ?_; clear hK K; (try simp only [nq, ↓reduceIte, Nat.reduceEqDiff]))); refine @Hid.out _ ?_; refine zA y4_92 ?_; (repeat (refine inC ?_; intro hc)); try (refine inK ?_; intro K hK))
      (refine wpX_ret ?_; (try simp only [nq, ↓reduceIte, Nat.reduceEqDiff]); rw [bodyX_ret, results_one Tryz.results4 (by decide)]; simp only [upd_get, Nat.reduceEqDiff, ↓reduceIte])
end Go.Proofs.YtofmadjgbcopdaaGreatDoor
end
section
set_option linter.unusedSimpArgs false
set_option linter.unusedVariables false
namespace Go.X
open Go Go.RowKit
open Go.Conc (G base)
theorem Base.below {W w : World} (h : Base W w) : Below W.heap.size W { w with tape := W.tape } := ⟨h.os, rfl, h.output, h.size, h.block⟩
theorem Base.kept {W w : World} (h : Base W w) (may : MemPlace → Prop) : W.keptBut w may := by
  have := World.keptBut_refl W may
  refine ⟨h.os, h.output, fun i hi => ?_⟩
  rw [h.block i hi]
  exact this.2.2 i hi
theorem leaving_of_change_and {H : Type} {enc : TypeId × Value → H} {a : Assume} {C : Checked} {os : Os} {f : FuncId} {fn : Func} {s : ChangeSpec} {conds : List PathCond} {apart fresh handsOn again : Bool} {X : World → Array Value → Prop}
    (hX : ∀ (w w' : World) (args : Array Value), w.heap = w'.heap → X w args → X w' args)
    (own : ownKnob C.prog.godebug = none) (started : os.Started) (hfn : C.prog.funcs[f]? = some fn)
    (witness : ∃ (w : World) (tape : Tape) (i : Input), w.os = os ∧ (w.forCall tape i).Shaped C.prog ∧ i.vars = [] ∧ Input.okWide C.prog (w.forCall tape i) .any w.heap.size f i ∧
      ((s.pre enc C.prog fn conds apart (w.forCall tape i).memory i.args ∧ X (w.forCall tape i).memory i.args) ∧ sizedMet enc C.prog fn (OpenSpec.ofChange s) apart (w.forCall tape i).memory i.args) ∧ a.holds C.prog (lone (Frame.enter C.prog f i.args .normal) [] (w.forCall tape i)))
    (runs : ∀ (W : World) (base : Nat) (args : Array Value) (ds gs : List (DataW H)) (before : List MemPlace),
      (∀ (j : Nat) t v, fn.params[j]? = some t → args[j]? = some v → Value.okWide C.prog W .any base t v) →
      DataW.Whole enc C.prog fn.params.toList s.vars apart W args.toList ds gs before → X W args →
      Ends C.prog (fun v W' => s.post enc C.prog fn apart fresh handsOn again W args v W') (Conc.solo (G (Frame.enter C.prog f args .normal) []) W) #[]) :
    ReturnsInLeavingWide a C os f .any (fun w args => (s.pre enc C.prog fn conds apart w args ∧ X w args) ∧ sizedMet enc C.prog fn (OpenSpec.ofChange s) apart w args) (s.post enc C.prog fn apart fresh handsOn again) := by
  refine returnsInLeavingWide_of_good own started witness ?_
  intro w tape i _ _ _ hok hpre hholds
  obtain ⟨_, _, _, fn', hfn', _, _, _, _, hval⟩ := hok
  have e : fn' = fn := Option.some.inj (hfn'.symm.trans hfn)
  subst e
  obtain ⟨⟨⟨ds, gs, before, hw, hc⟩, hx⟩, hz⟩ := hpre
  have hw' := DataW.Whole.of_heap (w' := w.forCall tape i) (by rfl) hw
  obtain ⟨M, last, o, w', t', h1, h2, h3, h4⟩ := runs (w.forCall tape i) w.heap.size i.args ds gs before hval hw' (hX _ _ _ (by rfl) hx)
  exact ⟨M, last, o, w', t', h1, h2, h3, h4.mono fun v hp => ChangeSpec.post_blind hp⟩
end Go.X
end
section
set_option linter.unusedSimpArgs false
set_option linter.unusedVariables false
namespace Go.Proofs.YtofmadjgbcopdaaGreatDoor
open Go Go.X Go.ChangeShapes Go.WideShapes Go.RowKit
theorem ownK : ownKnob Tryz.prog.godebug = none := by kernel_rfl
theorem laidOutK : laidOutB Tryz.prog = true := by kernel_rfl
theorem cellsK : Tryz.prog.cellsOf 3 = 1 := by kernel_rfl
noncomputable def laidWorld (os : Os) : World :=
  let w0 := World.holding Tryz.prog os ⟨#[], #[], []⟩
  { w0 with heap := w0.heap.modify 0 fun
      | .cells _ t frozen => .cells #[.iface 230 (.agg #[.pointer (some ⟨1, 142, none⟩)])] t frozen
      | o => o }
theorem laidWorld_met (os : Os) (args : Array Value) : laidMetH Tryz.prog [("errors.errorType", Rows.laid_errors_errorType)] ((laidWorld os).forCall (fun _ _ => 0) ⟨#[], args, []⟩).memory :=
  laidMetH_of_parts (laidMet_nil _ _) (by kernel_rfl)
theorem results_tmp {fn : Func} {t : Tmp} (h : fn.results = #[.tmp t]) (P : Program) (tmps : Array Value) (w : World) (v : Value) (w' : World) (hr : (results fn tmps).run P w = .ok v w') : w' = w := by
  simp [results, h] at hr
  exact hr.2.symm
end Go.Proofs.YtofmadjgbcopdaaGreatDoor
end
section
set_option linter.unusedSimpArgs false
set_option linter.unusedVariables false
namespace Go.Proofs.YtofmadjgbcopdaaGreatDoor
open Go Go.X Go.ChangeShapes Go.WideShapes Go.RowKit
set_option maxRecDepth 100000 in
theorem law_lifted (os : Os) (started : os.Started) (H : Type) (enc : TypeId × Value → H) :
    ReturnsInLeavingWide {} Tryz.checked os 4 .any (fun w args => (Rows.barrowJobsSpec.pre enc Tryz.prog Tryz.f4 [] false w args ∧ laidMetH Tryz.prog [("errors.errorType", Rows.laid_errors_errorType)] w) ∧ sizedMet enc Tryz.prog Tryz.f4 (OpenSpec.ofChange Rows.barrowJobsSpec) false w args)
      (Rows.barrowJobsSpec.post enc Tryz.prog Tryz.f4 false true false false) := by
  refine leaving_of_change_and (C := Tryz.checked) (X := fun w _ => laidMetH Tryz.prog [("errors.errorType", Rows.laid_errors_errorType)] w) (fun _ _ _ hh h => h.of_heap hh) ownK started Tryz.func4
    (ChangeSpec.witness_at (enc := enc) (C := Tryz.checked) (os := os) (X := fun w _ => laidMetH Tryz.prog [("errors.errorType", Rows.laid_errors_errorType)] w) false (laidWorld os) #[.slice none 0 0] 8 rfl (by kernel_rfl) (by kernel_rfl) (by kernel_rfl) (by kernel_rfl) (by kernel_rfl) (laidWorld_met os _)) ?_
  intro W base args ds gs before hval0 hW hL
  have hval : ∀ (j : Nat) t v, Tryz.f4.params[j]? = some t → args[j]? = some v → Value.okWide Tryz.prog W .any base t v := hval0
  have hW' := hW
  obtain ⟨p, q, hA0, hV0, rfl, hfz, hnd⟩ := hW
  have hA : DataW.TrodAll enc Tryz.prog W 0 (fun _ => true) true Tryz.f4.params.toList args.toList ds p := hA0
  have hV : DataW.TrodVars enc Tryz.prog W (fun _ => true) [] gs q := hV0
  rw [Tryz.params4] at hA hval
  obtain ⟨v0, d0, rfl, rfl, h0⟩ := trodAll_one hA
  obtain ⟨a0, len, cap, rfl⟩ := okWide_slice Tryz.underlying22 (hval 0 22 v0 rfl rfl)
  have h0k := h0
  obtain ⟨fuel, hf⟩ := h0
  obtain ⟨rfl, rfl⟩ : gs = [] ∧ q = [] := by
    cases gs with
    | nil => exact ⟨rfl, hV⟩
    | cons g r => exact absurd hV (by intro h; cases h)
  have e1 : Rows.barrowJobsSpec.fn H ([d0] ++ []) = { results := [.lit (.bool true)], args := [d0] } := by simp [Rows.barrowJobsSpec]
  have hcells : ∀ i : Nat, i < len → ∃ sb so c e fr x, a0 = some ⟨sb, so, none⟩ ∧ allShared W sb = some (false, .cells c e fr) ∧ c[so + i]? = some (.int .i64 x) := by
    rcases open_ints Tryz.underlying22 Tryz.underlying3 cellsK hf with ⟨hcs, _⟩ | ⟨a, len', cap', zs, hcs, _, hl, hm, hz, hx, hcell, hwz⟩
    · simp [Value.cells] at hcs
      intro i hi
      omega
    · simp [Value.cells] at hcs
      obtain ⟨rfl, rfl, rfl⟩ := hcs
      intro i hi
      simp only [if_true] at hz
      have hc := hcell i (by omega)
      obtain ⟨b, off, spot⟩ := a
      have hspot : spot = none := by simpa [Addr.add] using World.cell?_spot (hcell 0 (by omega))
      subst hspot
      rw [add_plain] at hc
      unfold World.cell? at hc
      split at hc
      · rename_i c e fr hb
        exact ⟨b, off, c, e, fr, _, rfl, by simp [allShared, hb], by simpa using hc⟩
      · cases hc
  have hlt : ∀ x ∈ p, x.block < W.heap.size := fun x hx => by simpa using hW'.lt x (by simpa using hx)
  obtain ⟨N, last, o, w', t', r1, r2, r3, v, hv, ⟨rfl, hB⟩, r4⟩ := (bjobs_spec (allShared W) a0 len cap hcells).good Tryz.func4 (results_tmp Tryz.results4 _) (by kernel_rfl)
  refine ⟨N, last, o, w', t', r1, r2, r3, _, hv, ?_, r4⟩
  have hb := hB.below
  refine ⟨_, _, _, [], p, [], hW', ?_, ?_, ?_, hB.kept _, fun h => by cases h⟩
  · rw [e1]; exact trodAll_mk1 (shut_bool Tryz.underlying4 true)
  · rw [e1]
    have t := trodAll_mk1 (DataW.Trod.of_heap (w := { w' with tape := W.tape }) (w' := w') rfl (Below.trod laidOutK (by kernel_rfl) (of_decide_eq_true (by kernel_rfl)) h0k hb hlt))
    exact t
  · rw [e1]; rfl
end Go.Proofs.YtofmadjgbcopdaaGreatDoor
end
section
set_option linter.unusedSimpArgs false
set_option linter.unusedVariables false
namespace Go.Proofs.YtofmadjgbcopdaaGreatDoor
open Go Go.X Go.ChangeShapes Go.WideShapes Go.RowKit
theorem jEnter : Program.mayEnter Tryz.pinned.checked.prog = true := factEnter
theorem jLift : (Rows.barrowJobsRow.lifted == Program.liftsFinal Tryz.pinned.checked.prog) = true := by rw [show Program.liftsFinal Tryz.pinned.checked.prog = Rows.barrowJobsRow.lifted from factLift]; exact beq_self_eq_true _
theorem jMake : (Program.make Tryz.pinned.checked.prog == some Rows.barrowJobsRow.make) = true := by rw [show Program.make Tryz.pinned.checked.prog = some Rows.barrowJobsRow.make from factMake]; exact beq_self_eq_true _
set_option maxRecDepth 100000 in
theorem jf : joinedFacts Tryz.pinned.checked.prog 4 Tryz.f4 Rows.barrowJobsSpec Rows.barrowJobsRow = true := by
  unfold joinedFacts
  simp only [jEnter, jLift, jMake, Bool.and_true]
  kernel_rfl
set_option maxRecDepth 100000 in
theorem barrowJobs_said : Rows.BarrowJobsSaid :=
  OpenClaim.holds_of_wide_leaving 4 Tryz.f4 rfl rfl rfl rfl rfl rfl rfl ⟨rfl, rfl, rfl, rfl, rfl⟩ rfl rfl rfl rfl rfl (by kernel_rfl) Tryz.func4 jf
    (of_decide_eq_true (by kernel_rfl)) (by unfold Func.isWrapper; rw [if_neg (of_decide_eq_false (by kernel_rfl))]; exact ⟨rfl, rfl⟩)
    (fun os started H enc _ => law_lifted os started H enc)
end Go.Proofs.YtofmadjgbcopdaaGreatDoor
end
