/- Texts Soon LLate PVaultLate SVaultLate. -/
import Derived.Test.YtgniilnljeedlaaGreatDoorJ24
import Derived.Test.YtgniilnljeedlaaGreatDoorAFactA
import Derived.Test.YtgniilnljeedlaaGreatDoorAFactVB
import Derived.Test.YtgniilnljeedlaaGreatDoorAFactVC
set_option linter.defProp false
set_option linter.unusedSimpArgs false
set_option linter.unusedVariables false
set_option maxRecDepth 100000
set_option maxHeartbeats 2000000
section
namespace Go.Proofs.YtgniilnljeedlaaGreatDoor
open Go Go.X
def y48_114 := And.intro (fun H => Aq5 (H := H) Tryz.underlying22) (And.intro (fun H => Aqq (H := H) Tryz.underlying22 Tryz.sizeOf3) (fun H => Aqd (H := H) Tryz.underlying3 rfl))
theorem soonerF_skip : ∀ (k : Nat) (xs ys : List Int), xs.take k = ys.take k -> k <= xs.length -> k <= ys.length -> Bwc xs ys = Bwc (xs.drop k) (ys.drop k)
 | 0, _, _, _, _, _ => rfl
 | k + 1, [], _, _, h, _ => by simp at h
 | k + 1, _ :: _, [], _, _, h => by simp at h
 | k + 1, x :: xs, y :: ys, he, h1, h2 => by
  simp only [List.take_succ_cons, List.cons.injEq] at he
  simp only [List.length_cons] at h1 h2
  rw [List.drop_succ_cons, List.drop_succ_cons, <- soonerF_skip k xs ys he.2 (by omega) (by omega)]
  simp [Bwc, he.1]
theorem soonV_spec (main : Md) (H : Hp) (v w : Value) (xs ys : List Int) (hv : SlI H v xs) (hw : SlI H w ys) (hx : xs.length <= 1000) (hy : ys.length <= 1000) :
  FnX Tryz.prog main 48 #[v, w] H fun e H' => e = .returned (.bool (Bwc xs ys)) /\ H' = H := by
 have hv0 := hv
 have hw0 := hw
 obtain ⟨a, cap, rfl, hcap, _⟩ := hv
 obtain ⟨a', cap', rfl, hcap', _⟩ := hw
 refine Aqk Tryz.func48 rfl Tryz.ntmps48 (by simp) ?_
 (refine @unH _ ?_; refine zA y48_114 ?_; (repeat (refine inC ?_; intro hc)); try (refine inK ?_; intro K hK))
 refine Axe (fun w a1 H' => ∃ e i, w = xs.length - i /\ a1 = act 48 e [] /\ e 0 = .slice a xs.length cap /\ e 1 = .slice a' ys.length cap' /\ e 5 = .int .i64 (i : Nat) /\ H' = H /\ i <= xs.length /\ i <= ys.length /\ xs.take i = ys.take i) (n := xs.length) ?_ ?_
 ·exact ⟨_, 0, by omega, rfl, rfl, rfl, rfl, by trivial, by omega, by omega, rfl⟩
 ·rintro w a1 H' ⟨e, i, rfl, rfl, e0, e1, e5, hH, hi1, hi2, heq⟩
  rw [hH]; clear hH H'
  have hsk := soonerF_skip i xs ys heq hi1 hi2
  by_cases h1 : i < xs.length
  ·by_cases h2 : i < ys.length
   ·obtain ⟨b, o, c1, p, c, fr, hve, _, hb, hx⟩ := hv0.cons (fun h => absurd (congrArg List.length h) (by simp only [List.length_nil]; omega))
    obtain ⟨b', o', c1', p', c', fr', hve', _, hb', hx'⟩ := hw0.cons (fun h => absurd (congrArg List.length h) (by simp only [List.length_nil]; omega))
    cases hve
    cases hve'
    have hxi := hx i xs[i] (List.getElem?_eq_getElem h1)
    have hyi := hx' i ys[i] (List.getElem?_eq_getElem h2)
    rw [List.drop_eq_getElem_cons h1, List.drop_eq_getElem_cons h2] at hsk
    have ht1 : xs.take (i + 1) = xs.take i ++ [xs[i]] := by rw [List.take_add_one, List.getElem?_eq_getElem h1]; rfl
    have ht2 : ys.take (i + 1) = ys.take i ++ [ys[i]] := by rw [List.take_add_one, List.getElem?_eq_getElem h2]; rfl
    generalize xs[i] = x at *
    generalize ys[i] = y at *
    simp only [Bwc] at hsk
    replace hsk : Aqs _ := hsk
    replace ht1 : Aqs _ := ht1
    replace ht2 : Aqs _ := ht2
    clear hx hx'
    by_cases hxy : x = y
    ·clear hsk
     (refine @unH _ ?_; refine zA y48_114 ?_; (repeat (refine inC ?_; intro hc)); try (refine inK ?_; intro K hK))
     refine Az4 21 [(true, 0), (true, 1), (true, 2), (true, 3), (true, 4), (true, 5), (true, 6), (true, 7), (true, 8), (true, 9), (true, 10), (true, 11), (true, 12), (true, 13), (true, 14), (true, 15), (true, 16), (true, 17), (true, 18), (true, 19), (true, 20)] (by kernel_rfl) (by kernel_rfl) (by simp) (by kernel_rfl) ?_; intro K hK
     (iterate 5 (refine @unH _ ?_; refine z3 y48_114 ?_))
     (iterate 4 (refine @unH _ ?_; refine z6 y48_114 ?_))
     (iterate 2 (refine @unH _ ?_; refine z3 y48_114 ?_))
     (iterate 9 (refine @unH _ ?_; refine z6 y48_114 ?_))
     (refine @unH _ ?_; refine z3 y48_114 ?_)
     refine Ax2 (hK _ _ ?_); clear hK K
     (try simp only [nq, ↓reduceIte, Nat.reduceEqDiff])
     (refine @unH _ ?_; refine zA y48_114 ?_; (repeat (refine inC ?_; intro hc)); try (refine inK ?_; intro K hK))
     exact ⟨xs.length - (i + 1), by omega, _, i + 1, rfl, rfl, e0, e1, rfl, by trivial, by omega, by omega, by rw [show xs.take (i + 1) = _ from ht1, show ys.take (i + 1) = _ from ht2, heq, hxy]⟩
    ·have hs2 : Bwc xs ys = decide (x < y) := by
      have h : Bwc xs ys = if x = y then _ else decide (x < y) := hsk
      rw [h, if_neg hxy]
     clear hsk ht1 ht2
     replace hs2 : Aqs _ := hs2
     (refine @unH _ ?_; refine zA y48_114 ?_; (repeat (refine inC ?_; intro hc)); try (refine inK ?_; intro K hK))
     refine Az4 21 [(true, 0), (true, 1), (true, 2), (true, 3), (true, 4), (true, 5), (true, 6), (true, 7), (true, 8), (true, 9), (true, 10), (true, 11), (true, 12), (true, 13), (true, 14), (true, 15), (true, 16), (true, 17), (true, 18), (true, 19), (true, 20)] (by kernel_rfl) (by kernel_rfl) (by simp) (by kernel_rfl) ?_; intro K hK
     (iterate 5 (refine @unH _ ?_; refine z3 y48_114 ?_))
     (iterate 4 (refine @unH _ ?_; refine z6 y48_114 ?_))
     (iterate 2 (refine @unH _ ?_; refine z3 y48_114 ?_))
     (iterate 9 (refine @unH _ ?_; refine z6 y48_114 ?_))
     (refine @unH _ ?_; refine z3 y48_114 ?_)
     refine Ax2 (hK _ _ ?_); clear hK K
     (try simp only [nq, ↓reduceIte, Nat.reduceEqDiff])
     (refine @unH _ ?_; refine zA y48_114 ?_; (repeat (refine inC ?_; intro hc)); try (refine inK ?_; intro K hK))
     refine Az4 16 [(true, 0), (true, 1), (true, 2), (true, 3), (true, 4), (true, 5), (true, 6), (true, 7), (true, 8), (true, 9), (true, 10), (true, 11), (true, 12), (true, 13), (true, 14), (true, 15)] (by kernel_rfl) (by kernel_rfl) (by simp) (by kernel_rfl) ?_; intro K hK
     (iterate 5 (refine @unH _ ?_; refine z3 y48_114 ?_))
     (iterate 9 (refine @unH _ ?_; refine z6 y48_114 ?_))
     (iterate 2 (refine @unH _ ?_; refine z3 y48_114 ?_))
     refine Ax2 (hK _ _ ?_); clear hK K
     (try simp only [nq, ↓reduceIte, Nat.reduceEqDiff])
     (refine @unH _ ?_; refine zA y48_114 ?_; (repeat (refine inC ?_; intro hc)); try (refine inK ?_; intro K hK))
     (refine @unH _ ?_; refine z9 Tryz.results48 ?_)
     exact ⟨by rw [show Bwc xs ys = _ from hs2], by trivial⟩
   ·obtain rfl : i = ys.length := by omega
    rw [List.drop_length] at hsk
    have hs2 : Bwc xs ys = false := by rw [hsk]; cases xs.drop ys.length <;> rfl
    clear hsk
    replace hs2 : Aqs _ := hs2
    (refine @unH _ ?_; refine zA y48_114 ?_; (repeat (refine inC ?_; intro hc)); try (refine inK ?_; intro K hK))
    refine Az4 21 [(true, 0), (true, 1), (true, 2), (true, 3), (true, 4), (true, 5), (true, 6), (true, 7), (true, 8), (true, 9), (true, 10), (true, 11), (true, 12), (true, 13), (true, 14), (true, 15), (true, 16), (true, 17), (true, 18), (true, 19), (true, 20)] (by kernel_rfl) (by kernel_rfl) (by simp) (by kernel_rfl) ?_; intro K hK
    (iterate 5 (refine @unH _ ?_; refine z3 y48_114 ?_))
    (iterate 4 (refine @unH _ ?_; refine z6 y48_114 ?_))
    (iterate 2 (refine @unH _ ?_; refine z3 y48_114 ?_))
    (iterate 9 (apply Cwh rfl (by simp -implicitDefEqProofs (disch := omega) only [Akg, Akm, Ayw, List.getElem?_cons_succ, List.getElem?_cons_zero, Option.bind_some, act_get?, Aqr, Nat.reduceEqDiff, ↓reduceIte, *]; rfl); simp -implicitDefEqProofs (disch := first | omega | (simp only [qd] <;> omega)) only [Aqn, Aqc]))
    (refine @unH _ ?_; refine z3 y48_114 ?_)
    refine Ax2 (hK _ _ ?_); clear hK K
    (try simp only [nq, ↓reduceIte, Nat.reduceEqDiff])
    (refine @unH _ ?_; refine zA y48_114 ?_; (repeat (refine inC ?_; intro hc)); try (refine inK ?_; intro K hK))
    (refine @unH _ ?_; refine z9 Tryz.results48 ?_)
    exact ⟨by rw [show Bwc xs ys = _ from hs2], by trivial⟩
  ·obtain rfl : i = xs.length := by omega
   rw [List.drop_length] at hsk
   by_cases h2 : xs.length < ys.length
   ·have hs2 : Bwc xs ys = true := by rw [hsk, List.drop_eq_getElem_cons h2]; rfl
    clear hsk
    replace hs2 : Aqs _ := hs2
    (refine @unH _ ?_; refine zA y48_114 ?_; (repeat (refine inC ?_; intro hc)); try (refine inK ?_; intro K hK))
    refine Az4 21 [(true, 0), (true, 1), (true, 2), (true, 3), (true, 4), (true, 5), (true, 6), (true, 7), (true, 8), (true, 9), (true, 10), (true, 11), (true, 12), (true, 13), (true, 14), (true, 15), (true, 16), (true, 17), (true, 18), (true, 19), (true, 20)] (by kernel_rfl) (by kernel_rfl) (by simp) (by kernel_rfl) ?_; intro K hK
    (iterate 5 (refine @unH _ ?_; refine z3 y48_114 ?_))
    (iterate 4 (apply Cwh rfl (by simp -implicitDefEqProofs (disch := omega) only [Akg, Akm, Ayw, List.getElem?_cons_succ, List.getElem?_cons_zero, Option.bind_some, act_get?, Aqr, Nat.reduceEqDiff, ↓reduceIte, *]; rfl); simp -implicitDefEqProofs (disch := first | omega | (simp only [qd] <;> omega)) only [Aqn, Aqc]))
    (iterate 2 (refine @unH _ ?_; refine z3 y48_114 ?_))
    (iterate 9 (apply Cwh rfl (by simp -implicitDefEqProofs (disch := omega) only [Akg, Akm, Ayw, List.getElem?_cons_succ, List.getElem?_cons_zero, Option.bind_some, act_get?, Aqr, Nat.reduceEqDiff, ↓reduceIte, *]; rfl); simp -implicitDefEqProofs (disch := first | omega | (simp only [qd] <;> omega)) only [Aqn, Aqc]))
    (refine @unH _ ?_; refine z3 y48_114 ?_)
    refine Ax2 (hK _ _ ?_); clear hK K
    (try simp only [nq, ↓reduceIte, Nat.reduceEqDiff])
    (refine @unH _ ?_; refine zA y48_114 ?_; (repeat (refine inC ?_; intro hc)); try (refine inK ?_; intro K hK))
    refine Az4 16 [(true, 0), (true, 1), (true, 2), (true, 3), (true, 4), (true, 5), (true, 6), (true, 7), (true, 8), (true, 9), (true, 10), (true, 11), (true, 12), (true, 13), (true, 14), (true, 15)] (by kernel_rfl) (by kernel_rfl) (by simp) (by kernel_rfl) ?_; intro K hK
    (iterate 5 (refine @unH _ ?_; refine z3 y48_114 ?_))
    (iterate 9 (apply Cwh rfl (by simp -implicitDefEqProofs (disch := omega) only [Akg, Akm, Ayw, List.getElem?_cons_succ, List.getElem?_cons_zero, Option.bind_some, act_get?, Aqr, Nat.reduceEqDiff, ↓reduceIte, *]; rfl); simp -implicitDefEqProofs (disch := first | omega | (simp only [qd] <;> omega)) only [Aqn, Aqc]))
    (iterate 2 (refine @unH _ ?_; refine z3 y48_114 ?_))
    refine Ax2 (hK _ _ ?_); clear hK K
    (try simp only [nq, ↓reduceIte, Nat.reduceEqDiff])
    (refine @unH _ ?_; refine zA y48_114 ?_; (repeat (refine inC ?_; intro hc)); try (refine inK ?_; intro K hK))
    (refine @unH _ ?_; refine z9 Tryz.results48 ?_)
    exact ⟨by rw [show Bwc xs ys = _ from hs2], by trivial⟩
   ·have hs2 : Bwc xs ys = false := by rw [hsk, List.drop_of_length_le (by omega)]; rfl
    clear hsk
    replace hs2 : Aqs _ := hs2
    (refine @unH _ ?_; refine zA y48_114 ?_; (repeat (refine inC ?_; intro hc)); try (refine inK ?_; intro K hK))
    refine Az4 21 [(true, 0), (true, 1), (true, 2), (true, 3), (true, 4), (true, 5), (true, 6), (true, 7), (true, 8), (true, 9), (true, 10), (true, 11), (true, 12), (true, 13), (true, 14), (true, 15), (true, 16), (true, 17), (true, 18), (true, 19), (true, 20)] (by kernel_rfl) (by kernel_rfl) (by simp) (by kernel_rfl) ?_; intro K hK
    (iterate 5 (refine @unH _ ?_; refine z3 y48_114 ?_))
    (iterate 4 (apply Cwh rfl (by simp -implicitDefEqProofs (disch := omega) only [Akg, Akm, Ayw, List.getElem?_cons_succ, List.getElem?_cons_zero, Option.bind_some, act_get?, Aqr, Nat.reduceEqDiff, ↓reduceIte, *]; rfl); simp -implicitDefEqProofs (disch := first | omega | (simp only [qd] <;> omega)) only [Aqn, Aqc]))
    (iterate 2 (refine @unH _ ?_; refine z3 y48_114 ?_))
    (iterate 9 (apply Cwh rfl (by simp -implicitDefEqProofs (disch := omega) only [Akg, Akm, Ayw, List.getElem?_cons_succ, List.getElem?_cons_zero, Option.bind_some, act_get?, Aqr, Nat.reduceEqDiff, ↓reduceIte, *]; rfl); simp -implicitDefEqProofs (disch := first | omega | (simp only [qd] <;> omega)) only [Aqn, Aqc]))
    (refine @unH _ ?_; refine z3 y48_114 ?_)
    refine Ax2 (hK _ _ ?_); clear hK K
    (try simp only [nq, ↓reduceIte, Nat.reduceEqDiff])
    (refine @unH _ ?_; refine zA y48_114 ?_; (repeat (refine inC ?_; intro hc)); try (refine inK ?_; intro K hK))
    (refine @unH _ ?_; refine z9 Tryz.results48 ?_)
    exact ⟨by rw [show Bwc xs ys = _ from hs2], by trivial⟩
def y6_127 := And.intro @callF23 (And.intro @callF46 (And.intro (fun H => Aq1 (H := H) (P := Tryz.prog) (h := Tryz.zeroValue25)) (And.intro (fun H => Aq4 (H := H) Tryz.sizeOf25) (And.intro (fun H => Aqx (H := H) Tryz.underlying25 rfl Tryz.sizeOf25) (And.intro @Dza (And.intro @Dx7 (And.intro @callF47 (And.intro @callF48 @callF22))))))))
theorem llate_spec (H : Hp) (sa : Option Addr) (sl sc : Nat) (hs : ∀ i : Nat, i < sl -> ∃ sb so c e fr x, sa = some ⟨sb, so, none⟩ /\ H sb = some (false, .cells c e fr) /\ c[so + i]? = some (.int .i64 x)) :
  FnX Tryz.prog (.wg Tryz.prog) 6 #[.slice sa sl sc] H fun e _ => e = .returned (.bool true) := by
 refine Aqk Tryz.func6 rfl Tryz.ntmps6 (by simp) ?_
 repeat' (first
 | (refine Axn rfl ?_; intro K hK; simp -implicitDefEqProofs (disch := first | omega | (simp only [qd] <;> omega)) only [xq, ↓xp, qc, Nat.reduceAdd, List.range, List.range.loop, fine, Nat.reduceEqDiff, ↓reduceIte, yielded, reduceCtorEq, Nat.reduceLT, Nat.reduceMul, Nat.reduceSub, one, Nat.reduceLeDiff, Aqa, y6_127, aq, ↓ap, qe0, qe1, qe2, *, -hK]; try (refine hK _ _ ?_; clear hK K))
 | (refine Axs rfl ?_; intro K hK; simp -implicitDefEqProofs (disch := first | omega | (simp only [qd] <;> omega)) only [xq, ↓xp, qc, Nat.reduceAdd, List.range, List.range.loop, fine, Nat.reduceEqDiff, ↓reduceIte, yielded, reduceCtorEq, Nat.reduceLT, Nat.reduceMul, Nat.reduceSub, one, Nat.reduceLeDiff, Aqa, y6_127, aq, ↓ap, qe0, qe1, qe2, *, -hK]; try (refine hK _ _ ?_; clear hK K; (try simp only [nq, ↓reduceIte, Nat.reduceEqDiff])))
 | (refine Aqu ?_; (try simp only [nq, ↓reduceIte, Nat.reduceEqDiff]))
 | (refine Axr ?_; (try simp only [nq, ↓reduceIte, Nat.reduceEqDiff]))
 | (refine Axb ?_; (try simp only [nq, ↓reduceIte, Nat.reduceEqDiff]))
 | (refine Azb ?_; (try simp only [nq, ↓reduceIte, Nat.reduceEqDiff]))
 | (refine Axy (by simp only [Aqm, Aqr, Nat.reduceEqDiff, Nat.reduceLT, ↓reduceIte, *]; rfl) ?_ ?_ <;> (intro hc; first | (exfalso; simp -implicitDefEqProofs (disch := omega) only [*, bq, reduceCtorEq] at hc; done) | (simp only [dq, qe3, qe4, qe5, qe6] at hc) | skip))
 | (refine Axq ?_)
 | (refine Aqo ?_)
 | (refine Aql ?_))
 refine (newTin_spec _ H sa sl sc hs 240 (by omega)).runs.mono ?_
 rintro _ H1 ⟨tb, rfl, l1, hT⟩
 (try simp -implicitDefEqProofs (disch := first | omega | (simp only [qd] <;> omega)) only [xq, ↓xp, qc, Nat.reduceAdd, List.range, List.range.loop, fine, Nat.reduceEqDiff, ↓reduceIte, yielded, reduceCtorEq, Nat.reduceLT, Nat.reduceMul, Nat.reduceSub, one, Nat.reduceLeDiff, Aqa, y6_127, aq, ↓ap, qe0, qe1, qe2, *, -hK]); try (refine hK _ _ ?_; clear hK K; (try simp only [nq, ↓reduceIte, Nat.reduceEqDiff])); repeat' (first
 | (refine Axn rfl ?_; intro K hK; simp -implicitDefEqProofs (disch := first | omega | (simp only [qd] <;> omega)) only [xq, ↓xp, qc, Nat.reduceAdd, List.range, List.range.loop, fine, Nat.reduceEqDiff, ↓reduceIte, yielded, reduceCtorEq, Nat.reduceLT, Nat.reduceMul, Nat.reduceSub, one, Nat.reduceLeDiff, Aqa, y6_127, aq, ↓ap, qe0, qe1, qe2, *, -hK]; try (refine hK _ _ ?_; clear hK K))
 | (refine Axs rfl ?_; intro K hK; simp -implicitDefEqProofs (disch := first | omega | (simp only [qd] <;> omega)) only [xq, ↓xp, qc, Nat.reduceAdd, List.range, List.range.loop, fine, Nat.reduceEqDiff, ↓reduceIte, yielded, reduceCtorEq, Nat.reduceLT, Nat.reduceMul, Nat.reduceSub, one, Nat.reduceLeDiff, Aqa, y6_127, aq, ↓ap, qe0, qe1, qe2, *, -hK]; try (refine hK _ _ ?_; clear hK K; (try simp only [nq, ↓reduceIte, Nat.reduceEqDiff])))
 | (refine Aqu ?_; (try simp only [nq, ↓reduceIte, Nat.reduceEqDiff]))
 | (refine Axr ?_; (try simp only [nq, ↓reduceIte, Nat.reduceEqDiff]))
 | (refine Axb ?_; (try simp only [nq, ↓reduceIte, Nat.reduceEqDiff]))
 | (refine Azb ?_; (try simp only [nq, ↓reduceIte, Nat.reduceEqDiff]))
 | (refine Axy (by simp only [Aqm, Aqr, Nat.reduceEqDiff, Nat.reduceLT, ↓reduceIte, *]; rfl) ?_ ?_ <;> (intro hc; first | (exfalso; simp -implicitDefEqProofs (disch := omega) only [*, bq, reduceCtorEq] at hc; done) | (simp only [dq, qe3, qe4, qe5, qe6] at hc) | skip))
 | (refine Axq ?_)
 | (refine Aqo ?_)
 | (refine Aql ?_))
 refine (vaultOf_spec _ H1 tb 166 6 2 (by omega) (by omega) (by omega) hT).runs.mono ?_
 rintro _ H2 ⟨places, pieces, sv, start, cv, xss, tv, ts, rfl, hst, hcs, htr, hok, hfew, htok, lex2, hT2⟩
 have hd2 : Awx H2 places pieces sv cv tv start xss ts := ⟨hst, hcs, htr, hok, by omega, htok⟩
 clear hT hs l1 hst hcs htr lex2
 obtain ⟨va, vc, rfl, hvc, _⟩ := id hd2.st
 obtain ⟨ca, cc, rfl, hcc, _⟩ := id hd2.calls
 obtain ⟨ta, tc, rfl, htc, _⟩ := id hd2.truth
 have htl : ts.length <= 6 := by have := htok.1; omega
 have htb := htok.bnd hok
 have hok2 := hok
 obtain ⟨p1, p4, q1, q6, hsp, hsd, hsb, hxs⟩ := hok2
 have hs6 : ∀ t ∈ start, 0 <= t /\ t < 6 := fun t ht => by have := hsb t ht; omega
 ((try (refine @unH _ ?_; refine zX y6_127 ?_)); (try (refine hK _ _ ?_; clear hK K; (try simp only [nq, ↓reduceIte, Nat.reduceEqDiff]))); refine @unH _ ?_; refine zA y6_127 ?_; (repeat (refine inC ?_; intro hc)); try (refine inK ?_; intro K hK))
 (intro vb hvb; generalize hG : Hp.set _ vb _ = H3; have lH3 := Aqg hG hvb; have vvb := Aqf hG; clear hG)
 have hd3 := hd2.le lH3
 clear hd2 lH3 hvb hT2
 ((try (refine @unH _ ?_; refine zX y6_127 ?_)); (try (refine hK _ _ ?_; clear hK K; (try simp only [nq, ↓reduceIte, Nat.reduceEqDiff]))); refine @unH _ ?_; refine zA y6_127 ?_; (repeat (refine inC ?_; intro hc)); try (refine inK ?_; intro K hK))
 refine (Cku _ H3 places pieces _ _ _ start xss ts hd3).runs.mono ?_
 rintro _ H4 ⟨bv, rfl, hbl, lH4⟩
 have hd4 := hd3.le lH4
 have vvb4 := lH4 _ _ vvb
 clear vvb lH4 hd3
 ((try (refine @unH _ ?_; refine zX y6_127 ?_)); (try (refine hK _ _ ?_; clear hK K; (try simp only [nq, ↓reduceIte, Nat.reduceEqDiff]))); refine @unH _ ?_; refine zA y6_127 ?_; (repeat (refine inC ?_; intro hc)); try (refine inK ?_; intro K hK))
 refine (Cwx _ H4 places pieces _ _ _ start xss ts hd4 3 (by omega) (by omega)).runs.mono ?_
 rintro _ H5 ⟨kv, rfl, lH5, hkl⟩
 have hd5 := hd4.le lH5
 have hbl5 := hbl.le lH5
 have vvb5 := lH5 _ _ vvb4
 clear vvb4 lH5 hd4 hbl
 have hF1 : Aq7 places start ts (Ajt ts.length places ts (oOf start)) = some (optF ts.length places ts (oOf start)) := path_follow ts.length p1 (Nat.le_refl _) hs6 hsd htb
 have hpl : (Ajt ts.length places ts (oOf start)).length = ts.length := Cva ((Avq ts.length).1 (Cwg ts.length p1 (Nat.le_refl _)))
 have hFk := rule_follow (pl := places) (r := 3) p1 (show ts.length <= 8 by omega) hs6 hsd htb
 have hlate := Dq5 (pl := places) ts.length (Nat.le_refl _) p1 htb hs6 hsp
 have hSk := rule_first (pl := places) (r := 3) (start := start) p1 (show ts.length <= 8 by omega) htb hlate
 have hcl := cl_len (pl := places) (r := 3) hs6 htb (show ts.length <= 8 by omega)
 have hge := fun r : Int => run_ge (pl := places) (r := r) (start := start) ts.length (Nat.le_refl _) p1 htb
 have hopt := Bv3 ts.length places p1 ts (oOf start) (Nat.le_refl _)
 rw [hlate] at hFk ⊢
 clear hlate
 generalize (rrun places 3 ts (rs0 start) ts.length).cl.take ts.length = KL at *
 generalize Ajt ts.length places ts (oOf start) = PL at *
 generalize optF ts.length places ts (oOf start) = N at *
 have hson := fun HX (hX : H5.le HX) => soonV_spec (.wg Tryz.prog) HX _ _ KL PL (hkl.le hX) (hbl5.le hX) (by omega) (by omega)
 have hfol1 := fun HX (hX : H5.le HX) => follow_spec (.wg Tryz.prog) HX places pieces _ (.slice ca xss.length cc) _ _ start ts PL (hd5.le hX).st rfl (hd5.le hX).truth (hbl5.le hX) (by omega) (by omega) (by omega)
 have hfol2 := fun HX (hX : H5.le HX) => follow_spec (.wg Tryz.prog) HX places pieces _ (.slice ca xss.length cc) _ _ start ts KL (hd5.le hX).st rfl (hd5.le hX).truth (hkl.le hX) (by omega) (by omega) (by omega)
 have hsn : Bwc KL PL = false := by
  cases h : Bwc KL PL
  ·rfl
  ·exact absurd ((Cj7 (by omega)).1 h) hSk
 rw [hF1] at hfol1
 rw [hFk] at hfol2
 rw [hsn] at hson
 obtain ⟨ba, bc, rfl, hbc, _⟩ := id hbl5
 obtain ⟨ka, kc, rfl, hkc, _⟩ := id hkl
 rw [hpl] at hbc ⊢
 rw [hcl] at hkc ⊢
 simp only [hcl, hpl] at hfol1 hfol2 hson
 replace hfol1 : Aqs _ := hfol1
 replace hfol2 : Aqs _ := hfol2
 replace hson : Aqs _ := hson
 replace hge : Aqs _ := hge
 clear hF1 hFk hSk hcl hpl hsn hkl hbl5
 (refine @unH _ ?_; refine zX y6_127 ?_)
 refine hK _ _ ?_; clear hK K
 (try simp only [nq, ↓reduceIte, Nat.reduceEqDiff])
 refine Av4 (fun e => e 3 = .pointer (some ⟨vb, 0, none⟩) /\ e 4 = .slice ta ts.length tc /\ e 5 = .slice ba ts.length bc /\ e 6 = .int .i64 N /\ e 7 = .int .i64 0 /\ e 8 = .slice ka ts.length kc /\ e 9 = .int .i64 N /\ e 10 = .int .i64 0) ⟨rfl, rfl, rfl, rfl, rfl, rfl, rfl, rfl⟩ ?_
 rintro e ⟨e3, e4, e5, e6, e7, e8, e9, e10⟩
 (refine @unH _ ?_; refine zA y6_127 ?_; (repeat (refine inC ?_; intro hc)); try (refine inK ?_; intro K hK))
 refine ((show ∀ HX, H5.le HX -> FnX _ _ _ _ _ _ from hfol1) H5 (Hp.le_refl _)).runs.mono ?_
 rintro _ H6 ⟨rfl, lH6⟩
 simp only [Dzy]
 have vvb6 := lH6 _ _ vvb5
 have hf2 := (show ∀ HX, H5.le HX -> FnX _ _ _ _ _ _ from hfol2) H6 lH6
 replace hf2 : Aqs _ := hf2
 clear hfol1 hfol2
 ((try (refine @unH _ ?_; refine zX y6_127 ?_)); (try (refine hK _ _ ?_; clear hK K; (try simp only [nq, ↓reduceIte, Nat.reduceEqDiff]))); refine @unH _ ?_; refine zA y6_127 ?_; (repeat (refine inC ?_; intro hc)); try (refine inK ?_; intro K hK))
 refine (show FnX _ _ _ _ _ _ from hf2).runs.mono ?_
 rintro _ H7 ⟨rfl, lH7⟩
 simp only [Dzy]
 have vvb7 := lH7 _ _ vvb6
 have l57 := Hp.le_trans lH6 lH7
 have hs7 := (show ∀ HX, H5.le HX -> FnX _ _ _ _ _ _ from hson) H7 l57
 replace hs7 : Aqs _ := hs7
 have hd7 := hd5.le l57
 clear hf2 hson vvb5 vvb6 lH6 lH7 l57 hd5
 ((try (refine @unH _ ?_; refine zX y6_127 ?_)); (try (refine hK _ _ ?_; clear hK K; (try simp only [nq, ↓reduceIte, Nat.reduceEqDiff]))); refine @unH _ ?_; refine zA y6_127 ?_; (repeat (refine inC ?_; intro hc)); try (refine inK ?_; intro K hK))
 refine (show FnX _ _ _ _ _ _ from hs7).runs.mono ?_
 rintro _ HQ ⟨rfl, hHQ⟩
 rw [hHQ]; clear hHQ HQ hs7
 ((try (refine @unH _ ?_; refine zX y6_127 ?_)); (try (refine hK _ _ ?_; clear hK K; (try simp only [nq, ↓reduceIte, Nat.reduceEqDiff]))); refine @unH _ ?_; refine zA y6_127 ?_; (repeat (refine inC ?_; intro hc)); try (refine inK ?_; intro K hK))
 refine Axe (fun w a' H' => ∃ e, ∃ r : Nat, w = 3 - r /\ r <= 3 /\ a' = act 87 e [] /\ e 3 = .pointer (some ⟨vb, 0, none⟩) /\ e 4 = .slice ta ts.length tc /\ e 6 = .int .i64 N /\ e 11 = .int .i64 (r : Nat) /\ H7.le H') (n := 3) ?_ ?_
 ·exact ⟨_, 0, by omega, by omega, rfl, e3, e4, e6, rfl, Hp.le_refl _⟩
 ·clear e3 e4 e5 e6 e7 e8 e9 e10
  rename_i eold
  clear eold
  rintro w a' H8 ⟨e, r, rfl, hr, rfl, e3, e4, e6, e11, l78⟩
  have hd8 := hd7.le l78
  have vvb8 := l78 _ _ vvb7
  by_cases hr3 : r < 3
  ·(refine @unH _ ?_; refine zA y6_127 ?_; (repeat (refine inC ?_; intro hc)); try (refine inK ?_; intro K hK))
   refine (Cwx _ H8 places pieces _ _ _ start xss ts hd8 r (by omega) (by omega)).runs.mono ?_
   rintro _ H9 ⟨lv, rfl, lH9, hlv⟩
   have l79 := Hp.le_trans l78 lH9
   have h1 := (show ∀ r : Int, _ from hge) r
   have h5 := (Bjx places r ts start hs6 htb (by omega) ts.length (Nat.le_refl _)).f
   clear hlv hge
   generalize (rrun places r ts (rs0 start) ts.length).f = FR at *
   ((try (refine @unH _ ?_; refine zX y6_127 ?_)); (try (refine hK _ _ ?_; clear hK K; (try simp only [nq, ↓reduceIte, Nat.reduceEqDiff]))); refine @unH _ ?_; refine zA y6_127 ?_; (repeat (refine inC ?_; intro hc)); try (refine inK ?_; intro K hK))
   exact ⟨3 - (r + 1), by omega, _, r + 1, rfl, by omega, rfl, e3, e4, e6, rfl, l79⟩
  ·obtain rfl : r = 3 := by omega
   (refine @unH _ ?_; refine zA y6_127 ?_; (repeat (refine inC ?_; intro hc)); try (refine inK ?_; intro K hK))
   refine (kept_spec H8).runs.mono ?_
   rintro _ H9 ⟨rfl, lH9⟩
   ((try (refine @unH _ ?_; refine zX y6_127 ?_)); (try (refine hK _ _ ?_; clear hK K; (try simp only [nq, ↓reduceIte, Nat.reduceEqDiff]))); refine @unH _ ?_; refine zA y6_127 ?_; (repeat (refine inC ?_; intro hc)); try (refine inK ?_; intro K hK))
   (refine Ax8 ?_; (try simp only [nq, ↓reduceIte, Nat.reduceEqDiff]); rw [Axw, Ak6 Tryz.results6 (by decide)]; simp only [Aqr, Nat.reduceEqDiff, ↓reduceIte])
end Go.Proofs.YtgniilnljeedlaaGreatDoor
end
section
namespace Go.Proofs.YtgniilnljeedlaaGreatDoor
open Go Go.X Go.ChangeShapes Go.WideShapes Go.RowKit
set_option maxRecDepth 100000 in
theorem law_lifted (os : Os) (started : os.Started) (H : Type) (enc : TypeId × Value -> H) :
  ReturnsInLeavingWide {} Tryz.checked os 6 .any (fun w args => (Rows.vaultLateSpec.pre enc Tryz.prog Tryz.f6 [] false w args /\ laidMetH Tryz.prog [("errors.errorType", Rows.laid_errors_errorType)] w) /\ sizedMet enc Tryz.prog Tryz.f6 (OpenSpec.ofChange Rows.vaultLateSpec) false w args)
   (Rows.vaultLateSpec.post enc Tryz.prog Tryz.f6 false true false false) := by
 refine leaving_of_change_and (C := Tryz.checked) (X := fun w _ => laidMetH Tryz.prog [("errors.errorType", Rows.laid_errors_errorType)] w) (fun _ _ _ hh h => h.of_heap hh) ownK started Tryz.func6
  (ChangeSpec.witness_at (enc := enc) (C := Tryz.checked) (os := os) (X := fun w _ => laidMetH Tryz.prog [("errors.errorType", Rows.laid_errors_errorType)] w) false (laidWorld os) #[.slice none 0 0] 8 rfl (by kernel_rfl) (by kernel_rfl) (by kernel_rfl) (by kernel_rfl) (by kernel_rfl) (laidWorld_met os _)) ?_
 intro W base args ds gs before hval0 hW hL
 have hval : ∀ (j : Nat) t v, Tryz.f6.params[j]? = some t -> args[j]? = some v -> Value.okWide Tryz.prog W .any base t v := hval0
 have hW' := hW
 obtain ⟨p, q, hA0, hV0, rfl, hfz, hnd⟩ := hW
 have hA : DataW.TrodAll enc Tryz.prog W 0 (fun _ => true) true Tryz.f6.params.toList args.toList ds p := hA0
 have hV : DataW.TrodVars enc Tryz.prog W (fun _ => true) [] gs q := hV0
 rw [Tryz.params6] at hA hval
 obtain ⟨v0, d0, rfl, rfl, h0⟩ := trodAll_one hA
 obtain ⟨a0, len, cap, rfl⟩ := okWide_slice Tryz.underlying22 (hval 0 22 v0 rfl rfl)
 have h0k := h0
 obtain ⟨fuel, hf⟩ := h0
 obtain ⟨rfl, rfl⟩ : gs = [] /\ q = [] := by
  cases gs with
  | nil => exact ⟨rfl, hV⟩
  | cons g r => exact absurd hV (by intro h; cases h)
 have e1 : Rows.vaultLateSpec.fn H ([d0] ++ []) = { results := [.lit (.bool true)], args := [d0] } := by simp [Rows.vaultLateSpec]
 have hcells : ∀ i : Nat, i < len -> ∃ sb so c e fr x, a0 = some ⟨sb, so, none⟩ /\ Bq2 W sb = some (false, .cells c e fr) /\ c[so + i]? = some (.int .i64 x) := by
  rcases open_ints Tryz.underlying22 Tryz.underlying3 cellsK hf with ⟨hcs, _⟩ | ⟨a, len', cap', zs, hcs, _, hl, hm, hz, hx, hcell, hwz⟩
  ·simp [Value.cells] at hcs
   intro i hi
   omega
  ·simp [Value.cells] at hcs
   obtain ⟨rfl, rfl, rfl⟩ := hcs
   intro i hi
   simp only [if_true] at hz
   have hc := hcell i (by omega)
   obtain ⟨b, off, spot⟩ := a
   have hspot : spot = none := by simpa [Addr.add] using World.cell?_spot (hcell 0 (by omega))
   subst hspot
   rw [add_plain] at hc
   unfold World.cell? at hc
   split at hc
   ·rename_i c e fr hb
    exact ⟨b, off, c, e, fr, _, rfl, by simp [Bq2, hb], by simpa using hc⟩
   ·cases hc
 have hlt : ∀ x ∈ p, x.block < W.heap.size := fun x hx => by simpa using hW'.lt x (by simpa using hx)
 obtain ⟨N, last, o, w', t', r1, r2, r3, v, hv, ⟨rfl, hB⟩, r4⟩ := (llate_spec (Bq2 W) a0 len cap hcells).goodW Tryz.func6 (results_tmp Tryz.results6 _) (by kernel_rfl)
 refine ⟨N, last, o, w', t', r1, r2, r3, _, hv, ?_, r4⟩
 have hb := hB.below
 refine ⟨_, _, _, [], p, [], hW', ?_, ?_, ?_, hB.kept _, fun h => by cases h⟩
 ·rw [e1]; exact trodAll_mk1 (shut_bool Tryz.underlying4 true)
 ·rw [e1]
  have t := trodAll_mk1 (DataW.Trod.of_heap (w := { w' with tape := W.tape }) (w' := w') rfl (Below.trod laidOutK (by kernel_rfl) (of_decide_eq_true (by kernel_rfl)) h0k hb hlt))
  exact t
 ·rw [e1]; rfl
end Go.Proofs.YtgniilnljeedlaaGreatDoor
end
section
namespace Go.Proofs.YtgniilnljeedlaaGreatDoor
open Go Go.X Go.ChangeShapes Go.WideShapes Go.RowKit
theorem jEnter : Program.mayEnter Tryz.pinned.checked.prog = true := factEnter
theorem jLift : (Rows.vaultLateRow.lifted == Program.liftsFinal Tryz.pinned.checked.prog) = true := by rw [show Program.liftsFinal Tryz.pinned.checked.prog = Rows.vaultLateRow.lifted from factLift]; exact beq_self_eq_true _
theorem jMake : (Program.make Tryz.pinned.checked.prog == some Rows.vaultLateRow.make) = true := by rw [show Program.make Tryz.pinned.checked.prog = some Rows.vaultLateRow.make from factMake]; exact beq_self_eq_true _
set_option maxRecDepth 100000 in
theorem jf : joinedFacts Tryz.pinned.checked.prog 6 Tryz.f6 Rows.vaultLateSpec Rows.vaultLateRow = true := by
 unfold joinedFacts
 simp only [jEnter, jLift, jMake, Bool.and_true]
 kernel_rfl
set_option maxRecDepth 100000 in
theorem vaultLate_said : Rows.VaultLateSaid :=
 OpenClaim.holds_of_wide_leaving 6 Tryz.f6 rfl rfl rfl rfl rfl rfl rfl ⟨rfl, rfl, rfl, rfl, rfl⟩ rfl rfl rfl rfl rfl (by kernel_rfl) Tryz.func6 jf
  (of_decide_eq_true (by kernel_rfl)) (by unfold Func.isWrapper; rw [if_neg (of_decide_eq_false (by kernel_rfl))]; exact ⟨rfl, rfl⟩)
  (fun os started H enc _ => law_lifted os started H enc)
end Go.Proofs.YtgniilnljeedlaaGreatDoor
end
