/- Texts LNew PVaultNew SVaultNew. -/
import Derived.Test.YtgniilnljeedlaaGreatDoorJ24
import Derived.Test.YtgniilnljeedlaaGreatDoorAFactA
import Derived.Test.YtgniilnljeedlaaGreatDoorAFactVB
import Derived.Test.YtgniilnljeedlaaGreatDoorAFactVC
set_option linter.defProp false
set_option linter.unusedSimpArgs false
set_option linter.unusedVariables false
set_option maxRecDepth 100000
set_option maxHeartbeats 2000000
section
namespace Go.Proofs.YtgniilnljeedlaaGreatDoor
open Go Go.X
def y9_123 := And.intro @callF23 (And.intro @callF46 (And.intro (fun H => Aq1 (H := H) (P := Tryz.prog) (h := Tryz.zeroValue25)) (And.intro (fun H => Aq4 (H := H) Tryz.sizeOf25) (And.intro (fun H => Aq5 (H := H) Tryz.underlying22) (And.intro (fun H => Aqh (H := H) Tryz.underlying25 (i := 2) rfl (off := 2) rfl Tryz.sizeOf22) (And.intro (fun H => Aqd (H := H) Tryz.underlying22 rfl) (And.intro (fun H => Aqq (H := H) Tryz.underlying22 Tryz.sizeOf3) (And.intro (fun H => Aqd (H := H) Tryz.underlying3 rfl) (And.intro @Ckz (And.intro @Axp (And.intro (fun H => Aqx (H := H) Tryz.underlying25 rfl Tryz.sizeOf25) (And.intro @Dx7 (And.intro (fun H => Aqh (H := H) Tryz.underlying25 (i := 1) rfl (off := 1) rfl Tryz.sizeOf3) (And.intro (fun H => Aqh (H := H) Tryz.underlying25 (i := 0) rfl (off := 0) rfl Tryz.sizeOf3) @callF22))))))))))))))
theorem lnew_spec (H : Hp) (sa : Option Addr) (sl sc : Nat) (hs : ∀ i : Nat, i < sl -> ∃ sb so c e fr x, sa = some ⟨sb, so, none⟩ /\ H sb = some (false, .cells c e fr) /\ c[so + i]? = some (.int .i64 x)) :
  FnX Tryz.prog (.wg Tryz.prog) 9 #[.slice sa sl sc] H fun e _ => e = .returned (.bool true) := by
 refine Aqk Tryz.func9 rfl Tryz.ntmps9 (by simp) ?_
 repeat' (first
 | (refine Axn rfl ?_; intro K hK; simp -implicitDefEqProofs (disch := first | omega | (simp only [qd] <;> omega)) only [xq, ↓xp, qc, Nat.reduceAdd, List.range, List.range.loop, fine, Nat.reduceEqDiff, ↓reduceIte, yielded, reduceCtorEq, Nat.reduceLT, Nat.reduceMul, Nat.reduceSub, one, Nat.reduceLeDiff, Aqa, y9_123, aq, ↓ap, qe0, qe1, qe2, *, -hK]; try (refine hK _ _ ?_; clear hK K))
 | (refine Axs rfl ?_; intro K hK; simp -implicitDefEqProofs (disch := first | omega | (simp only [qd] <;> omega)) only [xq, ↓xp, qc, Nat.reduceAdd, List.range, List.range.loop, fine, Nat.reduceEqDiff, ↓reduceIte, yielded, reduceCtorEq, Nat.reduceLT, Nat.reduceMul, Nat.reduceSub, one, Nat.reduceLeDiff, Aqa, y9_123, aq, ↓ap, qe0, qe1, qe2, *, -hK]; try (refine hK _ _ ?_; clear hK K; (try simp only [nq, ↓reduceIte, Nat.reduceEqDiff])))
 | (refine Aqu ?_; (try simp only [nq, ↓reduceIte, Nat.reduceEqDiff]))
 | (refine Axr ?_; (try simp only [nq, ↓reduceIte, Nat.reduceEqDiff]))
 | (refine Axb ?_; (try simp only [nq, ↓reduceIte, Nat.reduceEqDiff]))
 | (refine Azb ?_; (try simp only [nq, ↓reduceIte, Nat.reduceEqDiff]))
 | (refine Axy (by simp only [Aqm, Aqr, Nat.reduceEqDiff, Nat.reduceLT, ↓reduceIte, *]; rfl) ?_ ?_ <;> (intro hc; first | (exfalso; simp -implicitDefEqProofs (disch := omega) only [*, bq, reduceCtorEq] at hc; done) | (simp only [dq, qe3, qe4, qe5, qe6] at hc) | skip))
 | (refine Axq ?_)
 | (refine Aqo ?_)
 | (refine Aql ?_))
 refine (newTin_spec _ H sa sl sc hs 240 (by omega)).runs.mono ?_
 rintro _ H1 ⟨tb, rfl, l1, hT⟩
 (try simp -implicitDefEqProofs (disch := first | omega | (simp only [qd] <;> omega)) only [xq, ↓xp, qc, Nat.reduceAdd, List.range, List.range.loop, fine, Nat.reduceEqDiff, ↓reduceIte, yielded, reduceCtorEq, Nat.reduceLT, Nat.reduceMul, Nat.reduceSub, one, Nat.reduceLeDiff, Aqa, y9_123, aq, ↓ap, qe0, qe1, qe2, *, -hK]); try (refine hK _ _ ?_; clear hK K; (try simp only [nq, ↓reduceIte, Nat.reduceEqDiff])); repeat' (first
 | (refine Axn rfl ?_; intro K hK; simp -implicitDefEqProofs (disch := first | omega | (simp only [qd] <;> omega)) only [xq, ↓xp, qc, Nat.reduceAdd, List.range, List.range.loop, fine, Nat.reduceEqDiff, ↓reduceIte, yielded, reduceCtorEq, Nat.reduceLT, Nat.reduceMul, Nat.reduceSub, one, Nat.reduceLeDiff, Aqa, y9_123, aq, ↓ap, qe0, qe1, qe2, *, -hK]; try (refine hK _ _ ?_; clear hK K))
 | (refine Axs rfl ?_; intro K hK; simp -implicitDefEqProofs (disch := first | omega | (simp only [qd] <;> omega)) only [xq, ↓xp, qc, Nat.reduceAdd, List.range, List.range.loop, fine, Nat.reduceEqDiff, ↓reduceIte, yielded, reduceCtorEq, Nat.reduceLT, Nat.reduceMul, Nat.reduceSub, one, Nat.reduceLeDiff, Aqa, y9_123, aq, ↓ap, qe0, qe1, qe2, *, -hK]; try (refine hK _ _ ?_; clear hK K; (try simp only [nq, ↓reduceIte, Nat.reduceEqDiff])))
 | (refine Aqu ?_; (try simp only [nq, ↓reduceIte, Nat.reduceEqDiff]))
 | (refine Axr ?_; (try simp only [nq, ↓reduceIte, Nat.reduceEqDiff]))
 | (refine Axb ?_; (try simp only [nq, ↓reduceIte, Nat.reduceEqDiff]))
 | (refine Azb ?_; (try simp only [nq, ↓reduceIte, Nat.reduceEqDiff]))
 | (refine Axy (by simp only [Aqm, Aqr, Nat.reduceEqDiff, Nat.reduceLT, ↓reduceIte, *]; rfl) ?_ ?_ <;> (intro hc; first | (exfalso; simp -implicitDefEqProofs (disch := omega) only [*, bq, reduceCtorEq] at hc; done) | (simp only [dq, qe3, qe4, qe5, qe6] at hc) | skip))
 | (refine Axq ?_)
 | (refine Aqo ?_)
 | (refine Aql ?_))
 refine (vaultOf_spec _ H1 tb 148 8 2 (by omega) (by omega) (by omega) hT).runs.mono ?_
 rintro _ H2 ⟨places, pieces, sv, start, cv, xss, tv, ts, rfl, hst, hcs, htr, hok, hfew, htok, lex2, hT2⟩
 have hd2 : Awx H2 places pieces sv cv tv start xss ts := ⟨hst, hcs, htr, hok, by omega, htok⟩
 clear hT hs l1 hst hcs htr lex2
 obtain ⟨va, vc, rfl, hvc, _⟩ := id hd2.st
 obtain ⟨ca, cc, rfl, hcc, _⟩ := id hd2.calls
 obtain ⟨ta, tc, rfl, htc, _⟩ := id hd2.truth
 have htl : ts.length <= 8 := by have := htok.1; omega
 have htb := htok.bnd hok
 have hok2 := hok
 obtain ⟨p1, p4, q1, q6, hsp, hsd, hsb, hxs⟩ := hok2
 have hs6 : ∀ t ∈ start, 0 <= t /\ t < 6 := fun t ht => by have := hsb t ht; omega
 have htp : ∀ t ∈ ts, 0 <= t /\ t < pieces := htok.below hok
 ((try (refine @unH _ ?_; refine zX y9_123 ?_)); (try (refine hK _ _ ?_; clear hK K; (try simp only [nq, ↓reduceIte, Nat.reduceEqDiff]))); refine @unH _ ?_; refine zA y9_123 ?_; (repeat (refine inC ?_; intro hc)); try (refine inK ?_; intro K hK))
 (intro vb hvb; generalize hG : Hp.set _ vb _ = H3; have lH3 := Aqg hG hvb; have vvb := Aqf hG; clear hG)
 have hd3 := hd2.le lH3
 clear hd2 lH3 hvb hT2
 ((try (refine @unH _ ?_; refine zX y9_123 ?_)); (try (refine hK _ _ ?_; clear hK K; (try simp only [nq, ↓reduceIte, Nat.reduceEqDiff]))); refine @unH _ ?_; refine zA y9_123 ?_; (repeat (refine inC ?_; intro hc)); try (refine inK ?_; intro K hK))
 have hfl : ∀ i, (Akl start (ts.take i)).length <= i := fun i => Cji start ts i
 refine Axe (fun w a' H' => ∃ e i fv, w = ts.length - i /\ i <= ts.length /\ a' = act 97 e [] /\ e 3 = .pointer (some ⟨vb, 0, none⟩) /\ e 4 = .slice ta ts.length tc /\ e 5 = fv /\ e 6 = .int .i64 (i : Nat) /\ RowX none H3 H' fv 3 (ints (Akl start (ts.take i)))) (n := ts.length) ?_ ?_
 ·exact ⟨_, 0, _, by omega, by omega, rfl, rfl, rfl, rfl, rfl, RowX.nil⟩
 ·rintro w a' H4 ⟨e, i, fv, rfl, hi, rfl, e3, e4, e5, e6, hrow⟩
  have l34 := hrow.1.toLe
  have vvb4 := l34 _ _ vvb
  have hd4 := hd3.le l34
  have hfi := hfl i
  by_cases hlt : i < ts.length
  ·obtain ⟨b, o, cap', q, c, fr, hve, _, hb', hx⟩ := hd4.truth.cons (fun h => absurd (congrArg List.length h) (by simp only [List.length_nil]; omega))
   cases hve
   have hxi := hx i ts[i] (List.getElem?_eq_getElem hlt)
   have hg : ts.getD i 0 = ts[i] := by simp [List.getD, List.getElem?_eq_getElem hlt]
   have hsn := Awb start (ts.take i) (ts.getD i 0)
   rw [<- Av1 hlt, hg] at hsn
   generalize ts[i] = t at hxi hsn
   clear hg
   have hs4 := hd4.st
   have hfs := hrow.ints
   obtain ⟨fa, fc, rfl⟩ := hrow.len
   rw [Aq8] at hrow hfs e5
   have hfb := hfl (i + 1)
   generalize hfr1 : Akl start (ts.take (i + 1)) = fr1 at hsn hfb
   generalize Akl start (ts.take i) = fr0 at *
   have hA1 := Cko start t
   have hA2 := Cko fr0 t
   have hB1 : 0 <= atF start t ↔ t ∈ start := Bki
   have hB2 : 0 <= atF fr0 t ↔ t ∈ fr0 := Bki
   have hq1 := Cxt (.wg Tryz.prog) H4 _ start t hs4 (by omega)
   have hq2 := Cxt (.wg Tryz.prog) H4 _ fr0 t hfs (by omega)
   replace hq1 : Aqs _ := hq1
   replace hq2 : Aqs _ := hq2
   generalize atF start t = A1 at *
   generalize atF fr0 t = A2 at *
   replace hsn : Aqs _ := hsn
   replace hB1 : Aqs _ := hB1
   replace hB2 : Aqs _ := hB2
   by_cases hA : A1 < 0
   ·by_cases hA' : A2 < 0
    ·have hsn2 : fr1 = fr0 ++ [t] := by
      have h : fr1 = if t ∈ start ∨ t ∈ fr0 then fr0 else fr0 ++ [t] := hsn
      rw [h, if_neg]
      rintro (h1 | h1)
      ·have := (show 0 <= A1 ↔ t ∈ start from hB1).2 h1; omega
      ·have := (show 0 <= A2 ↔ t ∈ fr0 from hB2).2 h1; omega
     clear hsn hB1 hB2
     replace hsn2 : Aqs _ := hsn2
     (refine @unH _ ?_; refine zA y9_123 ?_; (repeat (refine inC ?_; intro hc)); try (refine inK ?_; intro K hK))
     refine Az4 17 [(true, 0), (true, 1), (true, 2), (true, 3), (true, 4), (true, 5), (true, 6), (true, 7), (true, 8), (true, 9), (true, 10), (true, 11), (true, 12), (true, 13), (true, 14), (true, 15), (true, 16)] (by kernel_rfl) (by kernel_rfl) (by simp) (by kernel_rfl) ?_; intro K hK
     (iterate 6 (refine @unH _ ?_; refine z3 y9_123 ?_))
     (apply Axc rfl rfl rfl; (focus ((refine @unH _ ?_; refine zX y9_123 ?_); exact quiet_of (show FnX _ _ _ _ _ _ from hq1))); simp -implicitDefEqProofs (disch := first | omega | (simp only [qd] <;> omega)) only [Aqn, Aqc])
     (iterate 2 (refine @unH _ ?_; refine z3 y9_123 ?_))
     (iterate 5 (refine @unH _ ?_; refine z6 y9_123 ?_))
     (apply Axc rfl (by simp -implicitDefEqProofs (disch := omega) only [Akg, Akm, Ayw, List.getElem?_cons_succ, List.getElem?_cons_zero, Option.bind_some, act_get?, Aqr, Nat.reduceEqDiff, ↓reduceIte, beq_self_eq_true, *]) rfl; (focus ((refine @unH _ ?_; refine zX y9_123 ?_); exact quiet_of (show FnX _ _ _ _ _ _ from hq2))); simp -implicitDefEqProofs (disch := first | omega | (simp only [qd] <;> omega)) only [Aqn, Aqc])
     (refine @unH _ ?_; refine z6 y9_123 ?_)
     (refine @unH _ ?_; refine z3 y9_123 ?_)
     refine Ax2 (hK _ _ ?_); clear hK K hq1 hq2
     (try simp only [nq, ↓reduceIte, Nat.reduceEqDiff])
     (refine @unH _ ?_; refine zA y9_123 ?_; (repeat (refine inC ?_; intro hc)); try (refine inK ?_; intro K hK))
     intro nb hnb
     generalize hG : Hp.set H4 nb _ = H5
     have lH5 := Aqg hG hnb
     have vnb := Aqf hG
     clear hG
     have hw : SlI H5 (.slice (some ⟨nb, 0, none⟩) 1 1) [t] := Azr (xs := [t]) vnb rfl
     have hsep : rowB (.slice fa fr0.length fc) ≠ some nb := hrow.rowB_ne fun c fr h => by rw [hnb] at h; cases h
     have hrow5 := hrow.le lH5
     refine Avp hrow5 hw (fun _ b hb => by simp only [rowB, Option.some.injEq] at hb; subst hb; exact hsep) (by simp only [List.length_cons, List.length_nil]; omega) _ _ _ _ (fun v6 H6 hrow6 hkeep => ?_)
     clear hw hsep hrow5 hkeep lH5 vnb hnb hrow hfs
     ((try (refine @unH _ ?_; refine zX y9_123 ?_)); (try (refine hK _ _ ?_; clear hK K; (try simp only [nq, ↓reduceIte, Nat.reduceEqDiff]))); refine @unH _ ?_; refine zA y9_123 ?_; (repeat (refine inC ?_; intro hc)); try (refine inK ?_; intro K hK))
     exact ⟨_, by omega, _, i + 1, _, rfl, hlt, rfl, e3, e4, rfl, rfl, by rw [hfr1, show fr1 = fr0 ++ [t] from hsn2]; exact hrow6⟩
    ·have hsn2 : fr1 = fr0 := by
      have h : fr1 = if t ∈ start ∨ t ∈ fr0 then fr0 else fr0 ++ [t] := hsn
      rw [h, if_pos (.inr ((show 0 <= A2 ↔ t ∈ fr0 from hB2).1 (by omega)))]
     clear hsn hB1 hB2
     replace hsn2 : Aqs _ := hsn2
     (refine @unH _ ?_; refine zA y9_123 ?_; (repeat (refine inC ?_; intro hc)); try (refine inK ?_; intro K hK))
     refine Az4 17 [(true, 0), (true, 1), (true, 2), (true, 3), (true, 4), (true, 5), (true, 6), (true, 7), (true, 8), (true, 9), (true, 10), (true, 11), (true, 12), (true, 13), (true, 14), (true, 15), (true, 16)] (by kernel_rfl) (by kernel_rfl) (by simp) (by kernel_rfl) ?_; intro K hK
     (iterate 6 (refine @unH _ ?_; refine z3 y9_123 ?_))
     (apply Axc rfl rfl rfl; (focus ((refine @unH _ ?_; refine zX y9_123 ?_); exact quiet_of (show FnX _ _ _ _ _ _ from hq1))); simp -implicitDefEqProofs (disch := first | omega | (simp only [qd] <;> omega)) only [Aqn, Aqc])
     (iterate 2 (refine @unH _ ?_; refine z3 y9_123 ?_))
     (iterate 5 (refine @unH _ ?_; refine z6 y9_123 ?_))
     (apply Axc rfl (by simp -implicitDefEqProofs (disch := omega) only [Akg, Akm, Ayw, List.getElem?_cons_succ, List.getElem?_cons_zero, Option.bind_some, act_get?, Aqr, Nat.reduceEqDiff, ↓reduceIte, beq_self_eq_true, *]) rfl; (focus ((refine @unH _ ?_; refine zX y9_123 ?_); exact quiet_of (show FnX _ _ _ _ _ _ from hq2))); simp -implicitDefEqProofs (disch := first | omega | (simp only [qd] <;> omega)) only [Aqn, Aqc])
     (refine @unH _ ?_; refine z6 y9_123 ?_)
     (refine @unH _ ?_; refine z3 y9_123 ?_)
     refine Ax2 (hK _ _ ?_); clear hK K hq1 hq2
     (try simp only [nq, ↓reduceIte, Nat.reduceEqDiff])
     (refine @unH _ ?_; refine zA y9_123 ?_; (repeat (refine inC ?_; intro hc)); try (refine inK ?_; intro K hK))
     exact ⟨_, by omega, _, i + 1, _, rfl, hlt, rfl, e3, e4, e5, rfl, by rw [hfr1, show fr1 = fr0 from hsn2]; exact hrow⟩
   ·have hsn2 : fr1 = fr0 := by
     have h : fr1 = if t ∈ start ∨ t ∈ fr0 then fr0 else fr0 ++ [t] := hsn
     rw [h, if_pos (.inl ((show 0 <= A1 ↔ t ∈ start from hB1).1 (by omega)))]
    clear hsn hB1 hB2
    replace hsn2 : Aqs _ := hsn2
    (refine @unH _ ?_; refine zA y9_123 ?_; (repeat (refine inC ?_; intro hc)); try (refine inK ?_; intro K hK))
    refine Az4 17 [(true, 0), (true, 1), (true, 2), (true, 3), (true, 4), (true, 5), (true, 6), (true, 7), (true, 8), (true, 9), (true, 10), (true, 11), (true, 12), (true, 13), (true, 14), (true, 15), (true, 16)] (by kernel_rfl) (by kernel_rfl) (by simp) (by kernel_rfl) ?_; intro K hK
    (iterate 6 (refine @unH _ ?_; refine z3 y9_123 ?_))
    (apply Axc rfl rfl rfl; (focus ((refine @unH _ ?_; refine zX y9_123 ?_); exact quiet_of (show FnX _ _ _ _ _ _ from hq1))); simp -implicitDefEqProofs (disch := first | omega | (simp only [qd] <;> omega)) only [Aqn, Aqc])
    (iterate 2 (refine @unH _ ?_; refine z3 y9_123 ?_))
    (iterate 7 (apply Cwh rfl (by simp -implicitDefEqProofs (disch := omega) only [Akg, Akm, Ayw, List.getElem?_cons_succ, List.getElem?_cons_zero, Option.bind_some, act_get?, Aqr, Nat.reduceEqDiff, ↓reduceIte, *]; rfl); simp -implicitDefEqProofs (disch := first | omega | (simp only [qd] <;> omega)) only [Aqn, Aqc]))
    (refine @unH _ ?_; refine z3 y9_123 ?_)
    refine Ax2 (hK _ _ ?_); clear hK K hq1 hq2
    (try simp only [nq, ↓reduceIte, Nat.reduceEqDiff])
    (refine @unH _ ?_; refine zA y9_123 ?_; (repeat (refine inC ?_; intro hc)); try (refine inK ?_; intro K hK))
    exact ⟨_, by omega, _, i + 1, _, rfl, hlt, rfl, e3, e4, e5, rfl, by rw [hfr1, show fr1 = fr0 from hsn2]; exact hrow⟩
  ·obtain rfl : i = ts.length := by omega
   rw [List.take_length] at hrow hfi
   obtain ⟨fa, fc, rfl⟩ := hrow.len
   rw [Aq8] at e5
   (refine @unH _ ?_; refine zA y9_123 ?_; (repeat (refine inC ?_; intro hc)); try (refine inK ?_; intro K hK))
   have hnw := fun r => new_ge (pl := places) (r := r) hs6 htb
   have hne := fun r h => new_eq (pl := places) (r := r) q6 h hsb htp
   have hnn := fun r h => new_none (pl := places) (r := r) (ts := ts) hs6 (List.eq_nil_of_length_eq_zero h)
   have hcl := fun r => cl_len (pl := places) (r := r) hs6 htb htl
   clear hrow hfl
   generalize (Akl start ts).length = N at *
   replace hnw : Aqs _ := hnw
   replace hne : Aqs _ := hne
   replace hnn : Aqs _ := hnn
   replace hcl : Aqs _ := hcl
   refine Axe (fun w a' H' => ∃ e, ∃ r : Nat, w = 4 - r /\ r <= 4 /\ a' = act 97 e [] /\ e 3 = .pointer (some ⟨vb, 0, none⟩) /\ e 4 = .slice ta ts.length tc /\ e 5 = .slice fa N fc /\ e 7 = .int .i64 (r : Nat) /\ H4.le H') (n := 4) ?_ ?_
   ·exact ⟨_, 0, by omega, by omega, rfl, e3, e4, e5, rfl, Hp.le_refl _⟩
   ·rintro w a' H5 ⟨e, r, rfl, hr, rfl, e3, e4, e5, e7, l45⟩
    have hd5 := hd4.le l45
    have vvb5 := l45 _ _ vvb4
    by_cases hr3 : r <= 3
    ·(refine @unH _ ?_; refine zA y9_123 ?_; (repeat (refine inC ?_; intro hc)); try (refine inK ?_; intro K hK))
     refine (Cwx _ H5 places pieces _ _ _ start xss ts hd5 r (by omega) (by omega)).runs.mono ?_
     rintro _ H6 ⟨lv, rfl, lH6, hlv⟩
     have l46 := Hp.le_trans l45 lH6
     have vvb6 := lH6 _ _ vvb5
     obtain ⟨la, lc, rfl, hlc, _⟩ := hlv
     have h1 := (show ∀ r : Int, _ from hnw) r
     have h2 := (show ∀ r : Int, _ -> _ from hne) r
     have h3 := (show ∀ r : Int, _ -> _ from hnn) r
     have h4 := (show ∀ r : Int, _ from hcl) r
     rw [h4] at hlc ⊢
     have h5 := (Bjx places r ts start hs6 htb (by omega) ts.length (Nat.le_refl _)).f
     clear h4 hnw hne hnn hcl
     generalize (rrun places r ts (rs0 start) ts.length).f = F at *
     (refine @unH _ ?_; refine zX y9_123 ?_)
     refine hK _ _ ?_; clear hK K
     (try simp only [nq, ↓reduceIte, Nat.reduceEqDiff])
     refine Av4 (fun e => e 3 = .pointer (some ⟨vb, 0, none⟩) /\ e 4 = .slice ta ts.length tc /\ e 5 = .slice fa N fc /\ e 7 = .int .i64 (r : Nat) /\ e 8 = .slice la ts.length lc /\ e 9 = .int .i64 F /\ e 10 = .int .i64 0) ⟨e3, e4, e5, e7, rfl, rfl, rfl⟩ ?_
     clear e3 e4 e5 e7
     rename_i eold
     clear eold
     rintro e ⟨e3, e4, e5, e7, e8, e9, e10⟩
     by_cases hpp : pieces <= places
     ·have h6 := h2 hpp
      by_cases hN : N = 0
      ·have h7 : F = 0 := by omega
       clear h1 h2 h3 h6
       (refine @unH _ ?_; refine zA y9_123 ?_; (repeat (refine inC ?_; intro hc)); try (refine inK ?_; intro K hK))
       exact ⟨4 - (r + 1), by omega, _, r + 1, rfl, by omega, rfl, e3, e4, e5, rfl, l46⟩
      ·have hNF : (N : Int) = F := by omega
       clear h1 h2 h3 h6
       (refine @unH _ ?_; refine zA y9_123 ?_; (repeat (refine inC ?_; intro hc)); try (refine inK ?_; intro K hK))
       exact ⟨4 - (r + 1), by omega, _, r + 1, rfl, by omega, rfl, e3, e4, e5, rfl, l46⟩
     ·by_cases hN : N = 0
      ·have h7 : F = 0 := h3 hN
       clear h1 h2 h3
       (refine @unH _ ?_; refine zA y9_123 ?_; (repeat (refine inC ?_; intro hc)); try (refine inK ?_; intro K hK))
       exact ⟨4 - (r + 1), by omega, _, r + 1, rfl, by omega, rfl, e3, e4, e5, rfl, l46⟩
      ·clear h2 h3
       (refine @unH _ ?_; refine zA y9_123 ?_; (repeat (refine inC ?_; intro hc)); try (refine inK ?_; intro K hK))
       exact ⟨4 - (r + 1), by omega, _, r + 1, rfl, by omega, rfl, e3, e4, e5, rfl, l46⟩
    ·obtain rfl : r = 4 := by omega
     (refine @unH _ ?_; refine zA y9_123 ?_; (repeat (refine inC ?_; intro hc)); try (refine inK ?_; intro K hK))
     refine (kept_spec H5).runs.mono ?_
     rintro _ H6 ⟨rfl, lH6⟩
     ((try (refine @unH _ ?_; refine zX y9_123 ?_)); (try (refine hK _ _ ?_; clear hK K; (try simp only [nq, ↓reduceIte, Nat.reduceEqDiff]))); refine @unH _ ?_; refine zA y9_123 ?_; (repeat (refine inC ?_; intro hc)); try (refine inK ?_; intro K hK))
     (refine Ax8 ?_; (try simp only [nq, ↓reduceIte, Nat.reduceEqDiff]); rw [Axw, Ak6 Tryz.results9 (by decide)]; simp only [Aqr, Nat.reduceEqDiff, ↓reduceIte])
end Go.Proofs.YtgniilnljeedlaaGreatDoor
end
section
namespace Go.Proofs.YtgniilnljeedlaaGreatDoor
open Go Go.X Go.ChangeShapes Go.WideShapes Go.RowKit
set_option maxRecDepth 100000 in
theorem law_lifted (os : Os) (started : os.Started) (H : Type) (enc : TypeId × Value -> H) :
  ReturnsInLeavingWide {} Tryz.checked os 9 .any (fun w args => (Rows.vaultNewSpec.pre enc Tryz.prog Tryz.f9 [] false w args /\ laidMetH Tryz.prog [("errors.errorType", Rows.laid_errors_errorType)] w) /\ sizedMet enc Tryz.prog Tryz.f9 (OpenSpec.ofChange Rows.vaultNewSpec) false w args)
   (Rows.vaultNewSpec.post enc Tryz.prog Tryz.f9 false true false false) := by
 refine leaving_of_change_and (C := Tryz.checked) (X := fun w _ => laidMetH Tryz.prog [("errors.errorType", Rows.laid_errors_errorType)] w) (fun _ _ _ hh h => h.of_heap hh) ownK started Tryz.func9
  (ChangeSpec.witness_at (enc := enc) (C := Tryz.checked) (os := os) (X := fun w _ => laidMetH Tryz.prog [("errors.errorType", Rows.laid_errors_errorType)] w) false (laidWorld os) #[.slice none 0 0] 8 rfl (by kernel_rfl) (by kernel_rfl) (by kernel_rfl) (by kernel_rfl) (by kernel_rfl) (laidWorld_met os _)) ?_
 intro W base args ds gs before hval0 hW hL
 have hval : ∀ (j : Nat) t v, Tryz.f9.params[j]? = some t -> args[j]? = some v -> Value.okWide Tryz.prog W .any base t v := hval0
 have hW' := hW
 obtain ⟨p, q, hA0, hV0, rfl, hfz, hnd⟩ := hW
 have hA : DataW.TrodAll enc Tryz.prog W 0 (fun _ => true) true Tryz.f9.params.toList args.toList ds p := hA0
 have hV : DataW.TrodVars enc Tryz.prog W (fun _ => true) [] gs q := hV0
 rw [Tryz.params9] at hA hval
 obtain ⟨v0, d0, rfl, rfl, h0⟩ := trodAll_one hA
 obtain ⟨a0, len, cap, rfl⟩ := okWide_slice Tryz.underlying22 (hval 0 22 v0 rfl rfl)
 have h0k := h0
 obtain ⟨fuel, hf⟩ := h0
 obtain ⟨rfl, rfl⟩ : gs = [] /\ q = [] := by
  cases gs with
  | nil => exact ⟨rfl, hV⟩
  | cons g r => exact absurd hV (by intro h; cases h)
 have e1 : Rows.vaultNewSpec.fn H ([d0] ++ []) = { results := [.lit (.bool true)], args := [d0] } := by simp [Rows.vaultNewSpec]
 have hcells : ∀ i : Nat, i < len -> ∃ sb so c e fr x, a0 = some ⟨sb, so, none⟩ /\ Bq2 W sb = some (false, .cells c e fr) /\ c[so + i]? = some (.int .i64 x) := by
  rcases open_ints Tryz.underlying22 Tryz.underlying3 cellsK hf with ⟨hcs, _⟩ | ⟨a, len', cap', zs, hcs, _, hl, hm, hz, hx, hcell, hwz⟩
  ·simp [Value.cells] at hcs
   intro i hi
   omega
  ·simp [Value.cells] at hcs
   obtain ⟨rfl, rfl, rfl⟩ := hcs
   intro i hi
   simp only [if_true] at hz
   have hc := hcell i (by omega)
   obtain ⟨b, off, spot⟩ := a
   have hspot : spot = none := by simpa [Addr.add] using World.cell?_spot (hcell 0 (by omega))
   subst hspot
   rw [add_plain] at hc
   unfold World.cell? at hc
   split at hc
   ·rename_i c e fr hb
    exact ⟨b, off, c, e, fr, _, rfl, by simp [Bq2, hb], by simpa using hc⟩
   ·cases hc
 have hlt : ∀ x ∈ p, x.block < W.heap.size := fun x hx => by simpa using hW'.lt x (by simpa using hx)
 obtain ⟨N, last, o, w', t', r1, r2, r3, v, hv, ⟨rfl, hB⟩, r4⟩ := (lnew_spec (Bq2 W) a0 len cap hcells).goodW Tryz.func9 (results_tmp Tryz.results9 _) (by kernel_rfl)
 refine ⟨N, last, o, w', t', r1, r2, r3, _, hv, ?_, r4⟩
 have hb := hB.below
 refine ⟨_, _, _, [], p, [], hW', ?_, ?_, ?_, hB.kept _, fun h => by cases h⟩
 ·rw [e1]; exact trodAll_mk1 (shut_bool Tryz.underlying4 true)
 ·rw [e1]
  have t := trodAll_mk1 (DataW.Trod.of_heap (w := { w' with tape := W.tape }) (w' := w') rfl (Below.trod laidOutK (by kernel_rfl) (of_decide_eq_true (by kernel_rfl)) h0k hb hlt))
  exact t
 ·rw [e1]; rfl
end Go.Proofs.YtgniilnljeedlaaGreatDoor
end
section
namespace Go.Proofs.YtgniilnljeedlaaGreatDoor
open Go Go.X Go.ChangeShapes Go.WideShapes Go.RowKit
theorem jEnter : Program.mayEnter Tryz.pinned.checked.prog = true := factEnter
theorem jLift : (Rows.vaultNewRow.lifted == Program.liftsFinal Tryz.pinned.checked.prog) = true := by rw [show Program.liftsFinal Tryz.pinned.checked.prog = Rows.vaultNewRow.lifted from factLift]; exact beq_self_eq_true _
theorem jMake : (Program.make Tryz.pinned.checked.prog == some Rows.vaultNewRow.make) = true := by rw [show Program.make Tryz.pinned.checked.prog = some Rows.vaultNewRow.make from factMake]; exact beq_self_eq_true _
set_option maxRecDepth 100000 in
theorem jf : joinedFacts Tryz.pinned.checked.prog 9 Tryz.f9 Rows.vaultNewSpec Rows.vaultNewRow = true := by
 unfold joinedFacts
 simp only [jEnter, jLift, jMake, Bool.and_true]
 kernel_rfl
set_option maxRecDepth 100000 in
theorem vaultNew_said : Rows.VaultNewSaid :=
 OpenClaim.holds_of_wide_leaving 9 Tryz.f9 rfl rfl rfl rfl rfl rfl rfl ⟨rfl, rfl, rfl, rfl, rfl⟩ rfl rfl rfl rfl rfl (by kernel_rfl) Tryz.func9 jf
  (of_decide_eq_true (by kernel_rfl)) (by unfold Func.isWrapper; rw [if_neg (of_decide_eq_false (by kernel_rfl))]; exact ⟨rfl, rfl⟩)
  (fun os started H enc _ => law_lifted os started H enc)
end Go.Proofs.YtgniilnljeedlaaGreatDoor
end
