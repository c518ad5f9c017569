/- Texts LRegret PVaultRegret SVaultRegret. -/
import Derived.Test.YtgniilnljeedlaaGreatDoorJ23
import Derived.Test.YtgniilnljeedlaaGreatDoorAFactA
import Derived.Test.YtgniilnljeedlaaGreatDoorAFactVB
import Derived.Test.YtgniilnljeedlaaGreatDoorAFactVC
set_option linter.defProp false
set_option linter.unusedSimpArgs false
set_option linter.unusedVariables false
set_option maxRecDepth 100000
set_option maxHeartbeats 2000000
section
namespace Go.Proofs.YtgniilnljeedlaaGreatDoor
open Go Go.X
def y16_139 := And.intro @callF23 (And.intro @callF46 (And.intro (fun H => Aqz (H := H) (P := Tryz.prog) (h := Tryz.zeroValue25)) (And.intro (fun H => Aq0 (H := H) Tryz.sizeOf25) (And.intro (fun H => Aqs (H := H) Tryz.underlying25 rfl Tryz.sizeOf25) (And.intro @callF60 (And.intro (fun H => Aq3 (H := H) Tryz.underlying23) (And.intro (fun H => Aqq (H := H) Tryz.underlying23 Tryz.sizeOf22) (And.intro (fun H => Aqe (H := H) Tryz.underlying22 rfl) (And.intro @Dq2 (And.intro @Dq5 (And.intro @Cqk (And.intro @callF55 (And.intro @Dxc @callF22)))))))))))))
theorem reg_ge {places r : Int} (h1 : 1 <= places) {start t : List Int} (hb : ∀ y ∈ t, 0 <= y /\ y < 6) : 0 <= fetF places r start t - fewF places start t := by
 have := run_ge (r := r) (start := start) t.length (Nat.le_refl _) h1 hb
 unfold fetF fewF
 omega
theorem reg_late {places : Int} (h1 : 1 <= places) {start t : List Int} (hb : ∀ y ∈ t, 0 <= y /\ y < 6) (hs : ∀ y ∈ start, 0 <= y /\ y < 6) (hl : (start.length : Int) <= places) : fetF places 3 start t - fewF places start t = 0 := by
 have := Cyx (start := start) t.length (Nat.le_refl _) h1 hb hs hl
 unfold fetF fewF
 omega
theorem lregret_spec (H : Hp) (sa : Option Addr) (sl sc : Nat) (hs : ∀ i : Nat, i < sl -> ∃ sb so c e fr x, sa = some ⟨sb, so, none⟩ /\ H sb = some (false, .cells c e fr) /\ c[so + i]? = some (.int .i64 x)) :
  FnX Tryz.prog (.wg Tryz.prog) 16 #[.slice sa sl sc] H fun e _ => e = .returned (.bool true) := by
 refine Aqk Tryz.func16 rfl Tryz.ntmps16 (by simp) ?_
 repeat' (first
 | (refine Axk rfl ?_; intro K hK; simp -implicitDefEqProofs (disch := first | omega | (simp only [qd] <;> omega)) only [xq, ↓xp, qc, Nat.reduceAdd, List.range, List.range.loop, fine, Nat.reduceEqDiff, ↓reduceIte, yielded, reduceCtorEq, Nat.reduceLT, Nat.reduceMul, Nat.reduceSub, one, Nat.reduceLeDiff, Aqa, y16_139, aq, ↓ap, qe0, qe1, qe2, *, -hK]; try (refine hK _ _ ?_; clear hK K))
 | (refine Axv rfl ?_; intro K hK; simp -implicitDefEqProofs (disch := first | omega | (simp only [qd] <;> omega)) only [xq, ↓xp, qc, Nat.reduceAdd, List.range, List.range.loop, fine, Nat.reduceEqDiff, ↓reduceIte, yielded, reduceCtorEq, Nat.reduceLT, Nat.reduceMul, Nat.reduceSub, one, Nat.reduceLeDiff, Aqa, y16_139, aq, ↓ap, qe0, qe1, qe2, *, -hK]; try (refine hK _ _ ?_; clear hK K; (try simp only [nq, ↓reduceIte, Nat.reduceEqDiff])))
 | (refine Aqv ?_; (try simp only [nq, ↓reduceIte, Nat.reduceEqDiff]))
 | (refine Axu ?_; (try simp only [nq, ↓reduceIte, Nat.reduceEqDiff]))
 | (refine Aq7 ?_; (try simp only [nq, ↓reduceIte, Nat.reduceEqDiff]))
 | (refine Azc ?_; (try simp only [nq, ↓reduceIte, Nat.reduceEqDiff]))
 | (refine Ax0 (by simp only [Aqn, Aqr, Nat.reduceEqDiff, Nat.reduceLT, ↓reduceIte, *]; rfl) ?_ ?_ <;> (intro hc; first | (exfalso; simp -implicitDefEqProofs (disch := omega) only [*, bq, reduceCtorEq] at hc; done) | (simp only [dq, qe3, qe4, qe5, qe6] at hc) | skip))
 | (refine Axo ?_)
 | (refine Aqp ?_)
 | (refine Aql ?_))
 refine (newTin_spec _ H sa sl sc hs 240 (by omega)).runs.mono ?_
 rintro _ H1 ⟨tb, rfl, l1, hT⟩
 (try simp -implicitDefEqProofs (disch := first | omega | (simp only [qd] <;> omega)) only [xq, ↓xp, qc, Nat.reduceAdd, List.range, List.range.loop, fine, Nat.reduceEqDiff, ↓reduceIte, yielded, reduceCtorEq, Nat.reduceLT, Nat.reduceMul, Nat.reduceSub, one, Nat.reduceLeDiff, Aqa, y16_139, aq, ↓ap, qe0, qe1, qe2, *, -hK]); try (refine hK _ _ ?_; clear hK K; (try simp only [nq, ↓reduceIte, Nat.reduceEqDiff])); repeat' (first
 | (refine Axk rfl ?_; intro K hK; simp -implicitDefEqProofs (disch := first | omega | (simp only [qd] <;> omega)) only [xq, ↓xp, qc, Nat.reduceAdd, List.range, List.range.loop, fine, Nat.reduceEqDiff, ↓reduceIte, yielded, reduceCtorEq, Nat.reduceLT, Nat.reduceMul, Nat.reduceSub, one, Nat.reduceLeDiff, Aqa, y16_139, aq, ↓ap, qe0, qe1, qe2, *, -hK]; try (refine hK _ _ ?_; clear hK K))
 | (refine Axv rfl ?_; intro K hK; simp -implicitDefEqProofs (disch := first | omega | (simp only [qd] <;> omega)) only [xq, ↓xp, qc, Nat.reduceAdd, List.range, List.range.loop, fine, Nat.reduceEqDiff, ↓reduceIte, yielded, reduceCtorEq, Nat.reduceLT, Nat.reduceMul, Nat.reduceSub, one, Nat.reduceLeDiff, Aqa, y16_139, aq, ↓ap, qe0, qe1, qe2, *, -hK]; try (refine hK _ _ ?_; clear hK K; (try simp only [nq, ↓reduceIte, Nat.reduceEqDiff])))
 | (refine Aqv ?_; (try simp only [nq, ↓reduceIte, Nat.reduceEqDiff]))
 | (refine Axu ?_; (try simp only [nq, ↓reduceIte, Nat.reduceEqDiff]))
 | (refine Aq7 ?_; (try simp only [nq, ↓reduceIte, Nat.reduceEqDiff]))
 | (refine Azc ?_; (try simp only [nq, ↓reduceIte, Nat.reduceEqDiff]))
 | (refine Ax0 (by simp only [Aqn, Aqr, Nat.reduceEqDiff, Nat.reduceLT, ↓reduceIte, *]; rfl) ?_ ?_ <;> (intro hc; first | (exfalso; simp -implicitDefEqProofs (disch := omega) only [*, bq, reduceCtorEq] at hc; done) | (simp only [dq, qe3, qe4, qe5, qe6] at hc) | skip))
 | (refine Axo ?_)
 | (refine Aqp ?_)
 | (refine Aql ?_))
 refine (vaultOf_spec _ H1 tb 184 4 2 (by omega) (by omega) (by omega) hT).runs.mono ?_
 rintro _ H2 ⟨places, pieces, sv, start, cv, xss, tv, ts, rfl, hst, hcs, htr, hok, hfew, htok, lex2, hT2⟩
 have hd2 : Awq H2 places pieces sv cv tv start xss ts := ⟨hst, hcs, htr, hok, by omega, htok⟩
 clear hT hs l1 hst hcs htr lex2
 obtain ⟨va, vc, rfl, hvc, _⟩ := id hd2.st
 obtain ⟨ca, cc, rfl, hcc, _⟩ := id hd2.calls
 obtain ⟨ta, tc, rfl, htc, _⟩ := id hd2.truth
 have htl : ts.length <= 4 := by have := htok.1; omega
 have htb := htok.bnd hok
 have hok2 := hok
 obtain ⟨p1, p4, q1, q6, hsp, hsd, hsb, hxs⟩ := hok2
 have hs6 : ∀ t ∈ start, 0 <= t /\ t < 6 := fun t ht => by have := hsb t ht; omega
 ((try (refine @unH _ ?_; refine zX y16_139 ?_)); (try (refine hK _ _ ?_; clear hK K; (try simp only [nq, ↓reduceIte, Nat.reduceEqDiff]))); refine @unH _ ?_; refine zA y16_139 ?_; (repeat (refine inC ?_; intro hc)); try (refine inK ?_; intro K hK))
 (intro vb hvb; generalize hG : Hp.set _ vb _ = H3; have lH3 := Aqg hG hvb; have vvb := Aqf hG; clear hG)
 have hv3 : Ajp H3 places pieces _ _ start xss := ⟨(hd2.le lH3).st, (hd2.le lH3).calls, hok, by omega⟩
 clear hd2 lH3 hvb hT2
 ((try (refine @unH _ ?_; refine zX y16_139 ?_)); (try (refine hK _ _ ?_; clear hK K; (try simp only [nq, ↓reduceIte, Nat.reduceEqDiff]))); refine @unH _ ?_; refine zA y16_139 ?_; (repeat (refine inC ?_; intro hc)); try (refine inK ?_; intro K hK))
 refine (callTruths_spec _ H3 places pieces _ _ start xss hv3 hfew).runs.mono ?_
 rintro _ H4 ⟨w, rfl, l1, hw⟩
 have hv4 := hv3.le l1
 have vvb4 := l1 _ _ vvb
 clear hv3 vvb l1
 have hin := Cjq hok (by omega)
 have hLl := truthsF_len hok hfew
 have hmem : ∀ t ∈ Aqt xss, Az9 xss t := fun t ht => (Bqk xss t).1 ht
 have hfb : ∀ t ∈ Aqt xss, 0 <= fewF places start t /\ fewF places start t <= 8 := fun t ht => fewF_bnd p1 (hin.1 t ht).1
 have hrb : ∀ r : Int, ∀ t ∈ Aqt xss, 0 <= fetF places r start t /\ fetF places r start t <= 8 := fun r t ht => fetF_bnd hs6 (hin.1 t ht).2 (hin.1 t ht).1
 have hmx : ∀ r : Int, maxP (fun ts => fetF places r start ts - fewF places start ts) (Aqt xss) = regF places r start xss := fun r => maxP_is _ (Aqt xss) hin.2 (fun t ht => reg_ge p1 (hin.1 t ht).2)
 have hg3 : regF places 3 start xss = 0 := by
  obtain ⟨_, _, ⟨t, ht, e⟩, _⟩ := Cj2 (fun ts => fetF places 3 start ts - fewF places start ts) (Aqt xss) hin.2
  unfold regF
  rw [<- e]
  exact reg_late p1 (hin.1 t ht).2 hs6 hsp
 have hrg := fun HX (hX : Ajp HX places pieces (.slice va start.length vc) (.slice ca xss.length cc) start xss) (r : Int) h0 h3 => vRegret_spec HX places pieces _ _ start xss hX r h0 h3
 have hru := fun HX (hX : Ajp HX places pieces (.slice va start.length vc) (.slice ca xss.length cc) start xss) => Cjs HX places pieces _ _ start xss hX
 obtain ⟨g, hg⟩ : ∃ g : Int -> Int, g = fun r => regF places r start xss := ⟨_, rfl⟩
 have hgr : ∀ r, regF places r start xss = g r := fun r => by rw [hg]
 rw [<- hg] at hru
 rw [hgr] at hg3
 simp only [hgr] at hrg hmx
 clear hg hgr
 generalize Aqt xss = L at *
 obtain ⟨oa, oc, rfl, hoc, _⟩ := id hw
 have hA4 : TrsA H4 vb places pieces _ _ _ start xss L := ⟨hv4, vvb4, hw⟩
 clear hv4 hw
 replace hmem : Aqy _ := hmem
 replace hmx : Aqy _ := hmx
 replace hg3 : Aqy _ := hg3
 replace hrg : Aqy _ := hrg
 replace hru : Aqy _ := hru
 replace hfb : Aqy _ := hfb
 replace hrb : Aqy _ := hrb
 clear hin
 ((try (refine @unH _ ?_; refine zX y16_139 ?_)); (try (refine hK _ _ ?_; clear hK K; (try simp only [nq, ↓reduceIte, Nat.reduceEqDiff]))); refine @unH _ ?_; refine zA y16_139 ?_; (repeat (refine inC ?_; intro hc)); try (refine inK ?_; intro K hK))
 refine Axb (fun w a' H' => ∃ e, ∃ r : Nat, w = 4 - r /\ r <= 4 /\ a' = act 120 e [] /\ e 3 = .pointer (some ⟨vb, 0, none⟩) /\ e 5 = .slice oa L.length oc /\ e 6 = .int .i64 (Azy g r).1 /\ e 7 = .int .i64 (Azy g r).2 /\ e 8 = .int .i64 (r : Nat) /\ TrsA H' vb places pieces (.slice va start.length vc) (.slice ca xss.length cc) (.slice oa L.length oc) start xss L) (n := 4) ?_ ?_
 ·exact ⟨_, 0, by omega, by omega, rfl, rfl, rfl, rfl, rfl, rfl, hA4⟩
 ·clear hA4 vvb4
  rename_i eold
  clear eold
  rintro w a' H5 ⟨e, r, rfl, hr, rfl, e3, e5, e6, e7, e8, hA⟩
  by_cases hr3 : r <= 3
  ·have hst : Azy g (r + 1) = if (r : Int) < 3 then (if (Azy g r).1 < 0 ∨ g r < (Azy g r).2 then ((r : Int), g r) else Azy g r) else Azy g r := rfl
   have hmr := (show ∀ r : Int, _ from hmx) r
   have hrb1 := (show ∀ r : Int, _ from hrb) r
   have hq3 : (r : Int) = 3 -> g r = 0 := fun h => by rw [h]; exact hg3
   generalize Azy g r = st at *
   obtain ⟨b0, m0⟩ := st
   simp only at e6 e7 hst
   generalize hG : (fun ts => fetF places r start ts - fewF places start ts) = G at hmr
   have hGt : ∀ t, G t = fetF places r start t - fewF places start t := fun t => by rw [<- hG]
   clear hG
   replace hGt : Aqy _ := hGt
   replace hq3 : Aqy _ := hq3
   replace hmr : Aqy _ := hmr
   replace hrb1 : Aqy _ := hrb1
   replace hst : Aqy _ := hst
   have hm0 : maxP G (L.take 0) = 0 := rfl
   replace hm0 : Aqy _ := hm0
   (refine @unH _ ?_; refine zA y16_139 ?_; (repeat (refine inC ?_; intro hc)); try (refine inK ?_; intro K hK))
   refine Axb (fun w a' H' => ∃ e i, w = L.length - i /\ i <= L.length /\ a' = act 120 e [] /\ e 3 = .pointer (some ⟨vb, 0, none⟩) /\ e 5 = .slice oa L.length oc /\ e 6 = .int .i64 b0 /\ e 7 = .int .i64 m0 /\ e 8 = .int .i64 (r : Nat) /\ e 9 = .int .i64 (maxP G (L.take i)) /\ e 10 = .int .i64 (i : Nat) /\ TrsA H' vb places pieces (.slice va start.length vc) (.slice ca xss.length cc) (.slice oa L.length oc) start xss L) (n := L.length) ?_ ?_
   ·exact ⟨_, 0, by omega, by omega, rfl, e3, e5, e6, e7, e8, rfl, rfl, hA⟩
   ·clear hA e3 e5 e6 e7 e8 hm0
    rename_i eold
    clear eold
    rintro w a' H4 ⟨e, i, rfl, hi, rfl, e3, e5, e6, e7, e8, e9, e10, hA⟩
    have vvb := hA.v
    by_cases hlt : i < L.length
    ·have hxi := List.getElem?_eq_getElem hlt
     have htm := (show ∀ t ∈ L, Az9 xss t from hmem) L[i] (List.getElem_mem hlt)
     have hfbi := (show ∀ t ∈ L, _ from hfb) L[i] (List.getElem_mem hlt)
     have hrbi := (show ∀ t ∈ L, _ from hrb1) L[i] (List.getElem_mem hlt)
     generalize L[i] = t at *
     have htl8 : t.length <= 8 := by have := htm.1; omega
     have hsn := maxP_snoc G (L.take i) t
     rw [<- take_snoc hxi, (show ∀ t, _ from hGt) t] at hsn
     obtain ⟨ob, oo, oq, occ, ofr, ow, hoa, hob, hoi, how⟩ := SlR.get hA.o hxi
     subst hoa
     obtain ⟨wa, wc, rfl, hwc, _⟩ := id how
     have hdi := hA.day htm how
     generalize maxP G (L.take i) = Q0 at *
     replace hsn : Aqy _ := hsn
     replace hxi : Aqy _ := hxi
     replace htm : Aqy _ := htm
     (refine @unH _ ?_; refine zA y16_139 ?_; (repeat (refine inC ?_; intro hc)); try (refine inK ?_; intro K hK))
     refine Ajh (fun HX => H4.le HX) [] (.take 0 (.free 1 (.free 2 (.free 3 (.take 4 (.free 5 (.one 6 (.free 7 (.free 8 (.free 9 (.free 10 (.free 11 (.free 12 (.free 13 .nil)))))))))))))) (by kernel_rfl) (by kernel_rfl) (by decide) (by kernel_rfl) ?_; intro K hK
     have hSx := Hp.le_refl H4
     (apply Aq8 rfl rfl rfl ‹_›; (focus (intro HX hHX; simp -implicitDefEqProofs (disch := first | omega | (simp only [qd] <;> omega)) only [xq, ↓xp, qc, Nat.reduceAdd, List.range, List.range.loop, fine, Nat.reduceEqDiff, ↓reduceIte, yielded, reduceCtorEq, Nat.reduceLT, Nat.reduceMul, Nat.reduceSub, one, Nat.reduceLeDiff, Aqa, y16_139, aq, ↓ap, qe0, qe1, qe2, *, -hK, Aqx, hHX _ _ vvb, hHX _ _ hob] <;> (first | exact rfl | exact ⟨rfl, rfl⟩ | exact ⟨rfl, trivial⟩))); simp -implicitDefEqProofs (disch := first | omega | (simp only [qd] <;> omega)) only [Aqm, Aqc])
     (iterate 3 (apply Axn rfl rfl rfl; (focus (intro HX; simp -implicitDefEqProofs (disch := first | omega | (simp only [qd] <;> omega)) only [xq, ↓xp, qc, Nat.reduceAdd, List.range, List.range.loop, fine, Nat.reduceEqDiff, ↓reduceIte, yielded, reduceCtorEq, Nat.reduceLT, Nat.reduceMul, Nat.reduceSub, one, Nat.reduceLeDiff, Aqa, y16_139, aq, ↓ap, qe0, qe1, qe2, *, -hK, Aqx] <;> (first | exact rfl | exact ⟨rfl, rfl⟩ | exact ⟨rfl, trivial⟩))); simp -implicitDefEqProofs (disch := first | omega | (simp only [qd] <;> omega)) only [Aqm, Aqc]))
     (apply Aq8 rfl rfl rfl ‹_›; (focus (intro HX hHX; simp -implicitDefEqProofs (disch := first | omega | (simp only [qd] <;> omega)) only [xq, ↓xp, qc, Nat.reduceAdd, List.range, List.range.loop, fine, Nat.reduceEqDiff, ↓reduceIte, yielded, reduceCtorEq, Nat.reduceLT, Nat.reduceMul, Nat.reduceSub, one, Nat.reduceLeDiff, Aqa, y16_139, aq, ↓ap, qe0, qe1, qe2, *, -hK, Aqx, hHX _ _ vvb, hHX _ _ hob] <;> (first | exact rfl | exact ⟨rfl, rfl⟩ | exact ⟨rfl, trivial⟩))); simp -implicitDefEqProofs (disch := first | omega | (simp only [qd] <;> omega)) only [Aqm, Aqc])
     (apply Axn rfl rfl rfl; (focus (intro HX; simp -implicitDefEqProofs (disch := first | omega | (simp only [qd] <;> omega)) only [xq, ↓xp, qc, Nat.reduceAdd, List.range, List.range.loop, fine, Nat.reduceEqDiff, ↓reduceIte, yielded, reduceCtorEq, Nat.reduceLT, Nat.reduceMul, Nat.reduceSub, one, Nat.reduceLeDiff, Aqa, y16_139, aq, ↓ap, qe0, qe1, qe2, *, -hK, Aqx] <;> (first | exact rfl | exact ⟨rfl, rfl⟩ | exact ⟨rfl, trivial⟩))); simp -implicitDefEqProofs (disch := first | omega | (simp only [qd] <;> omega)) only [Aqm, Aqc])
     refine Axa ?_
     (refine @unH _ ?_; refine zX y16_139 ?_)
     refine (Cvt _ H4 places pieces _ _ _ start xss t hdi r (by omega) (by omega)).runs.mono ?_
     rintro _ H5 ⟨bv, rfl, l1, hbl⟩
     have hA5 := hA.le l1
     have vvb5 := hA5.v
     have hob5 := l1 _ _ hob
     have hdi5 := hdi.le l1
     clear hA hbl vvb hdi hob
     (refine @unH _ ?_; refine zX y16_139 ?_)
     refine ⟨.inr (by intros; first | exact l1 | trivial), ?_⟩
     (iterate 7 (apply Axn rfl rfl rfl; (focus (intro HX; simp -implicitDefEqProofs (disch := first | omega | (simp only [qd] <;> omega)) only [xq, ↓xp, qc, Nat.reduceAdd, List.range, List.range.loop, fine, Nat.reduceEqDiff, ↓reduceIte, yielded, reduceCtorEq, Nat.reduceLT, Nat.reduceMul, Nat.reduceSub, one, Nat.reduceLeDiff, Aqa, y16_139, aq, ↓ap, qe0, qe1, qe2, *, -hK, Aqx] <;> (first | exact rfl | exact ⟨rfl, rfl⟩ | exact ⟨rfl, trivial⟩))); simp -implicitDefEqProofs (disch := first | omega | (simp only [qd] <;> omega)) only [Aqm, Aqc]))
     have hF : (((rrun places r t (rs0 start) t.length).f : Nat) : Int) = fetF places r start t := rfl
     rw [hF]
     clear hF hSx l1
     generalize fetF places r start t = m1 at *
     refine Ajf (hK _ _ ?_); clear hK K
     (try simp only [nq, ↓reduceIte, Nat.reduceEqDiff])
     (refine @unH _ ?_; refine zA y16_139 ?_; (repeat (refine inC ?_; intro hc)); try (refine inK ?_; intro K hK))
     refine Ajh (fun HX => H5.le HX) [] (.take 0 (.free 1 (.free 2 (.free 3 (.take 4 (.one 5 (.free 6 (.free 7 (.free 8 (.free 9 (.free 10 (.free 11 (.free 12 .nil))))))))))))) (by kernel_rfl) (by kernel_rfl) (by decide) (by kernel_rfl) ?_; intro K hK
     have hSx := Hp.le_refl H5
     (apply Aq8 rfl rfl rfl ‹_›; (focus (intro HX hHX; simp -implicitDefEqProofs (disch := first | omega | (simp only [qd] <;> omega)) only [xq, ↓xp, qc, Nat.reduceAdd, List.range, List.range.loop, fine, Nat.reduceEqDiff, ↓reduceIte, yielded, reduceCtorEq, Nat.reduceLT, Nat.reduceMul, Nat.reduceSub, one, Nat.reduceLeDiff, Aqa, y16_139, aq, ↓ap, qe0, qe1, qe2, *, -hK, Aqx, hHX _ _ vvb5, hHX _ _ hob5] <;> (first | exact rfl | exact ⟨rfl, rfl⟩ | exact ⟨rfl, trivial⟩))); simp -implicitDefEqProofs (disch := first | omega | (simp only [qd] <;> omega)) only [Aqm, Aqc])
     (iterate 3 (apply Axn rfl rfl rfl; (focus (intro HX; simp -implicitDefEqProofs (disch := first | omega | (simp only [qd] <;> omega)) only [xq, ↓xp, qc, Nat.reduceAdd, List.range, List.range.loop, fine, Nat.reduceEqDiff, ↓reduceIte, yielded, reduceCtorEq, Nat.reduceLT, Nat.reduceMul, Nat.reduceSub, one, Nat.reduceLeDiff, Aqa, y16_139, aq, ↓ap, qe0, qe1, qe2, *, -hK, Aqx] <;> (first | exact rfl | exact ⟨rfl, rfl⟩ | exact ⟨rfl, trivial⟩))); simp -implicitDefEqProofs (disch := first | omega | (simp only [qd] <;> omega)) only [Aqm, Aqc]))
     (apply Aq8 rfl rfl rfl ‹_›; (focus (intro HX hHX; simp -implicitDefEqProofs (disch := first | omega | (simp only [qd] <;> omega)) only [xq, ↓xp, qc, Nat.reduceAdd, List.range, List.range.loop, fine, Nat.reduceEqDiff, ↓reduceIte, yielded, reduceCtorEq, Nat.reduceLT, Nat.reduceMul, Nat.reduceSub, one, Nat.reduceLeDiff, Aqa, y16_139, aq, ↓ap, qe0, qe1, qe2, *, -hK, Aqx, hHX _ _ vvb5, hHX _ _ hob5] <;> (first | exact rfl | exact ⟨rfl, rfl⟩ | exact ⟨rfl, trivial⟩))); simp -implicitDefEqProofs (disch := first | omega | (simp only [qd] <;> omega)) only [Aqm, Aqc])
     refine Axa ?_
     (refine @unH _ ?_; refine zX y16_139 ?_)
     refine (Cj3 _ H5 places pieces _ _ _ start xss t hdi5).runs.mono ?_
     rintro _ H6 ⟨cv, rfl, hbl, l1⟩
     have hA6 := hA5.le l1
     clear hA5 hbl vvb5 hdi5 hob5
     (refine @unH _ ?_; refine zX y16_139 ?_)
     refine ⟨.inr (by intros; first | exact l1 | trivial), ?_⟩
     (iterate 7 (apply Axn rfl rfl rfl; (focus (intro HX; simp -implicitDefEqProofs (disch := first | omega | (simp only [qd] <;> omega)) only [xq, ↓xp, qc, Nat.reduceAdd, List.range, List.range.loop, fine, Nat.reduceEqDiff, ↓reduceIte, yielded, reduceCtorEq, Nat.reduceLT, Nat.reduceMul, Nat.reduceSub, one, Nat.reduceLeDiff, Aqa, y16_139, aq, ↓ap, qe0, qe1, qe2, *, -hK, Aqx] <;> (first | exact rfl | exact ⟨rfl, rfl⟩ | exact ⟨rfl, trivial⟩))); simp -implicitDefEqProofs (disch := first | omega | (simp only [qd] <;> omega)) only [Aqm, Aqc]))
     have hF : ((optF t.length places t (oOf start) : Nat) : Int) = fewF places start t := rfl
     rw [hF]
     clear hF hSx l1
     generalize fewF places start t = m2 at *
     refine Ajf (hK _ _ ?_); clear hK K
     (try simp only [nq, ↓reduceIte, Nat.reduceEqDiff])
     (refine @unH _ ?_; refine zA y16_139 ?_; (repeat (refine inC ?_; intro hc)); try (refine inK ?_; intro K hK))
     refine ⟨L.length - (i + 1), by omega, _, i + 1, rfl, hlt, rfl, e3, e5, e6, e7, e8, ?_, rfl, hA6⟩
     rw [show maxP G (L.take (i + 1)) = _ from hsn]
     show Value.int .i64 _ = Value.int .i64 _
     congr 1
     omega
    ·obtain rfl : i = L.length := by omega
     rw [List.take_length, show maxP G L = _ from hmr] at e9
     clear hfb hrb1 hrb hmx hmr hGt
     (refine @unH _ ?_; refine zA y16_139 ?_; (repeat (refine inC ?_; intro hc)); try (refine inK ?_; intro K hK))
     refine ((show ∀ HX, _ -> _ from hrg) H4 hA.d r (by omega) (by omega)).runs.mono ?_
     rintro _ H5 ⟨rfl, l1⟩
     have hA5 := hA.le l1
     clear hA vvb l1 hrg
     by_cases hr2 : (r : Int) < 3
     ·have hst1 : Azy g (r + 1) = (if b0 < 0 ∨ g r < m0 then ((r : Int), g r) else (b0, m0)) := by have h := (show _ = _ from hst); rwa [if_pos hr2] at h
      clear hst hq3
      generalize g (r : Int) = gr at *
      replace hst1 : Aqy _ := hst1
      by_cases hb : b0 < 0
      ·((try (refine @unH _ ?_; refine zX y16_139 ?_)); (try (refine hK _ _ ?_; clear hK K; (try simp only [nq, ↓reduceIte, Nat.reduceEqDiff]))); refine @unH _ ?_; refine zA y16_139 ?_; (repeat (refine inC ?_; intro hc)); try (refine inK ?_; intro K hK))
       exact ⟨4 - (r + 1), by omega, _, r + 1, rfl, by omega, rfl, e3, e5, by rw [show Azy g (r + 1) = _ from hst1, if_pos (.inl hb)]; rfl, by rw [show Azy g (r + 1) = _ from hst1, if_pos (.inl hb)]; rfl, rfl, hA5⟩
      ·by_cases hm : gr < m0
       ·((try (refine @unH _ ?_; refine zX y16_139 ?_)); (try (refine hK _ _ ?_; clear hK K; (try simp only [nq, ↓reduceIte, Nat.reduceEqDiff]))); refine @unH _ ?_; refine zA y16_139 ?_; (repeat (refine inC ?_; intro hc)); try (refine inK ?_; intro K hK))
        exact ⟨4 - (r + 1), by omega, _, r + 1, rfl, by omega, rfl, e3, e5, by rw [show Azy g (r + 1) = _ from hst1, if_pos (.inr hm)]; rfl, by rw [show Azy g (r + 1) = _ from hst1, if_pos (.inr hm)]; rfl, rfl, hA5⟩
       ·have hno : ¬ (b0 < 0 ∨ gr < m0) := by omega
        replace hno : Aqy _ := hno
        ((try (refine @unH _ ?_; refine zX y16_139 ?_)); (try (refine hK _ _ ?_; clear hK K; (try simp only [nq, ↓reduceIte, Nat.reduceEqDiff]))); refine @unH _ ?_; refine zA y16_139 ?_; (repeat (refine inC ?_; intro hc)); try (refine inK ?_; intro K hK))
        exact ⟨4 - (r + 1), by omega, _, r + 1, rfl, by omega, rfl, e3, e5, by rw [show Azy g (r + 1) = _ from hst1, if_neg (show ¬ _ from hno)]; exact e6, by rw [show Azy g (r + 1) = _ from hst1, if_neg (show ¬ _ from hno)]; exact e7, rfl, hA5⟩
     ·have hst1 : Azy g (r + 1) = (b0, m0) := by have h := (show _ = _ from hst); rwa [if_neg hr2] at h
      obtain rfl : r = 3 := by omega
      have hz : g ((3 : Nat) : Int) = 0 := (show (((3 : Nat) : Int) = 3 -> _) from hq3) rfl
      rw [hz] at e9
      rw [hz]
      clear hst hq3 hz
      replace hst1 : Aqy _ := hst1
      ((try (refine @unH _ ?_; refine zX y16_139 ?_)); (try (refine hK _ _ ?_; clear hK K; (try simp only [nq, ↓reduceIte, Nat.reduceEqDiff]))); refine @unH _ ?_; refine zA y16_139 ?_; (repeat (refine inC ?_; intro hc)); try (refine inK ?_; intro K hK))
      exact ⟨4 - (3 + 1), by omega, _, 3 + 1, rfl, by omega, rfl, e3, e5, by rw [show Azy g (3 + 1) = _ from hst1]; exact e6, by rw [show Azy g (3 + 1) = _ from hst1]; exact e7, rfl, hA5⟩
  ·obtain rfl : r = 4 := by omega
   have vvb := hA.v
   (refine @unH _ ?_; refine zA y16_139 ?_; (repeat (refine inC ?_; intro hc)); try (refine inK ?_; intro K hK))
   refine ((show ∀ HX, _ -> _ from hru) H5 hA.d).runs.mono ?_
   rintro _ H6 ⟨rfl, l1⟩
   clear hru hrg hmx hfb hrb hg3
   generalize (Azy g 4).1 = R1 at *
   ((try (refine @unH _ ?_; refine zX y16_139 ?_)); (try (refine hK _ _ ?_; clear hK K; (try simp only [nq, ↓reduceIte, Nat.reduceEqDiff]))); refine @unH _ ?_; refine zA y16_139 ?_; (repeat (refine inC ?_; intro hc)); try (refine inK ?_; intro K hK))
   refine (kept_spec H6).runs.mono ?_
   rintro _ H7 ⟨rfl, lH7⟩
   ((try (refine @unH _ ?_; refine zX y16_139 ?_)); (try (refine hK _ _ ?_; clear hK K; (try simp only [nq, ↓reduceIte, Nat.reduceEqDiff]))); refine @unH _ ?_; refine zA y16_139 ?_; (repeat (refine inC ?_; intro hc)); try (refine inK ?_; intro K hK))
   (refine Ax2 ?_; (try simp only [nq, ↓reduceIte, Nat.reduceEqDiff]); rw [Axm, Aky Tryz.results16 (by decide)]; simp only [Aqr, Nat.reduceEqDiff, ↓reduceIte])
end Go.Proofs.YtgniilnljeedlaaGreatDoor
end
section
namespace Go.Proofs.YtgniilnljeedlaaGreatDoor
open Go Go.X Go.ChangeShapes Go.WideShapes Go.RowKit
set_option maxRecDepth 100000 in
theorem law_lifted (os : Os) (started : os.Started) (H : Type) (enc : TypeId × Value -> H) :
  ReturnsInLeavingWide {} Tryz.checked os 16 .any (fun w args => (Rows.vaultRegretSpec.pre enc Tryz.prog Tryz.f16 [] false w args /\ laidMetH Tryz.prog [("errors.errorType", Rows.laid_errors_errorType)] w) /\ sizedMet enc Tryz.prog Tryz.f16 (OpenSpec.ofChange Rows.vaultRegretSpec) false w args)
   (Rows.vaultRegretSpec.post enc Tryz.prog Tryz.f16 false true false false) := by
 refine leaving_of_change_and (C := Tryz.checked) (X := fun w _ => laidMetH Tryz.prog [("errors.errorType", Rows.laid_errors_errorType)] w) (fun _ _ _ hh h => h.of_heap hh) ownK started Tryz.func16
  (ChangeSpec.witness_at (enc := enc) (C := Tryz.checked) (os := os) (X := fun w _ => laidMetH Tryz.prog [("errors.errorType", Rows.laid_errors_errorType)] w) false (laidWorld os) #[.slice none 0 0] 8 rfl (by kernel_rfl) (by kernel_rfl) (by kernel_rfl) (by kernel_rfl) (by kernel_rfl) (laidWorld_met os _)) ?_
 intro W base args ds gs before hval0 hW hL
 have hval : ∀ (j : Nat) t v, Tryz.f16.params[j]? = some t -> args[j]? = some v -> Value.okWide Tryz.prog W .any base t v := hval0
 have hW' := hW
 obtain ⟨p, q, hA0, hV0, rfl, hfz, hnd⟩ := hW
 have hA : DataW.TrodAll enc Tryz.prog W 0 (fun _ => true) true Tryz.f16.params.toList args.toList ds p := hA0
 have hV : DataW.TrodVars enc Tryz.prog W (fun _ => true) [] gs q := hV0
 rw [Tryz.params16] at hA hval
 obtain ⟨v0, d0, rfl, rfl, h0⟩ := trodAll_one hA
 obtain ⟨a0, len, cap, rfl⟩ := okWide_slice Tryz.underlying22 (hval 0 22 v0 rfl rfl)
 have h0k := h0
 obtain ⟨fuel, hf⟩ := h0
 obtain ⟨rfl, rfl⟩ : gs = [] /\ q = [] := by
  cases gs with
  | nil => exact ⟨rfl, hV⟩
  | cons g r => exact absurd hV (by intro h; cases h)
 have e1 : Rows.vaultRegretSpec.fn H ([d0] ++ []) = { results := [.lit (.bool true)], args := [d0] } := by simp [Rows.vaultRegretSpec]
 have hcells : ∀ i : Nat, i < len -> ∃ sb so c e fr x, a0 = some ⟨sb, so, none⟩ /\ Bqw W sb = some (false, .cells c e fr) /\ c[so + i]? = some (.int .i64 x) := by
  rcases open_ints Tryz.underlying22 Tryz.underlying3 cellsK hf with ⟨hcs, _⟩ | ⟨a, len', cap', zs, hcs, _, hl, hm, hz, hx, hcell, hwz⟩
  ·simp [Value.cells] at hcs
   intro i hi
   omega
  ·simp [Value.cells] at hcs
   obtain ⟨rfl, rfl, rfl⟩ := hcs
   intro i hi
   simp only [if_true] at hz
   have hc := hcell i (by omega)
   obtain ⟨b, off, spot⟩ := a
   have hspot : spot = none := by simpa [Addr.add] using World.cell?_spot (hcell 0 (by omega))
   subst hspot
   rw [add_plain] at hc
   unfold World.cell? at hc
   split at hc
   ·rename_i c e fr hb
    exact ⟨b, off, c, e, fr, _, rfl, by simp [Bqw, hb], by simpa using hc⟩
   ·cases hc
 have hlt : ∀ x ∈ p, x.block < W.heap.size := fun x hx => by simpa using hW'.lt x (by simpa using hx)
 obtain ⟨N, last, o, w', t', r1, r2, r3, v, hv, ⟨rfl, hB⟩, r4⟩ := (lregret_spec (Bqw W) a0 len cap hcells).goodW Tryz.func16 (results_tmp Tryz.results16 _) (by kernel_rfl)
 refine ⟨N, last, o, w', t', r1, r2, r3, _, hv, ?_, r4⟩
 have hb := hB.below
 refine ⟨_, _, _, [], p, [], hW', ?_, ?_, ?_, hB.kept _, fun h => by cases h⟩
 ·rw [e1]; exact trodAll_mk1 (shut_bool Tryz.underlying4 true)
 ·rw [e1]
  have t := trodAll_mk1 (DataW.Trod.of_heap (w := { w' with tape := W.tape }) (w' := w') rfl (Below.trod laidOutK (by kernel_rfl) (of_decide_eq_true (by kernel_rfl)) h0k hb hlt))
  exact t
 ·rw [e1]; rfl
end Go.Proofs.YtgniilnljeedlaaGreatDoor
end
section
namespace Go.Proofs.YtgniilnljeedlaaGreatDoor
open Go Go.X Go.ChangeShapes Go.WideShapes Go.RowKit
theorem jEnter : Program.mayEnter Tryz.pinned.checked.prog = true := factEnter
theorem jLift : (Rows.vaultRegretRow.lifted == Program.liftsFinal Tryz.pinned.checked.prog) = true := by rw [show Program.liftsFinal Tryz.pinned.checked.prog = Rows.vaultRegretRow.lifted from factLift]; exact beq_self_eq_true _
theorem jMake : (Program.make Tryz.pinned.checked.prog == some Rows.vaultRegretRow.make) = true := by rw [show Program.make Tryz.pinned.checked.prog = some Rows.vaultRegretRow.make from factMake]; exact beq_self_eq_true _
set_option maxRecDepth 100000 in
theorem jf : joinedFacts Tryz.pinned.checked.prog 16 Tryz.f16 Rows.vaultRegretSpec Rows.vaultRegretRow = true := by
 unfold joinedFacts
 simp only [jEnter, jLift, jMake, Bool.and_true]
 kernel_rfl
set_option maxRecDepth 100000 in
theorem vaultRegret_said : Rows.VaultRegretSaid :=
 OpenClaim.holds_of_wide_leaving 16 Tryz.f16 rfl rfl rfl rfl rfl rfl rfl ⟨rfl, rfl, rfl, rfl, rfl⟩ rfl rfl rfl rfl rfl (by kernel_rfl) Tryz.func16 jf
  (of_decide_eq_true (by kernel_rfl)) (by unfold Func.isWrapper; rw [if_neg (of_decide_eq_false (by kernel_rfl))]; exact ⟨rfl, rfl⟩)
  (fun os started H enc _ => law_lifted os started H enc)
end Go.Proofs.YtgniilnljeedlaaGreatDoor
end
