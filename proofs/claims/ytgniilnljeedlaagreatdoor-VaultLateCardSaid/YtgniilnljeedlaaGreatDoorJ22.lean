/- Texts VFew VRule VPhase VPhases VPlaces AskA. -/
import Derived.Test.YtgniilnljeedlaaGreatDoorJ21
set_option linter.defProp false
set_option linter.unusedSimpArgs false
set_option linter.unusedVariables false
set_option maxRecDepth 100000
set_option maxHeartbeats 2000000
section
namespace Go.Proofs.YtgniilnljeedlaaGreatDoor
open Go Go.X
def Akp := And.intro (fun H => Aq1 (H := H) (P := Tryz.prog) (h := Tryz.zeroValue61)) (And.intro (fun H => Aqx (H := H) Tryz.underlying25 rfl Tryz.sizeOf25) (And.intro @Bve (And.intro @Ckv (And.intro (fun H => Aq4 (H := H) Tryz.sizeOf61) (And.intro @Ck6 (And.intro @Cqm (And.intro (fun H => Aq1 (H := H) (P := Tryz.prog) (h := Tryz.zeroValue120)) (And.intro (fun H => Aq4 (H := H) Tryz.sizeOf120) (And.intro (fun H => Aqh (H := H) Tryz.underlying120 (i := 0) rfl (off := 0) rfl Tryz.sizeOf3) (And.intro (fun H => Aqd (H := H) Tryz.underlying3 rfl) (And.intro (fun H => Aqh (H := H) Tryz.underlying120 (i := 1) rfl (off := 1) rfl Tryz.sizeOf3) @Bze)))))))))))
def Bxp := And.intro (fun H => Aqx (H := H) Tryz.underlying25 rfl Tryz.sizeOf25) (And.intro @Bz7 (And.intro @Bz8 (And.intro @Cqm (fun H => Cvp (H := H) Tryz.underlying120 (i := 1) rfl (off := 1) rfl Tryz.underlying3 rfl))))
theorem Byz (H : Hp) (places pieces : Int) (sv cv : Value) (start : List Int) (xss : List (List Int)) (hv : Aky H places pieces sv cv start xss) :
  FnX Tryz.prog (.wg Tryz.prog) 52 #[.agg #[.int .i64 places, .int .i64 pieces, sv, cv]] H fun e H' => e = .returned (.tuple #[.agg #[.int .i64 (bdT (fewF places start) (Aq0 xss)).lo, .int .i64 (bdT (fewF places start) (Aq0 xss)).hi], .int .i64 0]) /\ H.le H' := by
 obtain ⟨sa, sn, sc, rfl⟩ := hv.st.isSlice
 obtain ⟨ca, cc, rfl, hcc, _⟩ := id hv.calls
 refine Aqk Tryz.func52 rfl Tryz.ntmps52 (by simp) ?_
 (refine @unH _ ?_; refine zA Akp ?_; (repeat (refine inC ?_; intro hc)); try (refine inK ?_; intro K hK))
 intro vb hvb ob hob
 replace hob : (Hp.set H vb (.cells #[.int .i64 places, .int .i64 pieces, .slice sa sn sc, .slice ca xss.length cc] 25 (0, 0))) ob = none := hob
 generalize hG : Hp.set H vb _ = H1 at hob ⊢
 have lH1 := Aqg hG hvb
 have vvb := Aqf hG
 clear hG
 generalize hG : Hp.set H1 ob _ = H2
 have lH2 := Aqg hG hob
 have vob := Aqf hG
 clear hG
 have l02 := Hp.le_trans lH1 lH2
 have vvb2 := lH2 _ _ vvb
 have h0ob : H ob = none := Hp.le_none lH1 hob
 have hv2 := hv.le l02
 clear vvb hvb hob lH1 lH2
 ((try (refine @unH _ ?_; refine zX Akp ?_)); (try (refine hK _ _ ?_; clear hK K; (try simp only [nq, ↓reduceIte, Nat.reduceEqDiff]))); refine @unH _ ?_; refine zA Akp ?_; (repeat (refine inC ?_; intro hc)); try (refine inK ?_; intro K hK))
 refine (Ayl _ H2 places pieces _ _ start xss hv2.st hv2.calls hv2.ok hv2.few).runs.mono ?_
 rintro _ H3 ⟨rfl, lH3⟩
 have hv3 := hv2.le lH3
 have vvb3 := lH3 _ _ vvb2
 have vob3 := lH3 _ _ vob
 have l03 := Hp.le_trans l02 lH3
 clear vvb2 vob lH3 hv2 l02
 ((try (refine @unH _ ?_; refine zX Akp ?_)); (try (refine hK _ _ ?_; clear hK K; (try simp only [nq, ↓reduceIte, Nat.reduceEqDiff]))); refine @unH _ ?_; refine zA Akp ?_; (repeat (refine inC ?_; intro hc)); try (refine inK ?_; intro K hK))
 have hov := fun HX (hX : H3.le HX) => Azq (Bxg HX places pieces _ _ start xss _ _ (hv3.le hX).st (hv3.le hX).calls hv.ok hv.few (Awa HX places start hv.stA))
 have hfw := fun HX => Azq (Ayh (.wg Tryz.prog) HX)
 replace hov : Aqs _ := hov
 replace hfw : Aqs _ := hfw
 generalize bdT (fewF places start) (Aq0 xss) = B at *
 obtain ⟨blo, bhi, bsm⟩ := B
 simp only [bdV] at hov
 refine Ajo (fun HX => H3.le HX) [4] (.take 0 (.take 1 (.take 2 (.one 3 (.one 4 .nil))))) (by kernel_rfl) (by kernel_rfl) (by decide) (by kernel_rfl) ?_; intro K hK
 have hle0 : H3.le H3 := Hp.le_refl _
 (apply Axd rfl rfl rfl ‹_›; (focus (intro HX hHX; simp -implicitDefEqProofs (disch := first | omega | (simp only [qd] <;> omega)) only [xq, ↓xp, qc, Nat.reduceAdd, List.range, List.range.loop, fine, Nat.reduceEqDiff, ↓reduceIte, yielded, reduceCtorEq, Nat.reduceLT, Nat.reduceMul, Nat.reduceSub, one, Nat.reduceLeDiff, Aqa, Akp, aq, ↓ap, qe0, qe1, qe2, *, -hK, Aqz, hHX _ _ vvb3] <;> (first | exact rfl | exact ⟨rfl, rfl⟩ | exact ⟨rfl, trivial⟩))); simp -implicitDefEqProofs (disch := first | omega | (simp only [qd] <;> omega)) only [Aqn, Aqc])
 (apply Axd rfl rfl rfl ‹_›; (focus (intro HX hHX; simp -implicitDefEqProofs (disch := first | omega | (simp only [qd] <;> omega)) only [xq, ↓xp, qc, Nat.reduceAdd, List.range, List.range.loop, fine, Nat.reduceEqDiff, ↓reduceIte, yielded, reduceCtorEq, Nat.reduceLT, Nat.reduceMul, Nat.reduceSub, one, Nat.reduceLeDiff, Aqa, Akp, aq, ↓ap, qe0, qe1, qe2, *, -hK, Azm]; exact hfw HX)); simp -implicitDefEqProofs (disch := first | omega | (simp only [qd] <;> omega)) only [Aqn, Aqc])
 (apply Axd rfl rfl rfl ‹_›; (focus (intro HX hHX; simp -implicitDefEqProofs (disch := first | omega | (simp only [qd] <;> omega)) only [xq, ↓xp, qc, Nat.reduceAdd, List.range, List.range.loop, fine, Nat.reduceEqDiff, ↓reduceIte, yielded, reduceCtorEq, Nat.reduceLT, Nat.reduceMul, Nat.reduceSub, one, Nat.reduceLeDiff, Aqa, Akp, aq, ↓ap, qe0, qe1, qe2, *, -hK, Azm]; exact hov HX hHX)); simp -implicitDefEqProofs (disch := first | omega | (simp only [qd] <;> omega)) only [Aqn, Aqc])
 refine Aq6 ?_
 (refine @unH _ ?_; refine zX Akp ?_)
 intro bb hbb
 have nbo : ob ≠ bb := Ax1 vob3 hbb
 refine ⟨.inr fun _ => Hp.le_set hbb, ?_⟩
 have vbb : (H3.set bb (.cells #[.int .i64 0, .int .i64 0, .bool false] 120 (0, 0))) bb = _ := Aqw
 refine Aq6 ?_
 (refine @unH _ ?_; refine zX Akp ?_)
 refine ⟨.inl (by decide), ?_⟩
 clear vbb hle0
 refine Azy (hK _ _ ?_)
 clear hK K
 (try simp only [nq, ↓reduceIte, Nat.reduceEqDiff])
 have l34 := Hp.le_set (o := .cells #[.int .i64 blo, .int .i64 bhi, .bool bsm] 120 (0, 0)) hbb
 have vbb4 : (H3.set bb (.cells #[.int .i64 blo, .int .i64 bhi, .bool bsm] 120 (0, 0))) bb = _ := Aqw
 generalize Hp.set H3 bb _ = H4 at l34 vbb4 ⊢
 have vob4 := l34 _ _ vob3
 have l04 := Hp.le_trans l03 l34
 clear l34 vob3 vvb3 hv3 hbb
 (refine @unH _ ?_; refine zA Akp ?_; (repeat (refine inC ?_; intro hc)); try (refine inK ?_; intro K hK))
 (refine Ax8 ?_; (try simp only [nq, ↓reduceIte, Nat.reduceEqDiff]); rw [Axw, results_cell_tmp Tryz.results52 (by decide) (by decide) (b := ob) (o := 0) rfl Tryz.underlying61 rfl Tryz.sizeOf61]; simp -implicitDefEqProofs (disch := first | omega | (simp only [qd] <;> omega)) only [xq, ↓xp, qc, Nat.reduceAdd, List.range, List.range.loop, fine, Nat.reduceEqDiff, ↓reduceIte, yielded, reduceCtorEq, Nat.reduceLT, Nat.reduceMul, Nat.reduceSub, one, Nat.reduceLeDiff, Aqa, Akp, Ajm])
 exact fun b x hx => by
  rw [Aqp (fun h => by rw [h, h0ob] at hx; cases hx)]
  exact l04 _ _ hx
def regF (places r : Int) (start : List Int) (xss : List (List Int)) : Int := (bdT (fun ts => fetF places r start ts - fewF places start ts) (Aq0 xss)).hi
theorem Cxa (H : Hp) (places pieces : Int) (sv cv : Value) (start : List Int) (xss : List (List Int)) (hv : Aky H places pieces sv cv start xss) (r : Int) (hr0 : 0 <= r) (hr3 : r <= 3) :
  FnX Tryz.prog (.wg Tryz.prog) 100 #[.agg #[.int .i64 places, .int .i64 pieces, sv, cv], Aju r] H fun e H' => e = .returned (.int .i64 (regF places r start xss)) /\ H.le H' := by
 obtain ⟨sa, sn, sc, rfl⟩ := hv.st.isSlice
 obtain ⟨ca, cc, rfl, hcc, _⟩ := id hv.calls
 have hcl : (Aju r).cells = #[Aju r] := rfl
 refine Aqk Tryz.func100 rfl Tryz.ntmps100 (by simp) ?_
 (refine @unH _ ?_; refine zA Bxp ?_; (repeat (refine inC ?_; intro hc)); try (refine inK ?_; intro K hK))
 intro vb hvb rb hrb
 replace hrb : (Hp.set H vb (.cells #[.int .i64 places, .int .i64 pieces, .slice sa sn sc, .slice ca xss.length cc] 25 (0, 0))) rb = none := hrb
 generalize hG : Hp.set H vb _ = H1 at hrb ⊢
 have lH1 := Aqg hG hvb
 have vvb := Aqf hG
 clear hG
 generalize hG : Hp.set H1 rb _ = H2
 have lH2 := Aqg hG hrb
 have vrb := Aqf hG
 clear hG
 have l02 := Hp.le_trans lH1 lH2
 have vvb2 := lH2 _ _ vvb
 have hv2 := hv.le l02
 clear vvb hvb hrb lH1 lH2
 ((try (refine @unH _ ?_; refine zX Bxp ?_)); (try (refine hK _ _ ?_; clear hK K; (try simp only [nq, ↓reduceIte, Nat.reduceEqDiff]))); refine @unH _ ?_; refine zA Bxp ?_; (repeat (refine inC ?_; intro hc)); try (refine inK ?_; intro K hK))
 refine (Bxg H2 places pieces _ _ start xss _ _ hv2.st hv2.calls hv.ok hv.few (Bv7 H2 places start hv.stA r hr0 hr3 rb _ vrb)).runs.mono ?_
 rintro _ H3 ⟨rfl, lH3⟩
 have hres : Aqs (regF places r start xss = (bdT (fun ts => fetF places r start ts - fewF places start ts) (Aq0 xss)).hi) := rfl
 generalize bdT (fun ts => fetF places r start ts - fewF places start ts) (Aq0 xss) = B at *
 obtain ⟨blo, bhi, bsm⟩ := B
 simp only [bdV]
 ((try (refine @unH _ ?_; refine zX Bxp ?_)); (try (refine hK _ _ ?_; clear hK K; (try simp only [nq, ↓reduceIte, Nat.reduceEqDiff]))); refine @unH _ ?_; refine zA Bxp ?_; (repeat (refine inC ?_; intro hc)); try (refine inK ?_; intro K hK))
 (refine @unH _ ?_; refine z9 Tryz.results100 ?_)
 rw [show regF places r start xss = bhi from hres]
 exact ⟨by first | rfl | trivial, Hp.le_trans l02 lH3⟩
def Azu := And.intro (fun H => Aqx (H := H) Tryz.underlying25 rfl Tryz.sizeOf25) (And.intro @Bve (And.intro @Ck2 (And.intro @Cyk @Cyj)))
def Az3 (g : Int -> Int) : Nat -> Int × Int
 | 0 => (-1, 0)
 | n + 1 => if (n : Int) < 3 then (if (Az3 g n).1 < 0 ∨ g n < (Az3 g n).2 then ((n : Int), g n) else Az3 g n) else Az3 g n
theorem Cke (H : Hp) (places pieces : Int) (sv cv : Value) (start : List Int) (xss : List (List Int)) (hv : Aky H places pieces sv cv start xss) :
  FnX Tryz.prog (.wg Tryz.prog) 57 #[.agg #[.int .i64 places, .int .i64 pieces, sv, cv]] H fun e H' => e = .returned (.tuple #[.int .i64 (Az3 (fun r => regF places r start xss) 4).1, .int .i64 0]) /\ H.le H' := by
 obtain ⟨sa, sn, sc, rfl⟩ := hv.st.isSlice
 obtain ⟨ca, cc, rfl, hcc, _⟩ := id hv.calls
 refine Aqk Tryz.func57 rfl Tryz.ntmps57 (by simp) ?_
 (refine @unH _ ?_; refine zA Azu ?_; (repeat (refine inC ?_; intro hc)); try (refine inK ?_; intro K hK))
 (intro vb hvb; generalize hG : Hp.set _ vb _ = H1; have lH1 := Aqg hG hvb; have vvb := Aqf hG; clear hG)
 have hv1 := hv.le lH1
 ((try (refine @unH _ ?_; refine zX Azu ?_)); (try (refine hK _ _ ?_; clear hK K; (try simp only [nq, ↓reduceIte, Nat.reduceEqDiff]))); refine @unH _ ?_; refine zA Azu ?_; (repeat (refine inC ?_; intro hc)); try (refine inK ?_; intro K hK))
 refine (Ayl _ H1 places pieces _ _ start xss hv1.st hv1.calls hv1.ok hv1.few).runs.mono ?_
 rintro _ H2 ⟨rfl, lH2⟩
 have hv2 := hv1.le lH2
 have vvb2 := lH2 _ _ vvb
 have l02 := Hp.le_trans lH1 lH2
 clear vvb hvb lH1 lH2 hv1
 ((try (refine @unH _ ?_; refine zX Azu ?_)); (try (refine hK _ _ ?_; clear hK K; (try simp only [nq, ↓reduceIte, Nat.reduceEqDiff]))); refine @unH _ ?_; refine zA Azu ?_; (repeat (refine inC ?_; intro hc)); try (refine inK ?_; intro K hK))
 obtain ⟨g, hg⟩ : ∃ g : Int -> Int, g = fun r => regF places r start xss := ⟨_, rfl⟩
 have hreg : ∀ HX (hX : H2.le HX) (r : Int) (hr0 : 0 <= r) (hr3 : r <= 3), FnX Tryz.prog (.wg Tryz.prog) 100 #[.agg #[.int .i64 places, .int .i64 pieces, .slice sa sn sc, .slice ca xss.length cc], Aju r] HX fun e H' => e = .returned (.int .i64 (g r)) /\ HX.le H' := fun HX hX r h0 h3 => by
  rw [hg]; exact Cxa HX places pieces _ _ start xss (hv2.le hX) r h0 h3
 rw [<- hg]
 replace hreg : Aqs _ := hreg
 clear hg
 refine Axe (fun w a' H' => ∃ (e : Nat -> Value) (n : Nat), w = 4 - n /\ n <= 4 /\ a' = act 36 e [] /\ e 1 = .pointer (some ⟨vb, 0, none⟩) /\ e 5 = .int .i64 (Az3 g n).1 /\ e 6 = .int .i64 (Az3 g n).2 /\ e 15 = .int .i64 (n : Nat) /\ H2.le H') (n := 4) ?_ ?_
 ·exact ⟨_, 0, by omega, by omega, rfl, rfl, rfl, rfl, rfl, Hp.le_refl _⟩
 ·rintro w a' H3 ⟨e, n, rfl, hn, rfl, e1, e5, e6, e15, l23⟩
  have vvb3 := l23 _ _ vvb2
  by_cases hlt : n < 4
  ·have hn0 : (0 : Int) <= (n : Int) := by omega
   have hn3 : (n : Int) <= 3 := by omega
   have hst : Aqs (Az3 g (n + 1) = if (n : Int) < 3 then (if (Az3 g n).1 < 0 ∨ g n < (Az3 g n).2 then ((n : Int), g n) else Az3 g n) else Az3 g n) := rfl
   generalize Az3 g n = st at *
   obtain ⟨b, m⟩ := st
   simp only at e5 e6
   (refine @unH _ ?_; refine zA Azu ?_; (repeat (refine inC ?_; intro hc)); try (refine inK ?_; intro K hK))
   refine (Bjy _ H3 n hn0 hn3).runs.mono ?_
   rintro _ H4 ⟨rfl, hH4⟩
   rw [hH4]; clear hH4 H4
   ((try (refine @unH _ ?_; refine zX Azu ?_)); (try (refine hK _ _ ?_; clear hK K; (try simp only [nq, ↓reduceIte, Nat.reduceEqDiff]))); refine @unH _ ?_; refine zA Azu ?_; (repeat (refine inC ?_; intro hc)); try (refine inK ?_; intro K hK))
   refine (Cz8 _ H3 n hn0 hn3).runs.mono ?_
   rintro _ H4 ⟨rfl, hH4⟩
   rw [hH4]; clear hH4 H4
   by_cases hb3 : (n : Int) < 3
   ·rw [decide_eq_true hb3]
    ((try (refine @unH _ ?_; refine zX Azu ?_)); (try (refine hK _ _ ?_; clear hK K; (try simp only [nq, ↓reduceIte, Nat.reduceEqDiff]))); refine @unH _ ?_; refine zA Azu ?_; (repeat (refine inC ?_; intro hc)); try (refine inK ?_; intro K hK))
    refine ((show ∀ HX (hX : H2.le HX) (r : Int) (hr0 : 0 <= r) (hr3 : r <= 3), FnX Tryz.prog _ _ #[_, Aju r] HX _ from hreg) H3 l23 n hn0 hn3).runs.mono ?_
    rintro _ H4 ⟨rfl, l34⟩
    have l24 := Hp.le_trans l23 l34
    have hst1 : Az3 g (n + 1) = (if b < 0 ∨ g n < m then ((n : Int), g n) else (b, m)) := by have h := (show _ = _ from hst); rwa [if_pos hb3] at h
    generalize g (n : Int) = gn at *
    replace hst1 : Aqs _ := hst1
    clear hst hb3 vvb3
    by_cases hb : b < 0
    ·((try (refine @unH _ ?_; refine zX Azu ?_)); (try (refine hK _ _ ?_; clear hK K; (try simp only [nq, ↓reduceIte, Nat.reduceEqDiff]))); refine @unH _ ?_; refine zA Azu ?_; (repeat (refine inC ?_; intro hc)); try (refine inK ?_; intro K hK))
     refine ⟨4 - (n + 1), by omega, _, n + 1, rfl, by omega, rfl, e1, ?_, ?_, rfl, l24⟩
     ·rw [show Az3 g (n + 1) = _ from hst1, if_pos (.inl hb)]; rfl
     ·rw [show Az3 g (n + 1) = _ from hst1, if_pos (.inl hb)]; rfl
    ·by_cases hm : gn < m
     ·((try (refine @unH _ ?_; refine zX Azu ?_)); (try (refine hK _ _ ?_; clear hK K; (try simp only [nq, ↓reduceIte, Nat.reduceEqDiff]))); refine @unH _ ?_; refine zA Azu ?_; (repeat (refine inC ?_; intro hc)); try (refine inK ?_; intro K hK))
      refine ⟨4 - (n + 1), by omega, _, n + 1, rfl, by omega, rfl, e1, ?_, ?_, rfl, l24⟩
      ·rw [show Az3 g (n + 1) = _ from hst1, if_pos (.inr hm)]; rfl
      ·rw [show Az3 g (n + 1) = _ from hst1, if_pos (.inr hm)]; rfl
     ·((try (refine @unH _ ?_; refine zX Azu ?_)); (try (refine hK _ _ ?_; clear hK K; (try simp only [nq, ↓reduceIte, Nat.reduceEqDiff]))); refine @unH _ ?_; refine zA Azu ?_; (repeat (refine inC ?_; intro hc)); try (refine inK ?_; intro K hK))
      refine ⟨4 - (n + 1), by omega, _, n + 1, rfl, by omega, rfl, e1, ?_, ?_, rfl, l24⟩
      ·rw [show Az3 g (n + 1) = _ from hst1, if_neg (fun h => h.elim hb hm)]; exact e5
      ·rw [show Az3 g (n + 1) = _ from hst1, if_neg (fun h => h.elim hb hm)]; exact e6
   ·rw [decide_eq_false hb3]
    have hst1 : Az3 g (n + 1) = (b, m) := by have h := (show _ = _ from hst); rwa [if_neg hb3] at h
    replace hst1 : Aqs _ := hst1
    clear hst
    ((try (refine @unH _ ?_; refine zX Azu ?_)); (try (refine hK _ _ ?_; clear hK K; (try simp only [nq, ↓reduceIte, Nat.reduceEqDiff]))); refine @unH _ ?_; refine zA Azu ?_; (repeat (refine inC ?_; intro hc)); try (refine inK ?_; intro K hK))
    refine ⟨4 - (n + 1), by omega, _, n + 1, rfl, by omega, rfl, e1, ?_, ?_, rfl, l23⟩
    ·rw [show Az3 g (n + 1) = _ from hst1]; exact e5
    ·rw [show Az3 g (n + 1) = _ from hst1]; exact e6
  ·obtain rfl : n = 4 := by omega
   (refine @unH _ ?_; refine zA Azu ?_; (repeat (refine inC ?_; intro hc)); try (refine inK ?_; intro K hK))
   (refine @unH _ ?_; refine zB Tryz.results57 ?_)
   exact ⟨by first | rfl | trivial, Hp.le_trans l02 l23⟩
def Avm (pl : Int) : Nat -> List Int -> Nat
 | _, [] => 0
 | m, t :: ts => if pl < Aq3 (Ak5 m t.toNat) then 0 else 1 + Avm pl (Ak5 m t.toNat) ts
def Azi (pl : Int) (ts : List Int) : Nat -> Nat -> List Int
 | 0, _ => []
 | fuel + 1, i => if i < ts.length then (i : Int) :: Azi pl ts fuel (i + Avm pl 0 (ts.drop i)) else []
theorem Bjt {pl : Int} (h1 : 1 <= pl) {t : Int} (h0 : 0 <= t) (h6 : t < 6) (ts : List Int) : 1 <= Avm pl 0 (t :: ts) := by
 have hc : (Aq3 (Ak5 0 t.toNat) : Int) = 1 := by
  have : t = 0 ∨ t = 1 ∨ t = 2 ∨ t = 3 ∨ t = 4 ∨ t = 5 := by omega
  rcases this with rfl | rfl | rfl | rfl | rfl | rfl <;> decide
 simp only [Avm]
 rw [if_neg (by omega)]
 omega
theorem Aw7 (pl : Int) (ts : List Int) {i : Nat} (h : i < ts.length) (fuel : Nat) : Azi pl ts (fuel + 1) i = (i : Int) :: Azi pl ts fuel (i + Avm pl 0 (ts.drop i)) := by
 simp [Azi, h]
theorem Awi (pl : Int) (ts : List Int) {i : Nat} (h : ts.length <= i) (fuel : Nat) : Azi pl ts fuel i = [] := by
 cases fuel with
 | zero => rfl
 | succ n => simp [Azi, Nat.not_lt.2 h]
theorem Bzi {pl : Int} (h1 : 1 <= pl) {ts : List Int} (hb : ∀ t ∈ ts, 0 <= t /\ t < 6) : ∀ (f f' i : Nat), ts.length - i <= f -> ts.length - i <= f' -> Azi pl ts f i = Azi pl ts f' i
 | f, f', i, h, h' => by
  by_cases hi : i < ts.length
  ·obtain ⟨n, rfl⟩ : ∃ n, f = n + 1 := ⟨f - 1, by omega⟩
   obtain ⟨n', rfl⟩ : ∃ n, f' = n + 1 := ⟨f' - 1, by omega⟩
   have hd : ts.drop i = ts[i] :: ts.drop (i + 1) := List.drop_eq_getElem_cons hi
   have hp : 1 <= Avm pl 0 (ts.drop i) := by
    rw [hd]
    exact Bjt h1 (hb _ (List.getElem_mem hi)).1 (hb _ (List.getElem_mem hi)).2 _
   rw [Aw7 pl ts hi, Aw7 pl ts hi, Bzi h1 hb n n' (i + Avm pl 0 (ts.drop i)) (by omega) (by omega)]
  ·rw [Awi pl ts (by omega), Awi pl ts (by omega)]
 termination_by f => f
theorem Bzj {pl : Int} (h1 : 1 <= pl) {ts : List Int} (hb : ∀ t ∈ ts, 0 <= t /\ t < 6) {i : Nat} (hi : i < ts.length) : Azi pl ts (ts.length - i) i = (i : Int) :: Azi pl ts (ts.length - (i + Avm pl 0 (ts.drop i))) (i + Avm pl 0 (ts.drop i)) := by
 obtain ⟨n, hn⟩ : ∃ n, ts.length - i = n + 1 := ⟨ts.length - i - 1, by omega⟩
 have hd : ts.drop i = ts[i] :: ts.drop (i + 1) := List.drop_eq_getElem_cons hi
 have hp : 1 <= Avm pl 0 (ts.drop i) := by
  rw [hd]
  exact Bjt h1 (hb _ (List.getElem_mem hi)).1 (hb _ (List.getElem_mem hi)).2 _
 rw [hn, Aw7 pl ts hi]
 congr 1
 exact Bzi h1 hb _ _ _ (by omega) (Nat.le_refl _)
end Go.Proofs.YtgniilnljeedlaaGreatDoor
end
section
namespace Go.X
open Go
def scC : Code -> Code
 | .scope c => c
 | c => c
def sdC : Code -> Code
 | .seq _ y => y
 | c => c
theorem Dkk {c : Code} {I : Nat -> Act -> Hp -> Prop} {Q : Exit -> Act -> Hp -> Prop} {l : Nat} {a : Act} {H : Hp} (h : (findLabel c l).isSome = true) : scp c I Q (.goto l) a H = I l a H := by
 simp [scp, h]
theorem Czk {c : Code} {I I' : Nat -> Act -> Hp -> Prop} {Q Q' : Exit -> Act -> Hp -> Prop} (hI : ∀ l a H, I l a H -> I' l a H) (hQ : ∀ e a H, Q e a H -> Q' e a H) : ∀ {e : Exit} {a : Act} {H : Hp}, scp c I Q e a H -> scp c I' Q' e a H
 | .normal, _, _, h => hQ _ _ _ h
 | .exit _, _, _, h => hQ _ _ _ h
 | .ret, _, _, h => hQ _ _ _ h
 | .panic _, _, _, h => hQ _ _ _ h
 | .outgrown, _, _, h => h
 | .goto l, a, H, h => by
  simp only [scp] at h ⊢
  split
  ·rename_i hs
   rw [if_pos hs] at h
   exact hI _ _ _ h
  ·rename_i hs
   rw [if_neg hs] at h
   exact hQ _ _ _ h
end Go.X
namespace Go.Proofs.YtgniilnljeedlaaGreatDoor
open Go Go.X
def Azj := And.intro (fun H => Aqx (H := H) Tryz.underlying25 rfl Tryz.sizeOf25) (And.intro @Bxy (And.intro (fun H => Aq5 (H := H) Tryz.underlying22) (And.intro @Axp (And.intro (fun H => Aqq (H := H) Tryz.underlying22 Tryz.sizeOf3) (And.intro (fun H => Aqd (H := H) Tryz.underlying3 rfl) (And.intro @Bvg (And.intro @Ck3 (And.intro (fun H => Aqh (H := H) Tryz.underlying97 (i := 0) rfl (off := 0) rfl Tryz.sizeOf25) (fun H => Aqh (H := H) Tryz.underlying25 (i := 0) rfl (off := 0) rfl Tryz.sizeOf3)))))))))
theorem Azr {H : Hp} {b : Nat} {xs : List Int} {c : Array Value} {q : Bool} (h : H b = some (q, .cells c 3 (0, 0))) (hc : c = (ints xs).toArray) : SlI H (.slice (some ⟨b, 0, none⟩) xs.length xs.length) xs :=
 ⟨_, _, rfl, Nat.le_refl _, fun i x hi => ⟨b, 0, q, c, (0, 0), rfl, h, by
  subst hc
  rw [Nat.zero_add]
  simp [ints, hi]⟩⟩
theorem RowX.rowB_ne {t : Option Nat} {H0 H : Hp} {v : Value} {e : TypeId} {cs : List Value} (h : RowX t H0 H v e cs) {b : Nat} (hb : ∀ c fr, H b ≠ some (true, .cells c e fr)) : rowB v ≠ some b := fun hr => by
 rcases h.2 with ⟨rfl, _⟩ | ⟨b', c, cap, _, hb', rfl, _⟩
 ·cases hr
 ·simp only [rowB, Option.some.injEq] at hr
  subst hr
  exact hb _ _ hb'
def PhI (H1 : Hp) (db mb : Nat) (places pieces : Int) (sv cv : Value) (ta : Option Addr) (tc : Nat) (ts : List Int) (l w : Nat) (a' : Act) (H' : Hp) : Prop := ∃ (e : Nat -> Value) (i : Nat) (os : List Int) (ov : Value), w = ts.length - i /\ i <= ts.length /\ a' = act 50 e [] /\ e 1 = .slice ta ts.length tc /\ e 6 = .pointer (some ⟨db, 0, none⟩) /\ e 8 = ov /\ e 9 = .int .i64 (i : Nat) /\
 H' db = some (true, dayO places pieces sv cv (.slice ta ts.length tc) mb) /\ RowX none H1 H' ov 3 (ints os) /\ os.length <= i /\ os ++ Azi places ts (ts.length - i) i = Azi places ts ts.length 0
theorem Bju (main : Md) (H1 : Hp) (db mb : Nat) (places pieces : Int) (sv cv : Value) (ta : Option Addr) (tc : Nat) (ts : List Int) (hts : SlI H1 (.slice ta ts.length tc) ts) (h1 : 1 <= places) (hl8 : ts.length <= 8) (h6 : ∀ t ∈ ts, 0 <= t /\ t < 6) (R : Ending -> Hp -> Prop)
  (hR : Aqs (∀ v H', H1.le H' -> SlI H' v (Azi places ts ts.length 0) -> R (.returned (.tuple #[v, .int .i64 0])) H')) (n : Nat) (a : Act) (H' : Hp) (hI : PhI H1 db mb places pieces sv cv ta tc ts 0 n a H') :
  wpX Tryz.prog main none (sdC (sdC (sdC (sdC (sdC (scC (sdC ((Tryz.f31).body.getD .skip))))))))
   (scp (scC (sdC ((Tryz.f31).body.getD .skip))) (fun l a H => ∃ n', n' < n /\ PhI H1 db mb places pieces sv cv ta tc ts l n' a H) (Cqj Tryz.prog main Tryz.f31 R)) a H' := by
 obtain ⟨e, i, os, ov, rfl, hi, rfl, e1, e6, e8, e9, vdb, hrow, hos, hph⟩ := hI
 show wpX _ _ _ (.seq _ _) _ _ _
 refine Aql ?_
 by_cases hlt : i < ts.length
 ·(refine @unH _ ?_; refine zS Azj ?_; (repeat (refine inC ?_; intro hc)); try (refine inK ?_; intro K hK))
  intro nb hnb
  generalize hG : Hp.set H' nb _ = H2
  have lH2 := Aqg hG hnb
  have vnb := Aqf hG
  clear hG
  have hw : SlI H2 (.slice (some ⟨nb, 0, none⟩) 1 1) [(i : Int)] := Azr (xs := [(i : Int)]) vnb rfl
  have hsep : rowB ov ≠ some nb := hrow.rowB_ne fun c fr h => by rw [hnb] at h; cases h
  have hsd : rowB ov ≠ some db := hrow.rowB_ne fun c fr h => by rw [vdb] at h; cases h
  have hrow2 := hrow.le lH2
  have vdb2 := lH2 _ _ vdb
  have hts' : SlI H2 (.slice ta ts.length tc) ts := hts.le (hrow2.1.toLe)
  refine Avp hrow2 hw (fun _ b hb => by simp only [rowB, Option.some.injEq] at hb; subst hb; exact hsep) (by simp only [List.length_cons, List.length_nil]; omega) _ _ _ _ (fun v3 H3 hrow3 hkeep => ?_)
  have vdb3 := hkeep _ _ vdb2 hsd
  have hts3 : SlI H3 (.slice ta ts.length tc) ts := hts.le hrow3.1.toLe
  clear hw hsep hsd hrow2 vdb2 hkeep lH2 vnb hnb hrow vdb hts'
  obtain ⟨va, vc, rfl⟩ := hrow3.len
  have hil : (ints (os ++ [(i : Int)])).length <= 100 := by rw [Aq8, List.length_append, List.length_cons, List.length_nil]; omega
  replace hil : Aqs _ := hil
  generalize (ints (os ++ [(i : Int)])).length = vn at *
  ((try (refine @unH _ ?_; refine zX Azj ?_)); (try (refine hK _ _ ?_; clear hK K; (try simp only [nq, ↓reduceIte, Nat.reduceEqDiff]))); refine @unH _ ?_; refine zS Azj ?_; (repeat (refine inC ?_; intro hc)); try (refine inK ?_; intro K hK))
  refine Aql (Aqo ?_)
  refine Axe (fun w a' H' => ∃ e j m, w = ts.length - j /\ i <= j /\ j <= ts.length /\ a' = act 50 e [] /\ e 1 = .slice ta ts.length tc /\ e 6 = .pointer (some ⟨db, 0, none⟩) /\ e 8 = .slice va vn vc /\ e 9 = .int .i64 (j : Nat) /\ e 10 = .int .u8 (m : Nat) /\ m < 64 /\ Avm places 0 (ts.drop i) = (j - i) + Avm places m (ts.drop j) /\ H' = H3) (n := ts.length - i) ?_ ?_
  ·exact ⟨_, i, 0, by omega, by omega, by omega, rfl, e1, e6, rfl, e9, rfl, by omega, by omega, rfl⟩
  ·rintro w a' H' ⟨e, j, m, rfl, hij, hj, rfl, e1, e6, e8, e9, e10, hm, hlen, hH⟩
   rw [hH]; clear hH H'
   by_cases hjl : j < ts.length
   ·have hd : ts.drop j = ts[j] :: ts.drop (j + 1) := List.drop_eq_getElem_cons hjl
    have htj := List.getElem?_eq_getElem hjl
    have htb := h6 _ (List.getElem_mem hjl)
    rw [hd] at hlen
    generalize ts[j] = t at hlen htj htb
    clear hd
    replace hlen : Aqs _ := hlen
    obtain ⟨b, o, cap', p, c, fr, hve, _, hb', hx⟩ := hts3.cons (fun h => absurd (congrArg List.length h) (by simp only [List.length_nil]; omega))
    cases hve
    have hxj := hx j t htj
    have hm2 := Bxc hm htb.1 htb.2
    (refine @unH _ ?_; refine zA Azj ?_; (repeat (refine inC ?_; intro hc)); try (refine inK ?_; intro K hK))
    refine (Bxl main H3 m t hm htb.1 htb.2).runs.mono ?_; rintro _ HQ ⟨rfl, hHQ⟩; rw [hHQ]; clear hHQ HQ; ((try (refine @unH _ ?_; refine zX Azj ?_)); (try (refine hK _ _ ?_; clear hK K; (try simp only [nq, ↓reduceIte, Nat.reduceEqDiff]))); refine @unH _ ?_; refine zA Azj ?_; (repeat (refine inC ?_; intro hc)); try (refine inK ?_; intro K hK))
    have hlen' : Avm places 0 (ts.drop i) = j - i + (if places < Aq3 (Ak5 m t.toNat) then 0 else 1 + Avm places (Ak5 m t.toNat) (ts.drop (j + 1))) := hlen
    generalize Ak5 m t.toNat = m2 at *
    clear hlen
    replace hlen' : Aqs _ := hlen'
    refine Az4 8 [(true, 0), (true, 1), (true, 2), (true, 3), (true, 4), (true, 5), (true, 6), (true, 7)] (by kernel_rfl) (by kernel_rfl) (by simp) (by kernel_rfl) ?_; intro K hK
    (refine @unH _ ?_; refine z3 Azj ?_)
    (apply Axc rfl rfl rfl; (focus (simp -implicitDefEqProofs (disch := first | omega | (simp only [qd] <;> omega)) only [xq, ↓xp, qc, Nat.reduceAdd, List.range, List.range.loop, fine, Nat.reduceEqDiff, ↓reduceIte, yielded, reduceCtorEq, Nat.reduceLT, Nat.reduceMul, Nat.reduceSub, one, Nat.reduceLeDiff, Aqa, Azj]; exact quiet_of (Bkm main H3 m2 hm2))); simp -implicitDefEqProofs (disch := omega) only [Aqn, Aqc])
    (iterate 6 (refine @unH _ ?_; refine z3 Azj ?_))
    refine Ax2 (hK _ _ ?_); clear hK K
    (try simp only [nq, ↓reduceIte, Nat.reduceEqDiff])
    have hcnt : Aq3 m2 <= 100 := by have : Aq3 m2 <= 6 := Aw4 m2 hm2; omega
    by_cases hfull : places < Aq3 m2
    ·(refine @unH _ ?_; refine zA Azj ?_; (repeat (refine inC ?_; intro hc)); try (refine inK ?_; intro K hK))
     have hl2 : Avm places 0 (ts.drop i) = j - i + (if places < Aq3 m2 then 0 else 1 + Avm places m2 (ts.drop (j + 1))) := hlen'
     rw [if_pos hfull] at hl2
     have hd : ts.drop i = ts[i] :: ts.drop (i + 1) := List.drop_eq_getElem_cons hlt
     have hp : 1 <= Avm places 0 (ts.drop i) := by
      rw [hd]
      exact Bjt h1 (h6 _ (List.getElem_mem hlt)).1 (h6 _ (List.getElem_mem hlt)).2 _
     rw [Dkk (by rfl)]
     refine ⟨ts.length - j, by omega, _, j, os ++ [(i : Int)], _, rfl, hj, rfl, e1, e6, e8, e9, vdb3, hrow3, by simp only [List.length_append, List.length_cons, List.length_nil]; omega, ?_⟩
     rw [<- hph, Bzj h1 h6 hlt, show i + Avm places 0 (ts.drop i) = j by omega, List.append_assoc]
     rfl
    ·(refine @unH _ ?_; refine zA Azj ?_; (repeat (refine inC ?_; intro hc)); try (refine inK ?_; intro K hK))
     have hl2 : Avm places 0 (ts.drop i) = j - i + (if places < Aq3 m2 then 0 else 1 + Avm places m2 (ts.drop (j + 1))) := hlen'
     rw [if_neg hfull] at hl2
     exact ⟨ts.length - (j + 1), by omega, _, j + 1, m2, rfl, by omega, hjl, rfl, e1, e6, e8, rfl, rfl, hm2, by omega, by trivial⟩
   ·obtain rfl : j = ts.length := by omega
    (refine @unH _ ?_; refine zA Azj ?_; (repeat (refine inC ?_; intro hc)); try (refine inK ?_; intro K hK))
    (refine @unH _ ?_; refine zB Tryz.results31 ?_)
    have hl0 : Avm places m (ts.drop ts.length) = 0 := by rw [List.drop_length]; rfl
    refine (show ∀ v H', H1.le H' -> SlI H' v (Azi places ts ts.length 0) -> R (.returned (.tuple #[v, .int .i64 0])) H' from hR) _ _ hrow3.1.toLe ?_
    have hs := hrow3.ints
    rw [<- hph, Bzj h1 h6 hlt, Awi places ts (by omega)]
    exact hs
 ·obtain rfl : i = ts.length := by omega
  (refine @unH _ ?_; refine zA Azj ?_; (repeat (refine inC ?_; intro hc)); try (refine inK ?_; intro K hK))
  (refine @unH _ ?_; refine zB Tryz.results31 ?_)
  refine (show ∀ v H', H1.le H' -> SlI H' v (Azi places ts ts.length 0) -> R (.returned (.tuple #[v, .int .i64 0])) H' from hR) _ _ hrow.1.toLe ?_
  have hs := hrow.ints
  rw [Awi places ts (Nat.le_refl _), List.append_nil] at hph
  rw [<- hph]
  exact hs
theorem By1 (main : Md) (H : Hp) (places pieces : Int) (sv cv tv : Value) (start : List Int) (xss : List (List Int)) (ts : List Int) (hd : Awx H places pieces sv cv tv start xss ts) :
  FnX Tryz.prog main 31 #[.agg #[.int .i64 places, .int .i64 pieces, sv, cv], tv] H fun e H' => ∃ v, e = .returned (.tuple #[v, .int .i64 0]) /\ H.le H' /\ SlI H' v (Azi places ts ts.length 0) := by
 obtain ⟨sa, sn, sc, rfl⟩ := hd.st.isSlice
 obtain ⟨ca, cn, cc, rfl⟩ := hd.calls.isSlice
 obtain ⟨ta, tc, rfl, htc, _⟩ := id hd.truth
 have hl8 : ts.length <= 8 := by have := hd.true.1; have := hd.few; omega
 have h6 := hd.true.bnd hd.ok
 refine Aqk Tryz.func31 rfl Tryz.ntmps31 (by simp) ?_
 (refine @unH _ ?_; refine zS Azj ?_; (repeat (refine inC ?_; intro hc)); try (refine inK ?_; intro K hK))
 (intro vb hvb; generalize hG : Hp.set _ vb _ = H1; have lH1 := Aqg hG hvb; have vvb := Aqf hG; clear hG)
 have hd1 := hd.le lH1
 have lex1 := lH1
 have hPI : ∀ H2, H1.le H2 -> Awx H2 places pieces (.slice sa sn sc) (.slice ca cn cc) (.slice ta ts.length tc) start xss ts := fun H2 h => hd1.le h
 ((try (refine @unH _ ?_; refine zX Azj ?_)); (try (refine hK _ _ ?_; clear hK K; (try simp only [nq, ↓reduceIte, Nat.reduceEqDiff]))); refine @unH _ ?_; refine zS Azj ?_; (repeat (refine inC ?_; intro hc)); try (refine inK ?_; intro K hK))
 refine By8 (fun l w a' H' => ∃ H2 db mb, H.le H2 /\ SlI H2 (.slice ta ts.length tc) ts /\ PhI H2 db mb places pieces (.slice sa sn sc) (.slice ca cn cc) ta tc ts l w a' H') ?_ ?_
 ·(refine @unH _ ?_; refine zS Azj ?_; (repeat (refine inC ?_; intro hc)); try (refine inK ?_; intro K hK))
  refine (Akt main H1 places pieces _ _ _ start xss ts hd1).runs.mono ?_
  rintro _ H2 ⟨db, mb, rfl, lH2, hdm, hdb, hmb, vdb, vmb⟩
  have hd2 := hd1.le lH2
  ((try (refine @unH _ ?_; refine zX Azj ?_)); (try (refine hK _ _ ?_; clear hK K; (try simp only [nq, ↓reduceIte, Nat.reduceEqDiff]))); refine @unH _ ?_; refine zS Azj ?_; (repeat (refine inC ?_; intro hc)); try (refine inK ?_; intro K hK))
  refine Aql ?_
  (refine @unH _ ?_; refine zS Azj ?_; (repeat (refine inC ?_; intro hc)); try (refine inK ?_; intro K hK))
  refine Aql (Axr ?_)
  refine Avk (Bju main H2 db mb places pieces (.slice sa sn sc) (.slice ca cn cc) ta tc ts hd2.truth hd.ok.1 hl8 h6 (fun e H' => ∃ v, e = .returned (.tuple #[v, .int .i64 0]) /\ H.le H' /\ SlI H' v (Azi places ts ts.length 0)) (fun v H' l h => ⟨v, rfl, Hp.le_trans (Hp.le_trans lH1 lH2) l, h⟩) ts.length _ H2 ?_) ?_
  ·exact ⟨_, 0, [], _, by omega, by omega, rfl, rfl, rfl, rfl, rfl, vdb, RowX.nil, Nat.le_refl _, rfl⟩
  ·exact fun e a H' q => Czk (fun l a H' ⟨n', _, h⟩ => ⟨n', H2, db, mb, Hp.le_trans lH1 lH2, hd2.truth, h⟩) (fun _ _ _ h => h) q
 ·rintro l rest w a' H' hf ⟨H2, db, mb, l2, ht2, hI⟩
  have hl : l = 0 := by
   apply Classical.byContradiction
   intro hl
   have h9 : (0 == l) = false := by simp; omega
   simp only [findLabel, h9, Bool.false_eq_true, if_false] at hf
   cases hf
  subst hl
  simp only [findLabel, beq_self_eq_true, if_true, Option.some.injEq] at hf
  subst hf
  refine Aql (Aqu ?_)
  refine Avk (Bju main H2 db mb places pieces (.slice sa sn sc) (.slice ca cn cc) ta tc ts ht2 hd.ok.1 hl8 h6 (fun e H' => ∃ v, e = .returned (.tuple #[v, .int .i64 0]) /\ H.le H' /\ SlI H' v (Azi places ts ts.length 0)) (fun v H' l h => ⟨v, rfl, Hp.le_trans l2 l, h⟩) w _ H' hI) ?_
  exact fun e a H' q => Czk (fun l a H' ⟨n', hlt, h⟩ => ⟨n', hlt, H2, db, mb, l2, ht2, h⟩) (fun _ _ _ h => h) q
end Go.Proofs.YtgniilnljeedlaaGreatDoor
end
section
namespace Go.X
open Go
theorem Bxh {P : Program} {H : Hp} {fn : Func} {t : Tmp} {ty : TypeId} (h : fn.results = #[.cell t ty]) {n : Nat} {e : Nat -> Value} {ds : List Deferred} (ht : t < n) {a : Addr} (hb : e t = .pointer (some a))
  {d : TypeDesc} (hu : P.underlying ty = some d) (hd : aggB d = false) (K : Value -> Hp -> Prop) (E : Value -> Hp -> Prop) :
  wpS P (results fn (act n e ds).tmps) H K E = ∃ v, H.cell a = some v /\ K v H := by
 have hl : ∀ K E, wpS P (loadVar ty a) H K E = ∃ v, H.cell a = some v /\ K v H := fun K E => Aqd hu hd a K E
 simp [-bind_pure_comp, results, h, act_get? ht, hb, asAddr, Aqb, Aqi, hl]
end Go.X
namespace Go.Proofs.YtgniilnljeedlaaGreatDoor
open Go Go.X
def Azt := And.intro (fun H => Aqx (H := H) Tryz.underlying25 rfl Tryz.sizeOf25) (And.intro @Bxy (And.intro (fun H => Aqh (H := H) Tryz.underlying25 (i := 2) rfl (off := 2) rfl Tryz.sizeOf22) (And.intro (fun H => Aqd (H := H) Tryz.underlying22 rfl) (And.intro (fun H => Aq5 (H := H) Tryz.underlying22) (And.intro @Cq2 (And.intro (fun H => Aq1 (H := H) (P := Tryz.prog) (h := Tryz.zeroValue25)) (And.intro (fun H => Aq4 (H := H) Tryz.sizeOf25) (And.intro (fun H => Aqh (H := H) Tryz.underlying25 (i := 0) rfl (off := 0) rfl Tryz.sizeOf3) (And.intro (fun H => Axo (H := H) Tryz.sizeOf3) (And.intro @Bz9 (And.intro @Bqk (And.intro @Bqj (And.intro @Bkk (And.intro (fun H => Bvu (H := H) Tryz.underlying115 rfl) @Dzn))))))))))))))
def Bka := And.intro (fun H => Aq1 (H := H) (P := Tryz.prog) (h := Tryz.zeroValue4)) (And.intro @Bvf (fun H => Ayd (H := H) Tryz.sizeOf4))
def Bwi := And.intro (fun H st => Ajj (H := H) (st := st) Tryz.underlying154 rfl Tryz.zeroValue154) (And.intro (fun H => Aq1 (H := H) (P := Tryz.prog) (h := Tryz.zeroValue154)) (And.intro (fun H => Aq4 (H := H) Tryz.sizeOf154) (fun H => Ayd (H := H) Tryz.sizeOf4)))
theorem Lex.free {b : Nat} {H0 H1 H2 : Hp} (h : Lex none H0 H1) (h' : Lex (some b) H1 H2) (hb : H0 b = none) : Lex none H0 H2 := fun x v hx => by
 obtain ⟨v1, h1, e1⟩ := h x v hx
 obtain ⟨v2, h2, e2⟩ := h' x v1 h1
 exact ⟨v2, h2, fun _ => (e2 fun e => by rw [<- Option.some.inj e, hb] at hx; cases hx).trans (e1 (by simp))⟩
def Dz1 (k : Bool) : Value := if k then .iface 154 (.agg #[]) else .nilIface
theorem Cqf (H : Hp) (k : Bool) (st : TypeId) (K : Value -> Hp -> Prop) (E : Value -> Hp -> Prop) : wpS Tryz.prog (Instr.typeAssert (Dz1 k) st 154 true) H K E = K (.tuple #[.agg #[], .bool k]) H := by
 cases k
 ·show wpS Tryz.prog (Instr.typeAssert .nilIface st 154 true) H K E = _
  unfold Instr.typeAssert
  rw [Aqb, Aqj Tryz.underlying154]
  simp only [Bj3, Aqi, if_true, Aqb, Ax3 Tryz.zeroValue154]
 ·show wpS Tryz.prog (Instr.typeAssert (.iface 154 (.agg #[])) st 154 true) H K E = _
  rw [Ajj Tryz.underlying154 rfl Tryz.zeroValue154]
  rfl
theorem Bzn (main : Md) (H : Hp) (isb : Nat) (x : Value) (hb : H isb = some (true, .cells #[x] 4 (0, 0))) (m : FrameMode) (k : Bool) (hm : m = .returning /\ k = false ∨ m = .panicking [{ v := Dz1 true, recovered := false }] /\ k = true) (R : FrameMode -> Hp -> Prop)
  (hR : Aqs (∀ H', H.le H' -> R .returning (if k = true then H'.set isb (.cells #[.bool false] 4 (0, 0)) else H'))) :
  DefX Tryz.prog main m { target := .fn (.func 120) #[.pointer (some ⟨isb, 0, none⟩)], args := #[] } H R := by
 refine Bwl (v := Dz1 k) Tryz.func120 rfl (fun _ _ => Cyp _) ?_ ?_
 ·rcases hm with ⟨h1, h2⟩ | ⟨h1, h2⟩
  ·exact .inl ⟨h1, by rw [h2]; rfl⟩
  ·exact .inr (by rw [h1, h2])
 intro K hK
 rw [Tryz.ntmps120]
 rw [show ((#[] : Array Value) ++ #[.pointer (some ⟨isb, 0, none⟩)]) = [Value.pointer (some ⟨isb, 0, none⟩)].toArray from rfl, Bq6 (by simp)]
 (refine @unH _ ?_; refine zX (And.intro Bwi @Cqf) ?_)
 (intro nb hnb; generalize hG : Hp.set _ nb _ = H1; have lH1 := Aqg hG hnb; have vnb := Aqf hG; clear hG)
 have hb1 := lH1 _ _ hb
 refine hK _ _ ?_; clear hK K
 cases k
 ·have hR1 := (show ∀ H', H.le H' -> R .returning (if false = true then H'.set isb (.cells #[.bool false] 4 (0, 0)) else H') from hR) H1 lH1
  simp only [Bool.false_eq_true, if_false] at hR1
  replace hR1 : Aqs _ := hR1
  (refine @unH _ ?_; refine zA Bwi ?_; (repeat (refine inC ?_; intro hc)); try (refine inK ?_; intro K hK))
  refine ⟨rfl, ?_⟩
  rw [Aya Tryz.results120]
  exact hR1
 ·have hR1 := (show ∀ H', H.le H' -> R .returning (if true = true then H'.set isb (.cells #[.bool false] 4 (0, 0)) else H') from hR) H1 lH1
  simp only [if_true] at hR1
  replace hR1 : Aqs _ := hR1
  (refine @unH _ ?_; refine zA Bwi ?_; (repeat (refine inC ?_; intro hc)); try (refine inK ?_; intro K hK))
  refine ⟨rfl, ?_⟩
  rw [Aya Tryz.results120]
  exact hR1
theorem By3 (main : Md) (H : Hp) (db : Nat) (places pieces : Int) (sv cv tv : Value) (ts : List Int) (mb : Nat) (hdb : H db = some (true, dayO places pieces sv cv tv mb)) (hts : SlI H tv ts) (start : List Int) (hst : SlI H sv start) (hs6 : ∀ t ∈ start, 0 <= t /\ t < 6) (hsl : start.length <= 1000)
  (hl : ts.length <= 8) (h6 : ∀ t ∈ ts, 0 <= t /\ t < 6) (r : Int) (hr0 : 0 <= r) (hr3 : r <= 3) (mo : Int) (hmo0 : 0 <= mo) :
  FnX Tryz.prog main 92 #[.pointer (some ⟨db, 0, none⟩), Aju r, .int .i64 mo] H fun e H' => e = .returned (.bool (decide (((rrun places r ts (rs0 start) ts.length).f : Int) <= mo))) /\ H.le H' := by
 refine Aqk Tryz.func92 rfl Tryz.ntmps92 (by simp) ?_
 refine Axn rfl ?_; intro K hK
 (refine @unH _ ?_; refine zX Bka ?_)
 intro isb hisb
 generalize hG : Hp.set H isb _ = H1
 have lH1 := Aqg hG hisb
 have vis := Aqf hG
 clear hG
 refine hK _ _ ?_; clear hK K
 refine Axn rfl ?_; intro K hK
 (refine @unH _ ?_; refine zX (And.intro Bka (And.intro @Cvi (And.intro @Cqv @Bzm))) ?_)
 refine hK _ _ ?_; clear hK K
 refine Cw4 rfl ?_; intro K E hK hE
 (refine @unH _ ?_; refine zX (And.intro Bka (And.intro @Ckw @Ckx)) ?_)
 refine (Czi main H1 db places pieces sv cv tv ts mb (lH1 _ _ hdb) (hts.le lH1) start (hst.le lH1) hs6 hsl hl h6 r hr0 hr3 mo hmo0 _ ?_ ?_).runs
 ·intro hf H2 l2
  have vis2 := l2 _ _ vis
  (refine @unH _ ?_; refine zX (And.intro Bka (And.intro @Ckw @Ckx)) ?_)
  refine hK _ _ ?_; clear hK hE K E
  (refine @unH _ ?_; refine zA Bka ?_; (repeat (refine inC ?_; intro hc)); try (refine inK ?_; intro K hK))
  refine Ax8 ?_
  refine Bzn main (H2.set isb (.cells #[.bool true] 4 (0, 0))) isb _ Aqw .returning false (.inl ⟨rfl, rfl⟩) _ (fun H3 l3 => ?_)
  show wpS _ (results _ _) _ _ _
  rw [Bxh Tryz.results92 (by decide) (a := ⟨isb, 0, none⟩) rfl Tryz.underlying4 rfl]
  refine ⟨.bool true, by rw [if_neg (by simp), cell_of (l3 _ _ Aqw)]; rfl, by rw [decide_eq_true hf], ?_⟩
  exact Hp.le_trans (((Lex.of (Hp.le_trans lH1 l2)).own hisb : Lex none H _)).toLe l3
 ·intro hf H2 l2
  have vis2 := l2 _ _ vis
  show both K E (.panic _) _ _
  refine hE _ _ _ ?_
  refine Bzn main H2 isb _ vis2 (.panicking _) true (.inr ⟨rfl, rfl⟩) _ (fun H3 l3 => ?_)
  show wpS _ (results _ _) _ _ _
  rw [Bxh Tryz.results92 (by decide) (a := ⟨isb, 0, none⟩) rfl Tryz.underlying4 rfl]
  refine ⟨.bool false, by rw [if_pos rfl, cell_of Aqw]; rfl, by rw [decide_eq_false (by omega)], ?_⟩
  exact (((Lex.of (Hp.le_trans lH1 (Hp.le_trans l2 l3))).own hisb : Lex none H _)).toLe
def plF (P : Int -> Bool) : Nat -> Int -> Option Int
 | 0, _ => none
 | k + 1, n => if P n then some n else plF P k (n + 1)
def loP (start : List Int) : Nat := if 1 < start.length then start.length else 1
def Ay7 (start ts : List Int) (fetched : Int) : Option Int := plF (fun n => decide (fewF n start ts <= fetched)) (7 - loP start) (loP start : Nat)
theorem Dkf : Aju 3 = .iface 115 (.agg #[]) := by unfold Aju; rfl
theorem By2 (main : Md) (H : Hp) (places pieces : Int) (sv cv tv : Value) (start : List Int) (xss : List (List Int)) (ts : List Int) (hd : Awx H places pieces sv cv tv start xss ts) (fetched : Int) (hf0 : 0 <= fetched) :
  FnX Tryz.prog main 44 #[.agg #[.int .i64 places, .int .i64 pieces, sv, cv], tv, .int .i64 fetched] H fun e H' => e = .returned (.tuple #[.int .i64 ((Ay7 start ts fetched).getD 0), .int .i64 (if (Ay7 start ts fetched).isSome then 0 else 11)]) /\ H.le H' := by
 obtain ⟨sa, sn, sc, rfl⟩ := hd.st.isSlice
 obtain ⟨ca, cn, cc, rfl⟩ := hd.calls.isSlice
 obtain ⟨ta, tc, rfl, htc, _⟩ := id hd.truth
 have hl8 : ts.length <= 8 := by have := hd.true.1; have := hd.few; omega
 have h6 := hd.true.bnd hd.ok
 have hs6 : ∀ t ∈ start, 0 <= t /\ t < 6 := fun t ht => by
  have h1 := hd.ok.2.2.2.2.2.2.1 t ht
  have h2 := hd.ok.2.2.2.1
  omega
 have hsn : sn = start.length := by obtain ⟨_, _, h, _⟩ := hd.st; cases h; rfl
 subst hsn
 have hsl : start.length <= 4 := by
  have h1 := hd.ok.2.2.2.2.1
  have h2 := hd.ok.2.1
  omega
 refine Aqk Tryz.func44 rfl Tryz.ntmps44 (by simp) ?_
 (refine @unH _ ?_; refine zA Azt ?_; (repeat (refine inC ?_; intro hc)); try (refine inK ?_; intro K hK))
 (intro vb hvb; generalize hG : Hp.set _ vb _ = H1; have lH1 := Aqg hG hvb; have vvb := Aqf hG; clear hG)
 have hd1 := hd.le lH1
 ((try (refine @unH _ ?_; refine zX Azt ?_)); (try (refine hK _ _ ?_; clear hK K; (try simp only [nq, ↓reduceIte, Nat.reduceEqDiff]))); refine @unH _ ?_; refine zA Azt ?_; (repeat (refine inC ?_; intro hc)); try (refine inK ?_; intro K hK))
 refine (Akt main H1 places pieces _ _ _ start xss ts hd1).runs.mono ?_
 rintro _ H2 ⟨db0, mb0, rfl, lH2, _, _, _, _, _⟩
 have hd2 := hd1.le lH2
 have vvb2 := lH2 _ _ vvb
 have l02 := Hp.le_trans lH1 lH2
 clear vvb hvb lH1 lH2 hd1
 ((try (refine @unH _ ?_; refine zX Azt ?_)); (try (refine hK _ _ ?_; clear hK K; (try simp only [nq, ↓reduceIte, Nat.reduceEqDiff]))); refine @unH _ ?_; refine zA Azt ?_; (repeat (refine inC ?_; intro hc)); try (refine inK ?_; intro K hK))
 have hlo1 : 1 <= loP start := by unfold loP; split <;> omega
 have hlo2 : start.length <= loP start := by unfold loP; split <;> omega
 have hlo4 : loP start <= 4 := by unfold loP; split <;> omega
 have hloV : Value.int .i64 (if (1 : Int) < (start.length : Int) then (start.length : Int) else 1) = .int .i64 ((loP start : Nat) : Int) := by
  congr 1
  unfold loP
  split <;> split <;> omega
 rw [hloV]
 clear hloV
 refine Axe (fun w a' H' => ∃ e, ∃ n : Nat, w = 7 - n /\ 1 <= n /\ start.length <= n /\ n <= 7 /\ a' = act 52 e [] /\ e 1 = .slice ta ts.length tc /\ e 2 = .int .i64 fetched /\ e 3 = .pointer (some ⟨vb, 0, none⟩) /\ e 10 = .int .i64 (n : Nat) /\
  H' vb = some (true, .cells #[.int .i64 places, .int .i64 pieces, .slice sa start.length sc, .slice ca cn cc] 25 (0, 0)) /\ Lex none H H' /\ Ay7 start ts fetched = plF (fun n => decide (fewF n start ts <= fetched)) (7 - n) (n : Nat)) (n := 7 - loP start) ?_ ?_
 ·exact ⟨_, loP start, rfl, hlo1, hlo2, by omega, rfl, rfl, rfl, rfl, rfl, vvb2, Lex.of l02, rfl⟩
 ·clear hlo1 hlo2 hlo4 vvb2 hd2
  rintro w a' H3 ⟨e, n, rfl, hn1, hnl, hn7, rfl, e1, e2, e3, e10, vvb3, lex3, hpl⟩
  have hd3 := hd.le lex3.toLe
  by_cases hlt : n <= 6
  ·have hstep : plF (fun n => decide (fewF n start ts <= fetched)) (7 - n) (n : Nat) = if decide (fewF n start ts <= fetched) = true then some (n : Int) else plF (fun n => decide (fewF n start ts <= fetched)) (7 - (n + 1)) ((n + 1 : Nat) : Int) := by
    rw [show 7 - n = (7 - (n + 1)) + 1 by omega]
    rfl
   rw [hstep] at hpl
   clear hstep
   have hlate := Dq5 (pl := (n : Int)) ts.length (Nat.le_refl _) (by omega) h6 hs6 (by omega)
   replace hpl : Aqs _ := hpl
   replace hlate : Aqs _ := hlate
   (refine @unH _ ?_; refine zA Azt ?_; (repeat (refine inC ?_; intro hc)); try (refine inK ?_; intro K hK))
   (intro xb hxb; generalize hG : Hp.set _ xb _ = H4; have lH4 := Aqg hG hxb; have vxb := Aqf hG; clear hG)
   have vvb4 := lH4 _ _ vvb3
   have nvx : vb ≠ xb := Ax1 vvb3 hxb
   have nvx' := nvx.symm
   have hxb0 : H xb = none := lex3.gone hxb
   ((try (refine @unH _ ?_; refine zX Azt ?_)); (try (refine hK _ _ ?_; clear hK K; (try simp only [nq, ↓reduceIte, Nat.reduceEqDiff]))); refine @unH _ ?_; refine zA Azt ?_; (repeat (refine inC ?_; intro hc)); try (refine inK ?_; intro K hK))
   generalize hG : Hp.set H4 xb _ = H5
   have vvb5 := Azf hG vvb4 nvx
   have lex5 : Lex none H H5 := by rw [<- hG]; exact (lex3.le lH4).own hxb0
   clear hG
   refine (Ayu main H5 n pieces sa start.length sc ca cn cc ta ts.length tc).runs.mono ?_
   rintro _ H6 ⟨db, mb, rfl, lH6, hdm, hdb, hmb, vdb6, vmb6⟩
   have hmb0 := lex5.gone hmb
   have nvm : vb ≠ mb := Ax1 vvb5 hmb
   have vvb6 := lH6 _ _ vvb5
   have lex6 := lex5.le lH6
   have st6 := hd.st.le lex6.toLe
   have tr6 := hd.truth.le lex6.toLe
   clear hd3 lex3 vvb3 vvb4 vvb5 lH4 vxb hxb hxb0 nvx nvx' lex5 lH6 hdb hmb
   ((try (refine @unH _ ?_; refine zX Azt ?_)); (try (refine hK _ _ ?_; clear hK K; (try simp only [nq, ↓reduceIte, Nat.reduceEqDiff]))); refine @unH _ ?_; refine zA Azt ?_; (repeat (refine inC ?_; intro hc)); try (refine inK ?_; intro K hK))
   refine (Aj8 main H6 db n pieces _ _ _ start mb vdb6 st6 hs6 (by omega)).runs.mono ?_
   rintro _ H7 ⟨rfl, lH7⟩
   have vdb7 := lH7 _ _ vdb6
   have vmb7 := lH7 _ _ vmb6
   have vvb7 := lH7 _ _ vvb6
   have lex7 := lex6.le lH7
   have st7 := st6.le lH7
   have tr7 := tr6.le lH7
   have hm : oOf start < 64 := Ak4 start 0 (by omega) hs6
   clear st6 tr6 lex6 vvb6 vdb6 vmb6 lH7
   ((try (refine @unH _ ?_; refine zX Azt ?_)); (try (refine hK _ _ ?_; clear hK K; (try simp only [nq, ↓reduceIte, Nat.reduceEqDiff]))); refine @unH _ ?_; refine zA Azt ?_; (repeat (refine inC ?_; intro hc)); try (refine inK ?_; intro K hK))
   refine (Ajw main db n pieces _ _ _ ts mb hdm (by omega) h6 _ 0 (oOf start) H7 rfl (by omega) hm vdb7 tr7 (.new vmb7)).runs.mono ?_
   rintro _ H8 ⟨rfl, l8, _⟩
   have vdb8 := l8.keeps vdb7 hdm
   have vvb8 := l8.keeps vvb7 nvm
   have st8 := st7.lexMap l8 vmb7
   have tr8 := tr7.lexMap l8 vmb7
   have lex8 := lex7.free l8 hmb0
   rw [List.drop_zero]
   clear st7 tr7 lex7 vvb7 vdb7 vmb7 l8 hm
   by_cases hP : ((optF ts.length (n : Int) ts (oOf start) : Nat) : Int) <= fetched
   ·have hpl2 : Ay7 start ts fetched = some (n : Int) := by
     have h : Ay7 start ts fetched = if decide (fewF (n : Int) start ts <= fetched) = true then some (n : Int) else _ := hpl
     rw [h, if_pos (show decide (fewF (n : Int) start ts <= fetched) = true from decide_eq_true hP)]
    clear hpl hlate
    replace hpl2 : Aqs _ := hpl2
    ((try (refine @unH _ ?_; refine zX Azt ?_)); (try (refine hK _ _ ?_; clear hK K; (try simp only [nq, ↓reduceIte, Nat.reduceEqDiff]))); refine @unH _ ?_; refine zA Azt ?_; (repeat (refine inC ?_; intro hc)); try (refine inK ?_; intro K hK))
    (refine @unH _ ?_; refine zB Tryz.results44 ?_)
    rw [show Ay7 start ts fetched = _ from hpl2]
    exact ⟨rfl, lex8.toLe⟩
   ·have hpl2 : Ay7 start ts fetched = plF (fun n => decide (fewF n start ts <= fetched)) (7 - (n + 1)) ((n + 1 : Nat) : Int) := by
     have h : Ay7 start ts fetched = if decide (fewF (n : Int) start ts <= fetched) = true then some (n : Int) else plF (fun n => decide (fewF n start ts <= fetched)) (7 - (n + 1)) ((n + 1 : Nat) : Int) := hpl
     rw [h, if_neg (by rw [decide_eq_true_eq]; exact hP)]
    have hw := By3 main H8 db n pieces _ _ _ ts mb vdb8 tr8 start st8 hs6 (by omega) hl8 h6 3 (by omega) (by omega) fetched hf0
    rw [show (rrun (n : Int) 3 ts (rs0 start) ts.length).f = optF ts.length (n : Int) ts (oOf start) from hlate, decide_eq_false hP, Dkf] at hw
    clear hpl hlate
    replace hpl2 : Aqs _ := hpl2
    replace hw : Aqs _ := hw
    ((try (refine @unH _ ?_; refine zX Azt ?_)); (try (refine hK _ _ ?_; clear hK K; (try simp only [nq, ↓reduceIte, Nat.reduceEqDiff]))); refine @unH _ ?_; refine zA Azt ?_; (repeat (refine inC ?_; intro hc)); try (refine inK ?_; intro K hK))
    refine (show FnX _ _ _ _ _ _ from hw).runs.mono ?_
    rintro _ H9 ⟨rfl, lH9⟩
    have vvb9 := lH9 _ _ vvb8
    ((try (refine @unH _ ?_; refine zX Azt ?_)); (try (refine hK _ _ ?_; clear hK K; (try simp only [nq, ↓reduceIte, Nat.reduceEqDiff]))); refine @unH _ ?_; refine zA Azt ?_; (repeat (refine inC ?_; intro hc)); try (refine inK ?_; intro K hK))
    exact ⟨7 - (n + 1), by omega, _, n + 1, rfl, by omega, by omega, by omega, rfl, e1, e2, e3, rfl, vvb9, lex8.le lH9, hpl2⟩
  ·obtain rfl : n = 7 := by omega
   (refine @unH _ ?_; refine zA Azt ?_; (repeat (refine inC ?_; intro hc)); try (refine inK ?_; intro K hK))
   (refine @unH _ ?_; refine zB Tryz.results44 ?_)
   exact ⟨by rw [hpl]; rfl, lex3.toLe⟩
end Go.Proofs.YtgniilnljeedlaaGreatDoor
end
section
namespace Go.Proofs.YtgniilnljeedlaaGreatDoor
open Go Go.X
theorem Cqb {P : Program} {t e : TypeId} {z : Value} {inf : TypeInfo} (hu : P.underlying t = some (.slice e)) (hs : ∀ w, (sizeOf e).run P w = .ok 1 w) (hz : ∀ w, (zeroValue e).run P w = .ok z w) (hzc : z.cells.size = 1)
  (hi : ∀ w, (typeInfo e).run P w = .ok inf w) (hby : inf.bytes <= 1024) (hby0 : 0 < inf.bytes) {H : Hp} {b o n : Nat} {cs : List Value} (hcl : cs.length = n) (hc : ∀ j u, cs[j]? = some u -> H.cell ⟨b, o + j, none⟩ = some u)
  {g og m cap : Nat} {news : List Value} (hl : news.length = m) (hm : 0 < m) (hnews : ∀ j u, news[j]? = some u -> H.cell ⟨g, og + j, none⟩ = some u) (hn : n + m <= 1073741824)
  (ty : TypeId) (cb : Array Bool) (K : Next -> Hp -> Prop) (E : Value -> Hp -> Prop)
  (h : ∀ v' H', RowX none H H' v' e (cs ++ news) -> H.le H' -> K (.value v') H') :
  wpS P (builtin .append #[t, t] ty cb #[.slice (some ⟨b, o, none⟩) n n, .slice (some ⟨g, og, none⟩) m cap]) H K E := by
 have hinf := Awd hi
 simp only [builtin]
 rw [Aqb]
 unfold Builtin.append_
 simp only [List.getElem?_toArray, List.getElem?_cons_zero, List.getElem?_cons_succ]
 rw [Aqb, Aqj hu]
 simp only [Aqb, Axf hs, Aqj hu, Aqi, Bool.false_eq_true, if_false, Builtin.lenOf, Bj3]
 have hfirst : ∀ (K' : Array Value -> Hp -> Prop), wpS P (Builtin.firstCells 1 m (.slice (some ⟨g, og, none⟩) m cap)) H K' E = K' news.toArray H := fun K' => by
  unfold Builtin.firstCells
  exact Azs (by omega) hnews K' E
 have hold : ∀ (K' : Array Value -> Hp -> Prop), wpS P (Builtin.firstCells 1 n (.slice (some ⟨b, o, none⟩) n n)) H K' E = K' cs.toArray H := fun K' => by
  unfold Builtin.firstCells
  exact Azs (by omega) hc K' E
 rw [if_neg (show ¬ n + m <= n by omega)]
 have hnc := Bkt (n + m) n (by omega)
 simp only [Avj hinf]
 rw [if_neg (by intro hh; have := hh.2; simp at this; omega)]
 rw [if_neg (by
  have : Builtin.nextslicecap (n + m) n * inf.bytes <= (2 * (n + m) + 400) * 1024 := Nat.mul_le_mul hnc hby
  omega)]
 simp only [choose, wpS, Question.forced, Bool.false_eq_true, if_false, Question.cut]
 intro t
 simp only [Bxv, hold, Bool.not_false, if_true, hfirst, Ax3 hz, newRow, newObj, Aqb, wpS, Aqi]
 intro b' hb'
 generalize hN : n + m + t % (2 ^ 63 - (n + m)) = N
 have hNge : n + m <= N := by omega
 refine h _ _ ⟨Lex.of (Hp.le_set hb'), .inr ⟨b', _, N, hb', Aqw, ?_, ?_, ?_, fun i u hiu => ?_⟩⟩ (Hp.le_set hb')
 ·rw [List.length_append, hcl, hl]
 ·simp only [Array.size_append, List.size_toArray, Bqa, hzc, hcl, hl]
  omega
 ·rw [List.length_append, hcl, hl]; exact hNge
 ·have hilt : i < (cs ++ news).length := (List.getElem?_eq_some_iff.1 hiu).1
  rw [Array.getElem?_append_left (by simpa using hilt)]
  simpa using hiu
theorem Cqd {P : Program} {t e : TypeId} {z : Value} {inf : TypeInfo} (hu : P.underlying t = some (.slice e)) (hs : ∀ w, (sizeOf e).run P w = .ok 1 w) (hz : ∀ w, (zeroValue e).run P w = .ok z w) (hzc : z.cells.size = 1)
  (hi : ∀ w, (typeInfo e).run P w = .ok inf w) (hby : inf.bytes <= 1024) (hby0 : 0 < inf.bytes) {H₀ H : Hp} {v : Value} {cs news : List Value} (h : RowX none H₀ H v e cs) {g o m cap : Nat} (hl : news.length = m)
  (hg : 0 < m -> (∃ u, H g = some u) /\ rowB v ≠ some g /\ ∀ j u, news[j]? = some u -> H.cell ⟨g, o + j, none⟩ = some u) (h1 : ∀ u ∈ news, one u = true) (hn : cs.length + m <= 1000000)
  (ty : TypeId) (cb : Array Bool) (K : Next -> Hp -> Prop) (E : Value -> Hp -> Prop)
  (h' : ∀ v' H', RowX none H₀ H' v' e (cs ++ news) -> (∀ x u, H x = some u -> rowB v ≠ some x -> H' x = some u) -> K (.value v') H') :
  wpS P (builtin .append #[t, t] ty cb #[v, .slice (some ⟨g, o, none⟩) m cap]) H K E := by
 by_cases hm : m = 0
 ·subst hm
  have hnil : news = [] := List.eq_nil_of_length_eq_zero hl
  subst hnil
  have hv : ∃ va vc, v = .slice va cs.length vc /\ cs.length <= vc := by
   rcases h.2 with ⟨rfl, e⟩ | ⟨b, c, vc, _, _, rfl, _, hc, _⟩
   ·exact ⟨none, 0, by rw [e]; rfl, by rw [e]; exact Nat.le_refl _⟩
   ·exact ⟨_, vc, rfl, hc⟩
  obtain ⟨va, vc, rfl, hvc⟩ := hv
  exact Av7 hu hs _ _ _ _ _ _ _ hvc _ _ (h' _ H (by rw [List.append_nil]; exact h) (fun x u hx _ => hx))
 obtain ⟨⟨ug, hug⟩, hsep, hys⟩ := hg (by omega)
 obtain ⟨hlex, hrow⟩ := h
 rcases hrow with ⟨rfl, rfl⟩ | ⟨b, c, cp, hb0, hb, rfl, hcs, hcap, hget⟩
 ·refine Avo (P := P) hu hs hz hzc hi hby hby0 (H₀ := H) (H := H) (n := 0) (cs := []) (Aj5.nil H e 1) (Hp.le_refl _) (by omega) id hys h1 (by omega) ty cb K E (fun v' H1 H2 hr hl2 => ?_)
  have hle : H.le H2 := fun x u hx => hl2 _ _ (hr.le _ _ hx)
  refine h' v' H2 ⟨hlex.le hle, ?_⟩ (fun x u hx _ => hle _ _ hx)
  rcases hr with ⟨_, hn0, _⟩ | ⟨b', c', cap', hb', rfl, rfl, hs', hl', hn', hg'⟩
  ·omega
  ·refine .inr ⟨b', c', cap', hlex.gone hb', hl2 _ _ (by rw [Axm, if_pos rfl]), by rw [hl', Nat.mul_one], by omega, by omega, hg'⟩
 ·have hgb : g ≠ b := fun e => hsep (by rw [e]; rfl)
  have hD : (fun x => if x = b then none else H x : Hp) b = none := by simp
  have hH : H = Hp.set (fun x => if x = b then none else H x) b (.cells c e (0, 0)) := by
   funext x
   unfold Hp.set
   by_cases e : x = b
   ·subst e; simp [hb]
   ·simp [e]
  refine Avo (P := P) hu hs hz hzc hi hby hby0 (H₀ := fun x => if x = b then none else H x) (H := H) (n := cs.length) (cs := cs) (.inr ⟨b, c, cp, hD, hH, rfl, by omega, by omega, hcap, hget⟩) (Hp.le_refl _) (by omega) (fun h => by simp only [hgb, if_false] at h; exact h) hys h1 (by omega) ty cb K E (fun v' H1 H2 hr hl2 => ?_)
  have hkeep : ∀ x u, x ≠ b -> H x = some u -> H2 x = some u := fun x u hn hx => hl2 _ _ (hr.le _ _ (by simp only [hn, if_false]; exact hx))
  have hlx : Lex none H₀ H2 := fun x u hx => by
   obtain ⟨u', hu', e'⟩ := hlex x u hx
   exact ⟨u', hkeep x u' (fun e => by rw [e, hb0] at hx; cases hx) hu', e'⟩
  rcases hr with ⟨_, hn0, _⟩ | ⟨b', c', cap', hb', rfl, rfl, hs', hl', hn', hg'⟩
  ·omega
  ·have hb2 : H2 b' = some (true, .cells c' e (0, 0)) := hl2 _ _ (by rw [Axm, if_pos rfl])
   have hb'0 : H₀ b' = none := by
    by_cases e : b' = b
    ·rw [e]; exact hb0
    ·simp only [e, if_false] at hb'; exact hlex.gone hb'
   refine h' _ H2 ⟨hlx, .inr ⟨b', c', cap', hb'0, hb2, by rw [hl', Nat.mul_one], by omega, by omega, hg'⟩⟩ (fun x u hx ho => hkeep x _ (fun e => ho (by rw [e]; rfl)) hx)
theorem Dxg {H H' : Hp} (h : H.le H') {a : Addr} {v : Value} (hc : H.cell a = some v) : H'.cell a = some v := by
 unfold Hp.cell at hc ⊢
 cases hb : H a.block with
 | none => rw [hb] at hc; cases hc
 | some x => rw [hb] at hc; rw [h _ _ hb]; exact hc
theorem RowX.rowB_new {t : Option Nat} {H0 H : Hp} {v : Value} {e : TypeId} {cs : List Value} (h : RowX t H0 H v e cs) {b : Nat} (hb : rowB v = some b) : H0 b = none := by
 rcases h.2 with ⟨rfl, _⟩ | ⟨b', c, cap, h0, _, rfl, _⟩
 ·cases hb
 ·simp only [rowB, Option.some.injEq] at hb
  subst hb
  exact h0
theorem Cjp (W : Int -> Int) (l : List Int) (p : Int) : (l ++ [p]).foldl (fun m p => if m < W p then W p else m) 0 = if l.foldl (fun m p => if m < W p then W p else m) 0 < W p then W p else l.foldl (fun m p => if m < W p then W p else m) 0 := by
 rw [List.foldl_append]
 rfl
theorem SlR.vals {H : Hp} {b o n cap : Nat} {xss : List (List Int)} (h : SlR H (.slice (some ⟨b, o, none⟩) n cap) xss) : ∃ vs, Rows H vs xss /\ (∀ j u, vs[j]? = some u -> H.cell ⟨b, o + j, none⟩ = some u) /\ (xss ≠ [] -> ∃ u, H b = some u) := by
 obtain ⟨a, cap', hv, hcap, hx⟩ := h
 cases hv
 refine ⟨(List.range xss.length).map fun j => (H.cell ⟨b, o + j, none⟩).getD undef, ⟨by simp, fun i xs hi => ?_⟩, fun j u hj => ?_, fun hne => ?_⟩
 ·obtain ⟨b', o', p, c, fr, w, ha, hb, hw, hs⟩ := hx i xs hi
  cases ha
  have hil := (List.getElem?_eq_some_iff.1 hi).1
  refine ⟨w, ?_, hs⟩
  rw [List.getElem?_map, List.getElem?_range hil, Option.map_some, cell_of hb, hw]
  rfl
 ·rw [List.getElem?_map] at hj
  by_cases hjl : j < xss.length
  ·rw [List.getElem?_range hjl, Option.map_some, Option.some.injEq] at hj
   obtain ⟨b', o', p, c, fr, w, ha, hb, hw, hs⟩ := hx j xss[j] (List.getElem?_eq_getElem hjl)
   cases ha
   rw [cell_of hb, hw] at hj ⊢
   exact congrArg some hj
  ·rw [List.getElem?_eq_none (by simp; omega)] at hj
   cases hj
 ·obtain ⟨l, hl⟩ := List.exists_mem_of_ne_nil _ hne
  obtain ⟨i, hi, rfl⟩ := List.getElem_of_mem hl
  obtain ⟨b', o', p, c, fr, w, ha, hb, hw, hs⟩ := hx i xss[i] (List.getElem?_eq_getElem hi)
  cases ha
  exact ⟨_, hb⟩
theorem Rows.one {H : Hp} {vs : List Value} {xss : List (List Int)} (h : Rows H vs xss) : ∀ u ∈ vs, one u = true := fun u hu => by
 obtain ⟨i, hi, rfl⟩ := List.getElem_of_mem hu
 obtain ⟨w, h1, h2⟩ := h.2 i _ (List.getElem?_eq_getElem (by rw [<- h.1]; exact hi))
 rw [List.getElem?_eq_getElem hi, Option.some.injEq] at h1
 rw [h1]
 exact h2.one
theorem Rows.take {H : Hp} {vs : List Value} {xss : List (List Int)} (h : Rows H vs xss) (i : Nat) : Rows H (vs.take i) (xss.take i) :=
 ⟨by simp [h.1], fun j xs hj => by
  have hji : j < i := by have := (List.getElem?_eq_some_iff.1 hj).1; simp at this; omega
  rw [List.getElem?_take_of_lt hji] at hj ⊢
  exact h.2 j xs hj⟩
theorem Rows.drop {H : Hp} {vs : List Value} {xss : List (List Int)} (h : Rows H vs xss) (i : Nat) : Rows H (vs.drop i) (xss.drop i) :=
 ⟨by simp [h.1], fun j xs hj => by
  rw [List.getElem?_drop] at hj ⊢
  exact h.2 _ xs hj⟩
theorem Rows.app {H : Hp} {vs ws : List Value} {xss yss : List (List Int)} (h : Rows H vs xss) (h' : Rows H ws yss) : Rows H (vs ++ ws) (xss ++ yss) :=
 ⟨by simp [h.1, h'.1], fun j xs hj => by
  by_cases hlt : j < xss.length
  ·rw [List.getElem?_append_left hlt] at hj
   rw [List.getElem?_append_left (by rw [h.1]; exact hlt)]
   exact h.2 j xs hj
  ·rw [List.getElem?_append_right (by omega)] at hj
   rw [List.getElem?_append_right (by rw [h.1]; omega), h.1]
   exact h'.2 _ xs hj⟩
def Azv (xss : List (List Int)) (i : Nat) (p : Int) : List (List Int) := xss.take i ++ [p] :: xss.drop (i + 1)
theorem Bjk {places pieces : Int} {start : List Int} {xss : List (List Int)} (h : Az7 places pieces start xss) {i : Nat} {l : List Int} (hi : xss[i]? = some l) {p : Int} (hp : p ∈ l) : Az7 places pieces start (Azv xss i p) /\ (Azv xss i p).length = xss.length := by
 have hil := (List.getElem?_eq_some_iff.1 hi).1
 refine ⟨⟨h.1, h.2.1, h.2.2.1, h.2.2.2.1, h.2.2.2.2.1, h.2.2.2.2.2.1, h.2.2.2.2.2.2.1, fun xs hxs => ?_⟩, ?_⟩
 ·rcases List.mem_append.1 hxs with hx | hx
  ·exact h.2.2.2.2.2.2.2 xs (List.mem_of_mem_take hx)
  ·rcases List.mem_cons.1 hx with rfl | hx
   ·have := (h.2.2.2.2.2.2.2 l (List.mem_of_getElem? hi)).2.2 p hp
    exact ⟨by simp, List.pairwise_singleton _ _, fun x hx => by rw [List.mem_singleton.1 hx]; exact this⟩
   ·exact h.2.2.2.2.2.2.2 xs (List.mem_of_mem_drop hx)
 ·simp [Azv]; omega
end Go.Proofs.YtgniilnljeedlaaGreatDoor
end
