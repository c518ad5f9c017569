/- Texts VFet RowPut Known LTin LSurer PVaultSurer SVaultSurer. -/
import Derived.Test.YtgniilnljeedlaaGreatDoorJ23
import Derived.Test.YtgniilnljeedlaaGreatDoorAFactA
import Derived.Test.YtgniilnljeedlaaGreatDoorAFactVB
import Derived.Test.YtgniilnljeedlaaGreatDoorAFactVC
set_option linter.defProp false
set_option linter.unusedSimpArgs false
set_option linter.unusedVariables false
set_option maxRecDepth 100000
set_option maxHeartbeats 2000000
section
namespace Go.Proofs.YtgniilnljeedlaaGreatDoor
open Go Go.X
def y62_108 := And.intro (fun H => Aqx (H := H) (P := Tryz.prog) (h := Tryz.zeroValue61)) (And.intro (fun H => Aqt (H := H) Tryz.underlying25 rfl Tryz.sizeOf25) (And.intro @Dxq (And.intro @Cj5 (And.intro (fun H => Aq1 (H := H) Tryz.sizeOf61) (And.intro @callF104 (And.intro @By4 (And.intro (fun H => Aqx (H := H) (P := Tryz.prog) (h := Tryz.zeroValue120)) (And.intro (fun H => Aq1 (H := H) Tryz.sizeOf120) (And.intro (fun H => Aqh (H := H) Tryz.underlying120 (i := 0) rfl (off := 0) rfl Tryz.sizeOf3) (And.intro (fun H => Aqe (H := H) Tryz.underlying3 rfl) (And.intro (fun H => Aqh (H := H) Tryz.underlying120 (i := 1) rfl (off := 1) rfl Tryz.sizeOf3) @Bx7)))))))))))
theorem vFetches_spec (H : Hp) (places pieces : Int) (sv cv : Value) (start : List Int) (xss : List (List Int)) (hv : Aj1 H places pieces sv cv start xss) (r : Int) (hr0 : 0 <= r) (hr3 : r <= 3) :
  FnX Tryz.prog (.wg Tryz.prog) 62 #[.agg #[.int .i64 places, .int .i64 pieces, sv, cv], .int .i64 r] H fun e H' => e = .returned (.tuple #[.agg #[.int .i64 (bdT (fetF places r start) (Aqy xss)).lo, .int .i64 (bdT (fetF places r start) (Aqy xss)).hi], .int .i64 0]) /\ H.le H' := by
 obtain ⟨sa, sn, sc, rfl⟩ := hv.st.isSlice
 obtain ⟨ca, cc, rfl, hcc, _⟩ := id hv.calls
 refine Aqk Tryz.func62 rfl Tryz.ntmps62 (by simp) ?_
 (refine @unH _ ?_; refine zA y62_108 ?_; (repeat (refine inC ?_; intro hc)); try (refine inK ?_; intro K hK))
 intro vb hvb ob hob
 replace hob : (Hp.set H vb (.cells #[.int .i64 places, .int .i64 pieces, .slice sa sn sc, .slice ca xss.length cc] 25 (0, 0))) ob = none := hob
 generalize hG : Hp.set H vb _ = H1 at hob ⊢
 have lH1 := Aqg hG hvb
 have vvb := Aqf hG
 clear hG
 generalize hG : Hp.set H1 ob _ = H2
 have lH2 := Aqg hG hob
 have vob := Aqf hG
 clear hG
 have l02 := Hp.le_trans lH1 lH2
 have vvb2 := lH2 _ _ vvb
 have h0ob : H ob = none := Hp.le_none lH1 hob
 have hv2 := hv.le l02
 clear vvb hvb hob lH1 lH2
 ((try (refine @unH _ ?_; refine zX y62_108 ?_)); (try (refine hK _ _ ?_; clear hK K; (try simp only [nq, ↓reduceIte, Nat.reduceEqDiff]))); refine @unH _ ?_; refine zA y62_108 ?_; (repeat (refine inC ?_; intro hc)); try (refine inK ?_; intro K hK))
 refine (Cjj _ H2 places pieces _ _ start xss hv2 r hr0 hr3).runs.mono ?_
 rintro _ H3 ⟨rfl, lH3⟩
 have hv3 := hv2.le lH3
 have vvb3 := lH3 _ _ vvb2
 have vob3 := lH3 _ _ vob
 have l03 := Hp.le_trans l02 lH3
 clear vvb2 vob lH3 hv2 l02
 ((try (refine @unH _ ?_; refine zX y62_108 ?_)); (try (refine hK _ _ ?_; clear hK K; (try simp only [nq, ↓reduceIte, Nat.reduceEqDiff]))); refine @unH _ ?_; refine zA y62_108 ?_; (repeat (refine inC ?_; intro hc)); try (refine inK ?_; intro K hK))
 have hov := fun HX (hX : H3.le HX) rb (hrb : HX rb = some (true, .cells #[Azd r] 82 (0, 0))) => Bxb HX places pieces _ _ start xss _ _ (hv3.le hX).st (hv3.le hX).calls hv.ok hv.few (fetches1_measF HX places start hv.stA r hr0 hr3 rb true hrb)
 have hfw := fun HX => vfetches_spec (.wg Tryz.prog) HX r hr0 hr3
 replace hov : Aqz _ := hov
 replace hfw : Aqz _ := hfw
 generalize bdT (fetF places r start) (Aqy xss) = B at *
 obtain ⟨blo, bhi, bsm⟩ := B
 simp only [bdV] at hov
 refine Avi (Q := only fun a' H' => ∃ e' bb, a' = act 28 e' [] /\ e' 4 = .pointer (some ⟨ob, 0, none⟩) /\ e' 8 = .pointer (some ⟨bb, 0, none⟩) /\ H' bb = some (true, .cells #[.int .i64 blo, .int .i64 bhi, .bool bsm] 120 (0, 0)) /\ H' ob = some (true, .cells #[.int .i64 0, .int .i64 0] 61 (0, 0)) /\ H.le H') ?_ ?_
 ·refine Aji (fun HX => H3.le HX) [5] (.take 0 (.free 1 (.two 2 (.two 3 (.one 4 (.one 5 .nil)) 4 (.one 3 (.one 5 .nil))) 4 (.one 2 (.one 3 (.one 5 .nil)))))) (by kernel_rfl) (by kernel_rfl) (by decide) (by kernel_rfl) ?_; intro K hK
  have hle0 : H3.le H3 := Hp.le_refl _
  (apply Aq8 rfl rfl rfl ‹_›; (focus (intro HX hHX; simp -implicitDefEqProofs (disch := first | omega | (simp only [qd] <;> omega)) only [xq, ↓xp, qc, Nat.reduceAdd, List.range, List.range.loop, fine, Nat.reduceEqDiff, ↓reduceIte, yielded, reduceCtorEq, Nat.reduceLT, Nat.reduceMul, Nat.reduceSub, one, Nat.reduceLeDiff, Aqa, y62_108, aq, ↓ap, qe0, qe1, qe2, *, -hK, Aqv, hHX _ _ vvb3] <;> (first | exact rfl | exact ⟨rfl, rfl⟩ | exact ⟨rfl, trivial⟩))); simp -implicitDefEqProofs (disch := first | omega | (simp only [qd] <;> omega)) only [Aqm, Aqc])
  (apply Axo rfl rfl rfl; (focus (intro HX; simp -implicitDefEqProofs (disch := first | omega | (simp only [qd] <;> omega)) only [xq, ↓xp, qc, Nat.reduceAdd, List.range, List.range.loop, fine, Nat.reduceEqDiff, ↓reduceIte, yielded, reduceCtorEq, Nat.reduceLT, Nat.reduceMul, Nat.reduceSub, one, Nat.reduceLeDiff, Aqa, y62_108, aq, ↓ap, qe0, qe1, qe2, *, -hK, Aqv] <;> (first | exact rfl | exact ⟨rfl, rfl⟩ | exact ⟨rfl, trivial⟩))); simp -implicitDefEqProofs (disch := first | omega | (simp only [qd] <;> omega)) only [Aqm, Aqc])
  refine planV_two ?_ ?_
  ·(refine @unH _ ?_; refine zX y62_108 ?_)
   refine ((show ∀ HX, FnX Tryz.prog _ _ _ HX _ from hfw) H3).runs.mono ?_
   rintro _ H4 ⟨rb, rfl, vrb, l34⟩
   (refine @unH _ ?_; refine zX y62_108 ?_)
   refine ⟨.inr (by intro _; first | exact l34 | trivial), planV_two ?_ ?_⟩
   ·(refine @unH _ ?_; refine zX y62_108 ?_)
    refine ((show ∀ HX (hX : H3.le HX) rb (hrb : HX rb = some (true, .cells #[Azd r] 82 (0, 0))), FnX Tryz.prog _ _ _ HX _ from hov) H4 l34 rb vrb).runs.mono ?_
    rintro _ H5 ⟨rfl, l45⟩
    have l35 := Hp.le_trans l34 l45
    (refine @unH _ ?_; refine zX y62_108 ?_)
    refine ⟨.inr (by intro _; first | exact l45 | exact l35 | trivial), Axa ?_⟩
    (refine @unH _ ?_; refine zX y62_108 ?_)
    intro bb hbb
    have vbb : (H5.set bb (.cells #[.int .i64 0, .int .i64 0, .bool false] 120 (0, 0))) bb = _ := Aqw
    refine ⟨.inr (by intro _; first | exact Hp.le_trans l35 (Hp.le_set hbb) | trivial), Axa ?_⟩
    (refine @unH _ ?_; refine zX y62_108 ?_)
    refine ⟨.inl (by decide), Ajg (hK _ _ ?_)⟩
    have nbo := Ax4 (l35 _ _ vob3) hbb
    refine ⟨_, bb, rfl, rfl, rfl, Aqw, (Aqo nbo).trans (l35 _ _ vob3), Hp.le_trans l03 (Hp.le_trans l35 fun b x hx => (Aqo (Ax4 hx hbb)).trans hx)⟩
   ·(refine @unH _ ?_; refine zX y62_108 ?_)
    intro bb hbb
    have lbb := Hp.le_set (o := .cells #[.int .i64 0, .int .i64 0, .bool false] 120 (0, 0)) hbb
    have vbb : (H4.set bb (.cells #[.int .i64 0, .int .i64 0, .bool false] 120 (0, 0))) bb = _ := Aqw
    generalize Hp.set H4 bb _ = H5 at lbb vbb ⊢
    have l35 := Hp.le_trans l34 lbb
    refine ⟨.inr (by intro _; first | exact l35 | exact lbb | trivial), Axa ?_⟩
    (refine @unH _ ?_; refine zX y62_108 ?_)
    refine ((show ∀ HX (hX : H3.le HX) rb (hrb : HX rb = some (true, .cells #[Azd r] 82 (0, 0))), FnX Tryz.prog _ _ _ HX _ from hov) H5 l35 rb (lbb _ _ vrb)).runs.mono ?_
    rintro _ H6 ⟨rfl, l56⟩
    have l36 := Hp.le_trans l35 l56
    have vbb6 := l56 _ _ vbb
    (refine @unH _ ?_; refine zX y62_108 ?_)
    refine ⟨.inr (by intro _; first | exact l36 | exact l56 | trivial), Axa ?_⟩
    (refine @unH _ ?_; refine zX y62_108 ?_)
    refine ⟨.inl (by decide), Ajg (hK _ _ ?_)⟩
    have nbo := Ax4 (l34 _ _ vob3) hbb
    refine ⟨_, bb, rfl, rfl, rfl, Aqw, (Aqo nbo).trans (l36 _ _ vob3), fun b x hx => (Aqo (Ax4 (l34 _ _ (l03 _ _ hx)) hbb)).trans (l36 _ _ (l03 _ _ hx))⟩
  ·(refine @unH _ ?_; refine zX y62_108 ?_)
   intro bb hbb
   have lbb := Hp.le_set (o := .cells #[.int .i64 0, .int .i64 0, .bool false] 120 (0, 0)) hbb
   have vbb : (H3.set bb (.cells #[.int .i64 0, .int .i64 0, .bool false] 120 (0, 0))) bb = _ := Aqw
   generalize Hp.set H3 bb _ = H4 at lbb vbb ⊢
   refine ⟨.inr (by intro _; first | exact lbb | trivial), Axa ?_⟩
   (refine @unH _ ?_; refine zX y62_108 ?_)
   refine ((show ∀ HX, FnX Tryz.prog _ _ _ HX _ from hfw) H4).runs.mono ?_
   rintro _ H5 ⟨rb, rfl, vrb, l45⟩
   have l35 := Hp.le_trans lbb l45
   (refine @unH _ ?_; refine zX y62_108 ?_)
   refine ⟨.inr (by intro _; first | exact l35 | exact l45 | trivial), Axa ?_⟩
   (refine @unH _ ?_; refine zX y62_108 ?_)
   refine ((show ∀ HX (hX : H3.le HX) rb (hrb : HX rb = some (true, .cells #[Azd r] 82 (0, 0))), FnX Tryz.prog _ _ _ HX _ from hov) H5 l35 rb vrb).runs.mono ?_
   rintro _ H6 ⟨rfl, l56⟩
   have l36 := Hp.le_trans l35 l56
   have vbb6 := l56 _ _ (l45 _ _ vbb)
   (refine @unH _ ?_; refine zX y62_108 ?_)
   refine ⟨.inr (by intro _; first | exact l36 | exact l56 | trivial), Axa ?_⟩
   (refine @unH _ ?_; refine zX y62_108 ?_)
   refine ⟨.inl (by decide), Ajg (hK _ _ ?_)⟩
   have nbo := Ax4 vob3 hbb
   refine ⟨_, bb, rfl, rfl, rfl, Aqw, (Aqo nbo).trans (l36 _ _ vob3), fun b x hx => (Aqo (Ax4 (l03 _ _ hx) hbb)).trans (l36 _ _ (l03 _ _ hx))⟩
 ·intro e a' H' q
  cases e with
  | normal =>
   obtain ⟨e', bb, rfl, e4, e8, vbb4, vob4, l04⟩ := q
   have nbo : ob ≠ bb := fun e => by rw [e, vbb4] at vob4; simp at vob4
   (refine @unH _ ?_; refine zA y62_108 ?_; (repeat (refine inC ?_; intro hc)); try (refine inK ?_; intro K hK))
   (refine Ax3 ?_; (try simp only [nq, ↓reduceIte, Nat.reduceEqDiff]); rw [Axn, results_cell_tmp Tryz.results62 (by decide) (by decide) (b := ob) (o := 0) ?hcell Tryz.underlying61 rfl Tryz.sizeOf61]; (case hcell => exact e4); simp -implicitDefEqProofs (disch := first | omega | (simp only [qd] <;> omega)) only [xq, ↓xp, qc, Nat.reduceAdd, List.range, List.range.loop, fine, Nat.reduceEqDiff, ↓reduceIte, yielded, reduceCtorEq, Nat.reduceLT, Nat.reduceMul, Nat.reduceSub, one, Nat.reduceLeDiff, Aqa, y62_108, Ajf])
   exact fun b x hx => by
    rw [Aqo (fun h => by rw [h, h0ob] at hx; cases hx)]
    exact l04 _ _ hx
  | _ => exact q.elim
theorem RowX.put {H0 H : Hp} {v : Value} {e : TypeId} {cs : List Value} (h : RowX none H0 H v e cs) {i : Nat} (hi : i < cs.length) : ∃ (b : Nat) (c : Array Value) (cap : Nat), v = .slice (some ⟨b, 0, none⟩) cs.length cap /\ H0 b = none /\ H b = some (true, .cells c e (0, 0)) /\ cs.length <= cap /\ i < c.size /\ c[i]? = cs[i]? /\ ∀ w, RowX none H0 (H.set b (.cells (c.setIfInBounds i w) e (0, 0))) v e (cs.set i w) := by
 rcases h.2 with ⟨_, rfl⟩ | ⟨b, c, cap, h0, h1, rfl, h3, h4, h5⟩
 ·simp at hi
 ·refine ⟨b, c, cap, rfl, h0, h1, h4, by omega, ?_, fun w => ⟨h.1.own h0, .inr ⟨b, c.setIfInBounds i w, cap, h0, Aqw, by rw [List.length_set], by rw [Array.size_setIfInBounds]; exact h3, by rw [List.length_set]; exact h4, fun j u hj => ?_⟩⟩⟩
  ·rw [List.getElem?_eq_getElem hi]
   exact h5 i _ (List.getElem?_eq_getElem hi)
  ·by_cases e : i = j
   ·subst e
    rw [List.getElem?_set_self hi] at hj
    rw [Array.getElem?_setIfInBounds_self_of_lt (by omega)]
    exact hj
   ·rw [List.getElem?_set_ne e] at hj
    rw [Array.getElem?_setIfInBounds_ne e]
    exact h5 j u hj
theorem RowX.other {H0 H : Hp} {v : Value} {e : TypeId} {cs : List Value} (h : RowX none H0 H v e cs) {b : Nat} {o : Obj} (h0 : H0 b = none) (hb : rowB v ≠ some b) : RowX none H0 (H.set b o) v e cs := by
 refine ⟨h.1.own h0, h.2.imp id ?_⟩
 rintro ⟨b', c, cap, h0', h1, rfl, h3, h4, h5⟩
 exact ⟨b', c, cap, h0', (Aqo (fun e => hb (by rw [<- e]; rfl))).trans h1, rfl, h3, h4, h5⟩
def y53_119 := And.intro (fun H => Aqx (H := H) (P := Tryz.prog) (h := Tryz.zeroValue25)) (And.intro (fun H => Bqc (H := H) Tryz.underlying23 Tryz.sizeOf22) (And.intro (fun H => Aqh (H := H) Tryz.underlying25 (i := 3) rfl (off := 3) rfl Tryz.sizeOf23) (And.intro (fun H => Aqe (H := H) Tryz.underlying23 rfl) (And.intro (fun H => Ajv (H := H) Tryz.sizeOf23) (And.intro @Axr (And.intro (fun H => Aqq (H := H) Tryz.underlying23 Tryz.sizeOf22) (And.intro (fun H => Ajv (H := H) Tryz.sizeOf22) (And.intro (fun H => Aqt (H := H) Tryz.underlying25 rfl Tryz.sizeOf25) (fun H => Aq1 (H := H) Tryz.sizeOf25)))))))))
theorem Rows.put {H : Hp} {vs : List Value} {xss : List (List Int)} (h : Rows H vs xss) {i : Nat} (hi : i < xss.length) {w : Value} {p : Int} (hw : SlI H w [p]) : Rows H (vs.set i w) (Azr xss i p) := by
 have e : Azr xss i p = xss.set i [p] := by unfold Azr; rw [List.set_eq_take_append_cons_drop, if_pos hi]
 rw [e]
 refine ⟨by rw [List.length_set, List.length_set]; exact h.1, fun j xs hx => ?_⟩
 by_cases hij : i = j
 ·subst hij
  rw [List.getElem?_set_self hi] at hx
  cases hx
  exact ⟨w, List.getElem?_set_self (by rw [h.1]; exact hi), hw⟩
 ·rw [List.getElem?_set_ne hij] at hx
  obtain ⟨u, h1, h2⟩ := h.2 j xs hx
  exact ⟨u, by rw [List.getElem?_set_ne hij]; exact h1, h2⟩
theorem known_spec (m : Md) (H : Hp) (places pieces : Int) (sa : Option Addr) (sn sc : Nat) (cv : Value) (xss : List (List Int)) (hc : SlR H cv xss) (h8 : xss.length <= 1000) (i : Nat) (hi : i < xss.length) (p : Int) :
  FnX Tryz.prog m 53 #[.agg #[.int .i64 places, .int .i64 pieces, .slice sa sn sc, cv], .int .i64 (i : Nat), .int .i64 p] H fun e H' => ∃ w, e = .returned (.agg #[.int .i64 places, .int .i64 pieces, .slice sa sn sc, w]) /\ H.le H' /\ SlR H' w (Azr xss i p) := by
 have hcS := hc
 obtain ⟨ca, cc, rfl, hcc, _⟩ := hc
 obtain ⟨cb, co, _, _, _, _, rfl, _⟩ := SlR.get hcS (List.getElem?_eq_getElem hi)
 obtain ⟨vs, hrows, hcells, hex⟩ := hcS.vals
 obtain ⟨u0, hu0⟩ := hex (fun h => by rw [h] at hi; simp at hi)
 have hvl := hrows.1
 replace hvl : Aqz _ := hvl
 replace hcells : Aqz _ := hcells
 refine Aqk Tryz.func53 rfl Tryz.ntmps53 (by simp) ?_
 (refine @unH _ ?_; refine zA y53_119 ?_; (repeat (refine inC ?_; intro hc)); try (refine inK ?_; intro K hK))
 intro vb hvb ob hob
 replace hob : (Hp.set H vb (.cells #[.int .i64 places, .int .i64 pieces, .slice sa sn sc, .slice (some ⟨cb, co, none⟩) xss.length cc] 25 (0, 0))) ob = none := hob
 generalize hG : Hp.set H vb _ = H1 at hob ⊢
 have lH1 := Aqg hG hvb
 have vvb := Aqf hG
 clear hG
 generalize hG : Hp.set H1 ob _ = H2
 have lH2 := Aqg hG hob
 have vob2 := Aqf hG
 clear hG
 have l02 := Hp.le_trans lH1 lH2
 have vvb2 := lH2 _ _ vvb
 have h0ob : H ob = none := Hp.le_none lH1 hob
 have hvo : vb ≠ ob := Ax4 vvb hob
 clear vvb hob lH1 lH2
 ((try (refine @unH _ ?_; refine zX y53_119 ?_)); (try (refine hK _ _ ?_; clear hK K; (try simp only [nq, ↓reduceIte, Nat.reduceEqDiff]))); refine @unH _ ?_; refine zA y53_119 ?_; (repeat (refine inC ?_; intro hc)); try (refine inK ?_; intro K hK))
 intro g hg
 generalize hG : Hp.set H2 g _ = H3
 have lH3 := Aqg hG hg
 have vg := Aqf hG
 clear hG
 have hrow3 : RowX none H2 H3 (.slice (some ⟨g, 0, none⟩) 0 0) 22 [] := ⟨Lex.of lH3, .inr ⟨g, #[], 0, hg, vg, rfl, rfl, Nat.le_refl _, fun i u h => by simp at h⟩⟩
 have hvg : vb ≠ g := Ax4 vvb2 hg
 refine ⟨.slice (some ⟨cb, co, none⟩) xss.length cc, by rw [if_neg hvg]; rfl, ?_⟩
 refine Byv Tryz.underlying23 Tryz.sizeOf22 Tryz.zeroValue22 rfl Tryz.typeInfo22 (by decide) (by decide) hrow3 (news := vs) hrows.1 (fun hm => ⟨⟨u0, lH3 _ _ (l02 _ _ hu0)⟩, fun h => ?_, fun j u hj => Dqe (Hp.le_trans l02 lH3) ((show ∀ j u, vs[j]? = some u -> H.cell ⟨cb, co + j, none⟩ = some u from hcells) j u hj)⟩) (fun u hu => hrows.one u hu) (by simp only [List.length_nil]; omega) _ _ _ _ (fun v4 H4 hrow4 hkeep => ?_)
 ·simp only [rowB, Option.some.injEq] at h
  subst h
  have := l02 _ _ hu0
  rw [hg] at this
  cases this
 rw [List.nil_append] at hrow4
 have vvb4 := hrow4.1.toLe _ _ vvb2
 have vob4 := hrow4.1.toLe _ _ vob2
 have hrow := hrow4.base (Lex.of l02)
 obtain ⟨ya, yc, rfl⟩ := hrow.len
 clear hrow3 hrow4 hkeep vg hg lH3 vvb2 vob2 hcells
 generalize hyl : vs.length = yl at *
 ((try (refine @unH _ ?_; refine zX y53_119 ?_)); (try (refine hK _ _ ?_; clear hK K; (try simp only [nq, ↓reduceIte, Nat.reduceEqDiff]))); refine @unH _ ?_; refine zA y53_119 ?_; (repeat (refine inC ?_; intro hc)); try (refine inK ?_; intro K hK))
 intro nb hnb
 replace hnb : (Hp.set H4 vb (.cells #[.int .i64 places, .int .i64 pieces, .slice sa sn sc, .slice ya yl yc] 25 (0, 0))) nb = none := hnb
 have hrow5 := hrow.other (o := .cells #[.int .i64 places, .int .i64 pieces, .slice sa sn sc, .slice ya yl yc] 25 (0, 0)) hvb (hrow.rowB_ne fun c fr h => by rw [vvb4] at h; cases h)
 generalize hG : Hp.set H4 vb _ = H5 at *
 have vvb5 := Aqf hG
 have vob5 := Azb hG vob4 hvo.symm
 clear hG hrow vvb4 vob4
 generalize hG : Hp.set H5 nb _ = H6
 have lH6 := Aqg hG hnb
 have vnb6 := Aqf hG
 clear hG
 have vvb6 := lH6 _ _ vvb5
 have vob6 := lH6 _ _ vob5
 have hrow6 := hrow5.le lH6
 clear vvb5 vob5 hrow5 lH6 hnb
 have hiy : i < yl := by have h1 : yl = xss.length := hvl; omega
 obtain ⟨yb, c, cap, hve, h0y, hyb6, _, hsz, _, hput⟩ := hrow6.put (i := i) (by omega)
 simp only [Value.slice.injEq] at hve
 obtain ⟨rfl, hq, rfl⟩ := hve
 clear hq
 have hput := hput (.slice (some ⟨nb, 0, none⟩) 1 1)
 have hrn : SlI H6 (.slice (some ⟨nb, 0, none⟩) 1 1) [p] := Ajn (xs := [p]) vnb6 rfl
 have hrs : Rows H6 vs xss := hrows.mono fun v xs h => h.le hrow6.1.toLe
 have hnew := hrs.put hi hrn
 have hvy : vb ≠ yb := fun e => by rw [e, hyb6] at vvb6; cases vvb6
 have hoy : ob ≠ yb := fun e => by rw [e, hyb6] at vob6; cases vob6
 clear hrs hrn vnb6 hrow6 hrows hex hcS hu0
 replace hput : Aqz _ := hput
 replace hnew : Aqz _ := hnew
 (refine @unH _ ?_; refine zX y53_119 ?_)
 generalize hG : Hp.set H6 yb _ = H7 at *
 have vvb7 := Azb hG vvb6 hvy
 have vob7 := Azb hG vob6 hoy
 have hnew7 : Rows H7 (vs.set i (.slice (some ⟨nb, 0, none⟩) 1 1)) (Azr xss i p) := by
  refine (show Rows H6 _ _ from hnew).mono fun v xs h => h.move fun x q c' fr hx => ?_
  exact Azb hG hx (fun e => by rw [e, hyb6] at hx; cases hx)
 have hput7 : RowX none H H7 _ _ _ := hput
 clear hG vvb6 vob6 hyb6 hput hnew hvy hoy
 replace hnew7 : Aqz (Rows H7 (vs.set i (.slice (some ⟨nb, 0, none⟩) 1 1)) (Azr xss i p)) := hnew7
 ((try (refine @unH _ ?_; refine zX y53_119 ?_)); (try (refine hK _ _ ?_; clear hK K; (try simp only [nq, ↓reduceIte, Nat.reduceEqDiff]))); refine @unH _ ?_; refine zA y53_119 ?_; (repeat (refine inC ?_; intro hc)); try (refine inK ?_; intro K hK))
 generalize hG : Hp.set H7 ob _ = H8
 have vob8 := Aqf hG
 have hput8 : RowX none H H8 (.slice (some ⟨yb, 0, none⟩) yl yc) 22 (vs.set i (.slice (some ⟨nb, 0, none⟩) 1 1)) := by rw [<- hG]; exact hput7.other h0ob (hput7.rowB_ne fun c fr h => by rw [vob7] at h; cases h)
 have hnew8 : Rows H8 (vs.set i (.slice (some ⟨nb, 0, none⟩) 1 1)) (Azr xss i p) := (show Rows H7 _ _ from hnew7).mono fun v xs h => h.move fun x q c' fr hx => Azb hG hx (fun e => by rw [e, vob7] at hx; cases hx)
 clear hG
 (refine Ax3 ?_; (try simp only [nq, ↓reduceIte, Nat.reduceEqDiff]); rw [Axn, Azl Tryz.results53 (by decide) (b := ob) (o := 0) rfl Tryz.underlying25 rfl Tryz.sizeOf25]; simp -implicitDefEqProofs (disch := first | omega | (simp only [qd] <;> omega)) only [xq, ↓xp, qc, Nat.reduceAdd, List.range, List.range.loop, fine, Nat.reduceEqDiff, ↓reduceIte, yielded, reduceCtorEq, Nat.reduceLT, Nat.reduceMul, Nat.reduceSub, one, Nat.reduceLeDiff, Aqa, y53_119, Ajj vob8])
 exact ⟨_, rfl, hput8.1.toLe, hput8.rows hnew8⟩
theorem Awt.move {H H' : Hp} {places pieces : Int} {sv cv tv : Value} {start ts : List Int} {xss : List (List Int)} (h : Awt H places pieces sv cv tv start xss ts) (hk : ∀ x p c fr e, (e = 3 ∨ e = 22) -> H x = some (p, .cells c e fr) -> H' x = some (p, .cells c e fr)) : Awt H' places pieces sv cv tv start xss ts :=
 ⟨h.st.move fun x p c fr hx => hk x p c fr _ (.inl rfl) hx, h.calls.move fun x p c fr e he hx => hk x p c fr e he hx, h.truth.move fun x p c fr hx => hk x p c fr _ (.inl rfl) hx, h.ok, h.few, h.true⟩
theorem Awt.tin {H : Hp} {b k : Nat} {o : Obj} {places pieces : Int} {sv cv tv : Value} {start ts : List Int} {xss : List (List Int)} (h : Awt H places pieces sv cv tv start xss ts) (hT : TinI H b k) : Awt (H.set b o) places pieces sv cv tv start xss ts :=
 h.move fun x p c fr e he hx => by
  obtain ⟨sa, sl, sc, g, st, h1, _⟩ := hT
  rw [Aqo (fun e' => ?_)]
  ·exact hx
  ·rw [e', h1] at hx
   simp only [Option.some.injEq, Prod.mk.injEq, Obj.cells.injEq] at hx
   rcases he with he | he <;> (rw [he] at hx; exact absurd hx.2.2.1 (by decide))
end Go.Proofs.YtgniilnljeedlaaGreatDoor
end
section
namespace Go.Proofs.YtgniilnljeedlaaGreatDoor
open Go Go.X
def y17_133 := And.intro @callF23 (And.intro @callF46 (And.intro (fun H => Aqx (H := H) (P := Tryz.prog) (h := Tryz.zeroValue25)) (And.intro (fun H => Aq1 (H := H) Tryz.sizeOf25) (And.intro (fun H => Aqh (H := H) Tryz.underlying25 (i := 3) rfl (off := 3) rfl Tryz.sizeOf23) (And.intro (fun H => Aqe (H := H) Tryz.underlying23 rfl) (And.intro (fun H => Aq4 (H := H) Tryz.underlying23) (And.intro (fun H => Aqt (H := H) Tryz.underlying25 rfl Tryz.sizeOf25) (And.intro (fun H => Aqq (H := H) Tryz.underlying23 Tryz.sizeOf22) (And.intro (fun H => Aqe (H := H) Tryz.underlying22 rfl) (And.intro @Cj9 (And.intro @callF53 (And.intro @Dxf (And.intro (fun H => Aqx (H := H) (P := Tryz.prog) (h := Tryz.zeroValue61)) (And.intro (fun H => Aq1 (H := H) Tryz.sizeOf61) (And.intro (fun H => Aqh (H := H) Tryz.underlying61 (i := 0) rfl (off := 0) rfl Tryz.sizeOf3) (And.intro (fun H => Aqe (H := H) Tryz.underlying3 rfl) (And.intro (fun H => Aqh (H := H) Tryz.underlying61 (i := 1) rfl (off := 1) rfl Tryz.sizeOf3) (And.intro @callF62 (And.intro @callF55 @callF22)))))))))))))))))))
theorem known_sub {xss : List (List Int)} {i : Nat} {l : List Int} (hi : xss[i]? = some l) {p : Int} (hp : p ∈ l) : ∀ ts ∈ Aqy (Azr xss i p), ts ∈ Aqy xss := fun ts ht => by
 rw [Bqm] at ht ⊢
 have hlt : i < xss.length := (List.getElem?_eq_some_iff.1 hi).1
 have e : Azr xss i p = xss.set i [p] := by unfold Azr; rw [List.set_eq_take_append_cons_drop, if_pos hlt]
 rw [e] at ht
 refine ⟨by rw [ht.1, List.length_set], fun j t xs h1 h2 => ?_⟩
 by_cases hij : i = j
 ·subst hij
  rw [hi] at h2
  cases h2
  have := ht.2 i t [p] h1 (List.getElem?_set_self hlt)
  rw [List.mem_singleton.1 this]
  exact hp
 ·exact ht.2 j t xs h1 (by rw [List.getElem?_set_ne hij]; exact h2)
theorem bdT_sub (F : List Int -> Int) {L L' : List (List Int)} (hn : L ≠ []) (hs : ∀ t ∈ L, t ∈ L') : (bdT F L').lo <= (bdT F L).lo /\ (bdT F L).hi <= (bdT F L').hi := by
 have hn' : L' ≠ [] := fun e => by
  obtain ⟨t, ht⟩ := List.exists_mem_of_ne_nil _ hn
  have := hs t ht
  rw [e] at this
  cases this
 obtain ⟨_, ⟨t, ht, e1⟩, ⟨t', ht', e2⟩, _⟩ := Cj1 F L hn
 obtain ⟨_, _, _, h4⟩ := Cj1 F L' hn'
 exact ⟨(h4 _ ⟨t, hs t ht, e1⟩).1, (h4 _ ⟨t', hs t' ht', e2⟩).2⟩
structure SurA (H : Hp) (tb k vb : Nat) (places pieces : Int) (sv cv tv : Value) (start : List Int) (xss : List (List Int)) (ts : List Int) : Prop where
 d : Awt H places pieces sv cv tv start xss ts
 v : H vb = some (true, .cells #[.int .i64 places, .int .i64 pieces, sv, cv] 25 (0, 0))
 t : TinI H tb k
section
variable {H H' : Hp} {tb k vb : Nat} {places pieces : Int} {sv cv tv : Value} {start : List Int} {xss : List (List Int)} {ts : List Int}
theorem SurA.le (h : SurA H tb k vb places pieces sv cv tv start xss ts) (hl : H.le H') : SurA H' tb k vb places pieces sv cv tv start xss ts := ⟨h.d.le hl, hl _ _ h.v, h.t.le hl⟩
theorem SurA.tin (h : SurA H tb (k + 1) vb places pieces sv cv tv start xss ts) {o : Obj} (hT : TinI (H.set tb o) tb k) : SurA (H.set tb o) tb k vb places pieces sv cv tv start xss ts :=
 ⟨h.d.tin h.t, (Aqo (fun e => by obtain ⟨_, _, _, _, _, h1, _⟩ := h.t; have := h.v; rw [e, h1] at this; cases this)).trans h.v, hT⟩
theorem other_set {b : Nat} {c : Array Value} {fr : Nat × Nat} {e : TypeId} {o : Obj} (hx : H b = some (true, .cells c e fr)) : Other e H (H.set b o) := fun y p u hy h => (Aqo (fun e' => by
 rw [e', hx] at hy
 cases hy
 rcases h with h | h
 ·cases h
 ·exact h _ _ rfl)).trans hy
theorem SurA.put (h : SurA H tb k vb places pieces sv cv tv start xss ts) {b : Nat} {c : Array Value} {fr : Nat × Nat} {o : Obj} (hx : H b = some (true, .cells c 25 fr)) (hn : vb ≠ b) : SurA (H.set b o) tb k vb places pieces sv cv tv start xss ts :=
 ⟨h.d.move fun x p c fr e he hy => (other_set hx).cells hy (by rcases he with rfl | rfl <;> decide), (Aqo hn).trans h.v, (other_set hx).tin (by decide) h.t⟩
end
theorem lsurer_spec (H : Hp) (sa : Option Addr) (sl sc : Nat) (hs : ∀ i : Nat, i < sl -> ∃ sb so c e fr x, sa = some ⟨sb, so, none⟩ /\ H sb = some (false, .cells c e fr) /\ c[so + i]? = some (.int .i64 x)) :
  FnX Tryz.prog (.wg Tryz.prog) 17 #[.slice sa sl sc] H fun e _ => e = .returned (.bool true) := by
 refine Aqk Tryz.func17 rfl Tryz.ntmps17 (by simp) ?_
 repeat' (first
 | (refine Axl rfl ?_; intro K hK; simp -implicitDefEqProofs (disch := first | omega | (simp only [qd] <;> omega)) only [xq, ↓xp, qc, Nat.reduceAdd, List.range, List.range.loop, fine, Nat.reduceEqDiff, ↓reduceIte, yielded, reduceCtorEq, Nat.reduceLT, Nat.reduceMul, Nat.reduceSub, one, Nat.reduceLeDiff, Aqa, y17_133, aq, ↓ap, qe0, qe1, qe2, *, -hK]; try (refine hK _ _ ?_; clear hK K))
 | (refine Axw rfl ?_; intro K hK; simp -implicitDefEqProofs (disch := first | omega | (simp only [qd] <;> omega)) only [xq, ↓xp, qc, Nat.reduceAdd, List.range, List.range.loop, fine, Nat.reduceEqDiff, ↓reduceIte, yielded, reduceCtorEq, Nat.reduceLT, Nat.reduceMul, Nat.reduceSub, one, Nat.reduceLeDiff, Aqa, y17_133, aq, ↓ap, qe0, qe1, qe2, *, -hK]; try (refine hK _ _ ?_; clear hK K; (try simp only [nq, ↓reduceIte, Nat.reduceEqDiff])))
 | (refine Aqu ?_; (try simp only [nq, ↓reduceIte, Nat.reduceEqDiff]))
 | (refine Axv ?_; (try simp only [nq, ↓reduceIte, Nat.reduceEqDiff]))
 | (refine Aq7 ?_; (try simp only [nq, ↓reduceIte, Nat.reduceEqDiff]))
 | (refine Azc ?_; (try simp only [nq, ↓reduceIte, Nat.reduceEqDiff]))
 | (refine Ax0 (by simp only [Aqn, Aqr, Nat.reduceEqDiff, Nat.reduceLT, ↓reduceIte, *]; rfl) ?_ ?_ <;> (intro hc; first | (exfalso; simp -implicitDefEqProofs (disch := omega) only [*, bq, reduceCtorEq] at hc; done) | (simp only [dq, qe3, qe4, qe5, qe6] at hc) | skip))
 | (refine Axp ?_)
 | (refine Aqp ?_)
 | (refine Aql ?_))
 refine (newTin_spec _ H sa sl sc hs 240 (by omega)).runs.mono ?_
 rintro _ H1 ⟨tb, rfl, l1, hT⟩
 (try simp -implicitDefEqProofs (disch := first | omega | (simp only [qd] <;> omega)) only [xq, ↓xp, qc, Nat.reduceAdd, List.range, List.range.loop, fine, Nat.reduceEqDiff, ↓reduceIte, yielded, reduceCtorEq, Nat.reduceLT, Nat.reduceMul, Nat.reduceSub, one, Nat.reduceLeDiff, Aqa, y17_133, aq, ↓ap, qe0, qe1, qe2, *, -hK]); try (refine hK _ _ ?_; clear hK K; (try simp only [nq, ↓reduceIte, Nat.reduceEqDiff])); repeat' (first
 | (refine Axl rfl ?_; intro K hK; simp -implicitDefEqProofs (disch := first | omega | (simp only [qd] <;> omega)) only [xq, ↓xp, qc, Nat.reduceAdd, List.range, List.range.loop, fine, Nat.reduceEqDiff, ↓reduceIte, yielded, reduceCtorEq, Nat.reduceLT, Nat.reduceMul, Nat.reduceSub, one, Nat.reduceLeDiff, Aqa, y17_133, aq, ↓ap, qe0, qe1, qe2, *, -hK]; try (refine hK _ _ ?_; clear hK K))
 | (refine Axw rfl ?_; intro K hK; simp -implicitDefEqProofs (disch := first | omega | (simp only [qd] <;> omega)) only [xq, ↓xp, qc, Nat.reduceAdd, List.range, List.range.loop, fine, Nat.reduceEqDiff, ↓reduceIte, yielded, reduceCtorEq, Nat.reduceLT, Nat.reduceMul, Nat.reduceSub, one, Nat.reduceLeDiff, Aqa, y17_133, aq, ↓ap, qe0, qe1, qe2, *, -hK]; try (refine hK _ _ ?_; clear hK K; (try simp only [nq, ↓reduceIte, Nat.reduceEqDiff])))
 | (refine Aqu ?_; (try simp only [nq, ↓reduceIte, Nat.reduceEqDiff]))
 | (refine Axv ?_; (try simp only [nq, ↓reduceIte, Nat.reduceEqDiff]))
 | (refine Aq7 ?_; (try simp only [nq, ↓reduceIte, Nat.reduceEqDiff]))
 | (refine Azc ?_; (try simp only [nq, ↓reduceIte, Nat.reduceEqDiff]))
 | (refine Ax0 (by simp only [Aqn, Aqr, Nat.reduceEqDiff, Nat.reduceLT, ↓reduceIte, *]; rfl) ?_ ?_ <;> (intro hc; first | (exfalso; simp -implicitDefEqProofs (disch := omega) only [*, bq, reduceCtorEq] at hc; done) | (simp only [dq, qe3, qe4, qe5, qe6] at hc) | skip))
 | (refine Axp ?_)
 | (refine Aqp ?_)
 | (refine Aql ?_))
 refine (vaultOf_spec _ H1 tb 184 4 2 (by omega) (by omega) (by omega) hT).runs.mono ?_
 rintro _ H2 ⟨places, pieces, sv, start, cv, xss, tv, ts, rfl, hst, hcs, htr, hok, hfew, htok, lex2, hT2⟩
 have hd2 : Awt H2 places pieces sv cv tv start xss ts := ⟨hst, hcs, htr, hok, by omega, htok⟩
 clear hT hs l1 hst hcs htr lex2
 obtain ⟨va, vc, rfl, hvc, _⟩ := id hd2.st
 obtain ⟨ca, cc, rfl, hcc, _⟩ := id hd2.calls
 obtain ⟨ta, tc, rfl, htc, _⟩ := id hd2.truth
 have htl : ts.length <= 4 := by have := htok.1; omega
 have htb := htok.bnd hok
 have hok2 := hok
 obtain ⟨p1, p4, q1, q6, hsp, hsd, hsb, hxs⟩ := hok2
 have hs6 : ∀ t ∈ start, 0 <= t /\ t < 6 := fun t ht => by have := hsb t ht; omega
 ((try (refine @unH _ ?_; refine zX y17_133 ?_)); (try (refine hK _ _ ?_; clear hK K; (try simp only [nq, ↓reduceIte, Nat.reduceEqDiff]))); refine @unH _ ?_; refine zA y17_133 ?_; (repeat (refine inC ?_; intro hc)); try (refine inK ?_; intro K hK))
 (intro vb hvb; generalize hG : Hp.set _ vb _ = H3; have lH3 := Aqg hG hvb; have vvb := Aqf hG; clear hG)
 have hA3 : SurA H3 tb 184 vb places pieces _ _ _ start xss ts := ⟨hd2.le lH3, vvb, hT2.le lH3⟩
 clear hd2 lH3 hvb hT2 vvb
 have vvb := hA3.v
 ((try (refine @unH _ ?_; refine zX y17_133 ?_)); (try (refine hK _ _ ?_; clear hK K; (try simp only [nq, ↓reduceIte, Nat.reduceEqDiff]))); refine @unH _ ?_; refine zA y17_133 ?_; (repeat (refine inC ?_; intro hc)); try (refine inK ?_; intro K hK))
 clear vvb
 refine Axd (fun w a' H' => ∃ e i, w = xss.length - i /\ i <= xss.length /\ a' = act 137 e [] /\ e 3 = .pointer (some ⟨tb, 0, none⟩) /\ e 4 = .pointer (some ⟨vb, 0, none⟩) /\ e 6 = .int .i64 (i : Nat) /\ SurA H' tb (184 - i) vb places pieces (.slice va start.length vc) (.slice ca xss.length cc) (.slice ta ts.length tc) start xss ts) (n := xss.length) ?_ ?_
 ·exact ⟨_, 0, by omega, by omega, rfl, rfl, rfl, rfl, hA3⟩
 ·clear hA3
  rintro w a' H4 ⟨e, i, rfl, hi, rfl, e3, e4, e6, hA⟩
  have vvb := hA.v
  by_cases hlt : i < xss.length
  ·have hxi := List.getElem?_eq_getElem hlt
   have hok1 := hxs xss[i] (List.getElem_mem hlt)
   generalize xss[i] = xs at *
   obtain ⟨cb, co, q, c, fr, u, rfl, hcb, hcu, hu⟩ := SlR.get hA.d.calls hxi
   obtain ⟨ua, uc, rfl, _, _⟩ := id hu
   have hxl := hok1.len
   obtain ⟨k, hk⟩ : ∃ k, 184 - i = k + 1 := ⟨183 - i, by omega⟩
   have hk' : 184 - (i + 1) = k := by omega
   rw [hk] at hA
   replace hk : Aqz _ := hk
   replace hk' : Aqz _ := hk'
   replace hA : Aqz _ := hA
   replace hu : Aqz _ := hu
   replace hxi : Aqz _ := hxi
   (refine @unH _ ?_; refine zA y17_133 ?_; (repeat (refine inC ?_; intro hc)); try (refine inK ?_; intro K hK))
   refine Avi (Q := only fun a' H' => ∃ e' xb p wa wc, a' = act 137 e' [] /\ e' 3 = .pointer (some ⟨tb, 0, none⟩) /\ e' 4 = .pointer (some ⟨vb, 0, none⟩) /\ e' 6 = .int .i64 (i : Nat) /\ e' 7 = .pointer (some ⟨xb, 0, none⟩) /\ p ∈ xs /\
    H' xb = some (true, .cells #[.int .i64 places, .int .i64 pieces, .slice va start.length vc, .slice wa xss.length wc] 25 (0, 0)) /\ SlR H' (.slice wa xss.length wc) (Azr xss i p) /\ SurA H' tb k vb places pieces (.slice va start.length vc) (.slice (some ⟨cb, co, none⟩) xss.length cc) (.slice ta ts.length tc) start xss ts) ?_ ?_
   ·have hA4 : SurA H4 tb (k + 1) vb places pieces (.slice va start.length vc) (.slice (some ⟨cb, co, none⟩) xss.length cc) (.slice ta ts.length tc) start xss ts := hA
    refine Aji (fun HX => HX vb = some (true, .cells #[.int .i64 places, .int .i64 pieces, .slice va start.length vc, .slice (some ⟨cb, co, none⟩) xss.length cc] 25 (0, 0)) /\ HX cb = some (q, .cells c 22 fr)) [11] (.take 0 (.free 1 (.free 2 (.free 3 (.take 4 (.free 5 (.free 6 (.take 7 (.two 8 (.two 9 (.one 10 (.one 11 .nil)) 10 (.one 9 (.one 11 .nil))) 10 (.one 8 (.one 9 (.one 11 .nil)))))))))))) (by kernel_rfl) (by kernel_rfl) (by decide) (by kernel_rfl) ?_; intro K hK
    have hSx := And.intro vvb hcb
    have hcb4 := hcb
    (apply Aq8 rfl rfl rfl ‹_›; (focus (intro HX hHX; simp -implicitDefEqProofs (disch := first | omega | (simp only [qd] <;> omega)) only [xq, ↓xp, qc, Nat.reduceAdd, List.range, List.range.loop, fine, Nat.reduceEqDiff, ↓reduceIte, yielded, reduceCtorEq, Nat.reduceLT, Nat.reduceMul, Nat.reduceSub, one, Nat.reduceLeDiff, Aqa, y17_133, aq, ↓ap, qe0, qe1, qe2, *, -hK, Aqv, hHX.1, hHX.2] <;> (first | exact rfl | exact ⟨rfl, rfl⟩ | exact ⟨rfl, trivial⟩))); simp -implicitDefEqProofs (disch := first | omega | (simp only [qd] <;> omega)) only [Aqm, Aqc])
    (iterate 3 (apply Axo rfl rfl rfl; (focus (intro HX; simp -implicitDefEqProofs (disch := first | omega | (simp only [qd] <;> omega)) only [xq, ↓xp, qc, Nat.reduceAdd, List.range, List.range.loop, fine, Nat.reduceEqDiff, ↓reduceIte, yielded, reduceCtorEq, Nat.reduceLT, Nat.reduceMul, Nat.reduceSub, one, Nat.reduceLeDiff, Aqa, y17_133, aq, ↓ap, qe0, qe1, qe2, *, -hK, Aqv] <;> (first | exact rfl | exact ⟨rfl, rfl⟩ | exact ⟨rfl, trivial⟩))); simp -implicitDefEqProofs (disch := first | omega | (simp only [qd] <;> omega)) only [Aqm, Aqc]))
    (apply Aq8 rfl rfl rfl ‹_›; (focus (intro HX hHX; simp -implicitDefEqProofs (disch := first | omega | (simp only [qd] <;> omega)) only [xq, ↓xp, qc, Nat.reduceAdd, List.range, List.range.loop, fine, Nat.reduceEqDiff, ↓reduceIte, yielded, reduceCtorEq, Nat.reduceLT, Nat.reduceMul, Nat.reduceSub, one, Nat.reduceLeDiff, Aqa, y17_133, aq, ↓ap, qe0, qe1, qe2, *, -hK, Aqv, hHX.1, hHX.2] <;> (first | exact rfl | exact ⟨rfl, rfl⟩ | exact ⟨rfl, trivial⟩))); simp -implicitDefEqProofs (disch := first | omega | (simp only [qd] <;> omega)) only [Aqm, Aqc])
    (iterate 2 (apply Axo rfl rfl rfl; (focus (intro HX; simp -implicitDefEqProofs (disch := first | omega | (simp only [qd] <;> omega)) only [xq, ↓xp, qc, Nat.reduceAdd, List.range, List.range.loop, fine, Nat.reduceEqDiff, ↓reduceIte, yielded, reduceCtorEq, Nat.reduceLT, Nat.reduceMul, Nat.reduceSub, one, Nat.reduceLeDiff, Aqa, y17_133, aq, ↓ap, qe0, qe1, qe2, *, -hK, Aqv] <;> (first | exact rfl | exact ⟨rfl, rfl⟩ | exact ⟨rfl, trivial⟩))); simp -implicitDefEqProofs (disch := first | omega | (simp only [qd] <;> omega)) only [Aqm, Aqc]))
    (apply Aq8 rfl rfl rfl ‹_›; (focus (intro HX hHX; simp -implicitDefEqProofs (disch := first | omega | (simp only [qd] <;> omega)) only [xq, ↓xp, qc, Nat.reduceAdd, List.range, List.range.loop, fine, Nat.reduceEqDiff, ↓reduceIte, yielded, reduceCtorEq, Nat.reduceLT, Nat.reduceMul, Nat.reduceSub, one, Nat.reduceLeDiff, Aqa, y17_133, aq, ↓ap, qe0, qe1, qe2, *, -hK, Aqv, hHX.1, hHX.2] <;> (first | exact rfl | exact ⟨rfl, rfl⟩ | exact ⟨rfl, trivial⟩))); simp -implicitDefEqProofs (disch := first | omega | (simp only [qd] <;> omega)) only [Aqm, Aqc])
    refine planV_two ?_ ?_
    ·(refine @unH _ ?_; refine zX y17_133 ?_)
     refine (Cqf (.wg Tryz.prog) H4 tb k _ xs (hu) hok1.1 (by omega) hA4.t).runs.mono ?_
     rintro _ H5 ⟨p, hp, rfl, o, hHo, hTo⟩
     have hA5 : SurA H5 tb k vb places pieces (.slice va start.length vc) (.slice (some ⟨cb, co, none⟩) xss.length cc) (.slice ta ts.length tc) start xss ts := by rw [hHo] at hTo ⊢; exact hA4.tin hTo
     have hcb5 : H5 cb = some (q, .cells c 22 fr) := by rw [hHo]; exact (Aqo (fun e => by obtain ⟨_, _, _, _, _, h1, _⟩ := hA4.t; rw [e, h1] at hcb4; cases hcb4)).trans hcb4
     clear hHo hTo o
     (refine @unH _ ?_; refine zX y17_133 ?_)
     refine ⟨.inr (by intros; first | exact ⟨hA5.v, hcb5⟩ | exact hcb5 | exact hA5.v | trivial), planV_two ?_ ?_⟩
     ·(refine @unH _ ?_; refine zX y17_133 ?_)
      refine (known_spec _ H5 places pieces va start.length vc _ xss hA5.d.calls (by omega) i hlt p).runs.mono ?_
      rintro _ H6 ⟨w, rfl, l1, hw⟩
      have hkl := (Bje hok (show xss[i]? = some xs from hxi) hp).2
      obtain ⟨wa, wc, hwe, _, _⟩ := id hw
      subst hwe
      rw [hkl] at hw ⊢
      have hA6 := hA5.le l1
      have hcb6 := l1 _ _ hcb5
      (refine @unH _ ?_; refine zX y17_133 ?_)
      refine ⟨.inr (by intros; first | exact ⟨hA6.v, hcb6⟩ | exact hcb6 | exact hA6.v | trivial), Axa ?_⟩
      (refine @unH _ ?_; refine zX y17_133 ?_)
      intro xb hxb
      have lxb := Hp.le_set (o := .cells #[.int .i64 0, .int .i64 0, .slice none 0 0, .slice none 0 0] 25 (0, 0)) hxb
      have vxb : (Hp.set H6 xb (.cells #[.int .i64 0, .int .i64 0, .slice none 0 0, .slice none 0 0] 25 (0, 0))) xb = _ := Aqw
      have hvx := Ax4 hA6.v hxb
      have hcx := Ax4 hcb6 hxb
      generalize Hp.set H6 xb _ = H7 at lxb vxb ⊢
      have hA7 := hA6.le lxb
      have hcb7 := lxb _ _ hcb6
      refine ⟨.inr (by intros; first | exact ⟨(if_neg hvx).trans hA6.v, if_neg hcx⟩ | exact ⟨if_neg hvx, if_neg hcx⟩ | exact ⟨hA7.v, hcb7⟩ | exact hcb7 | exact hA7.v | trivial), Axa ?_⟩
      (refine @unH _ ?_; refine zX y17_133 ?_)
      refine ⟨.inl (by decide), Ajg (hK _ _ ?_)⟩
      have hwn := hw.le lxb
      refine ⟨_, xb, p, _, _, rfl, e3, e4, e6, rfl, hp, Aqw, hwn.move fun x p' c' fr' e' he' hx => (other_set vxb).cells hx (by rcases he' with rfl | rfl <;> decide), hA7.put vxb hvx⟩
     ·(refine @unH _ ?_; refine zX y17_133 ?_)
      intro xb hxb
      have lxb := Hp.le_set (o := .cells #[.int .i64 0, .int .i64 0, .slice none 0 0, .slice none 0 0] 25 (0, 0)) hxb
      have vxb : (Hp.set H5 xb (.cells #[.int .i64 0, .int .i64 0, .slice none 0 0, .slice none 0 0] 25 (0, 0))) xb = _ := Aqw
      have hvx := Ax4 hA5.v hxb
      have hcx := Ax4 hcb5 hxb
      generalize Hp.set H5 xb _ = H6 at lxb vxb ⊢
      have hA6 := hA5.le lxb
      have hcb6 := lxb _ _ hcb5
      refine ⟨.inr (by intros; first | exact ⟨(if_neg hvx).trans hA5.v, if_neg hcx⟩ | exact ⟨if_neg hvx, if_neg hcx⟩ | exact ⟨hA6.v, hcb6⟩ | exact hcb6 | exact hA6.v | trivial), Axa ?_⟩
      (refine @unH _ ?_; refine zX y17_133 ?_)
      refine (known_spec _ H6 places pieces va start.length vc _ xss hA6.d.calls (by omega) i hlt p).runs.mono ?_
      rintro _ H7 ⟨w, rfl, l1, hw⟩
      have hkl := (Bje hok (show xss[i]? = some xs from hxi) hp).2
      obtain ⟨wa, wc, hwe, _, _⟩ := id hw
      subst hwe
      rw [hkl] at hw ⊢
      have hA7 := hA6.le l1
      have hcb7 := l1 _ _ hcb6
      have vxb7 := l1 _ _ vxb
      (refine @unH _ ?_; refine zX y17_133 ?_)
      refine ⟨.inr (by intros; first | exact ⟨hA7.v, hcb7⟩ | exact hcb7 | exact hA7.v | trivial), Axa ?_⟩
      (refine @unH _ ?_; refine zX y17_133 ?_)
      refine ⟨.inl (by decide), Ajg (hK _ _ ?_)⟩
      have hwn := hw
      refine ⟨_, xb, p, _, _, rfl, e3, e4, e6, rfl, hp, Aqw, hwn.move fun x p' c' fr' e' he' hx => (other_set vxb7).cells hx (by rcases he' with rfl | rfl <;> decide), hA7.put vxb7 hvx⟩
    ·(refine @unH _ ?_; refine zX y17_133 ?_)
     intro xb hxb
     have lxb := Hp.le_set (o := .cells #[.int .i64 0, .int .i64 0, .slice none 0 0, .slice none 0 0] 25 (0, 0)) hxb
     have vxb : (Hp.set H4 xb (.cells #[.int .i64 0, .int .i64 0, .slice none 0 0, .slice none 0 0] 25 (0, 0))) xb = _ := Aqw
     have hvx := Ax4 hA4.v hxb
     have hcx := Ax4 hcb4 hxb
     generalize Hp.set H4 xb _ = H5 at lxb vxb ⊢
     have hA5 := hA4.le lxb
     have hcb5 := lxb _ _ hcb4
     refine ⟨.inr (by intros; first | exact ⟨(if_neg hvx).trans hA4.v, if_neg hcx⟩ | exact ⟨if_neg hvx, if_neg hcx⟩ | exact ⟨hA5.v, hcb5⟩ | exact hcb5 | exact hA5.v | trivial), Axa ?_⟩
     (refine @unH _ ?_; refine zX y17_133 ?_)
     refine (Cqf (.wg Tryz.prog) H5 tb k _ xs ((show SlI H4 _ _ from hu).le lxb) hok1.1 (by omega) hA5.t).runs.mono ?_
     rintro _ H6 ⟨p, hp, rfl, o, hHo, hTo⟩
     have hA6 : SurA H6 tb k vb places pieces (.slice va start.length vc) (.slice (some ⟨cb, co, none⟩) xss.length cc) (.slice ta ts.length tc) start xss ts := by rw [hHo] at hTo ⊢; exact hA5.tin hTo
     have hcb6 : H6 cb = some (q, .cells c 22 fr) := by rw [hHo]; exact (Aqo (fun e => by obtain ⟨_, _, _, _, _, h1, _⟩ := hA5.t; rw [e, h1] at hcb5; cases hcb5)).trans hcb5
     have vxb6 := (congrFun hHo xb).trans ((Aqo (fun e => by obtain ⟨_, _, _, _, _, h1, _⟩ := hA5.t; rw [e, h1] at vxb; cases vxb)).trans vxb)
     clear hHo hTo o
     (refine @unH _ ?_; refine zX y17_133 ?_)
     refine ⟨.inr (by intros; first | exact ⟨hA6.v, hcb6⟩ | exact hcb6 | exact hA6.v | trivial), Axa ?_⟩
     (refine @unH _ ?_; refine zX y17_133 ?_)
     refine (known_spec _ H6 places pieces va start.length vc _ xss hA6.d.calls (by omega) i hlt p).runs.mono ?_
     rintro _ H7 ⟨w, rfl, l1, hw⟩
     have hkl := (Bje hok (show xss[i]? = some xs from hxi) hp).2
     obtain ⟨wa, wc, hwe, _, _⟩ := id hw
     subst hwe
     rw [hkl] at hw ⊢
     have hA7 := hA6.le l1
     have hcb7 := l1 _ _ hcb6
     have vxb7 := l1 _ _ vxb6
     (refine @unH _ ?_; refine zX y17_133 ?_)
     refine ⟨.inr (by intros; first | exact ⟨hA7.v, hcb7⟩ | exact hcb7 | exact hA7.v | trivial), Axa ?_⟩
     (refine @unH _ ?_; refine zX y17_133 ?_)
     refine ⟨.inl (by decide), Ajg (hK _ _ ?_)⟩
     have hwn := hw
     refine ⟨_, xb, p, _, _, rfl, e3, e4, e6, rfl, hp, Aqw, hwn.move fun x p' c' fr' e' he' hx => (other_set vxb7).cells hx (by rcases he' with rfl | rfl <;> decide), hA7.put vxb7 hvx⟩
   ·intro ex a' H' q
    cases ex with
    | normal =>
     obtain ⟨e', xb, p, wa, wc, rfl, e3', e4', e6', e7', hp, vxb5, hw5, hA5⟩ := q
     clear hA hu hcb hcu e3 e4 e6 vvb
     rename_i eold _ _ _ _
     clear eold
     have vvb5 := hA5.v
     have hkx := Bje hok (show xss[i]? = some xs from hxi) hp
     have hsub := known_sub (show xss[i]? = some xs from hxi) hp
     have hne := (Cjp hkx.1 (by rw [hkx.2]; omega)).2
     have hv5 : Aj1 H' places pieces _ _ start xss := ⟨hA5.d.st, hA5.d.calls, hok, by omega⟩
     have hx5 : Aj1 H' places pieces _ _ start (Azr xss i p) := ⟨hA5.d.st, hw5, hkx.1, by rw [hkx.2]; omega⟩
     generalize hX : Azr xss i p = XS at *
     clear hX
     replace hsub : Aqz _ := hsub
     replace hkx : Aqz _ := hkx
     (refine @unH _ ?_; refine zA y17_133 ?_; (repeat (refine inC ?_; intro hc)); try (refine inK ?_; intro K hK))
     refine (Byh H' places pieces _ _ start xss hv5).runs.mono ?_
     rintro _ H6 ⟨rfl, l1⟩
     have hA6 := hA5.le l1
     have hv6 := hv5.le l1
     have hx6 := hx5.le l1
     have vxb6 := l1 _ _ vxb5
     have vvb6 := hA6.v
     have hfw := bdT_sub (fewF places start) hne (show ∀ t ∈ Aqy XS, t ∈ Aqy xss from hsub)
     clear hA5 hv5 hx5 vxb5 vvb5 l1 hw5
     ((try (refine @unH _ ?_; refine zX y17_133 ?_)); (try (refine hK _ _ ?_; clear hK K; (try simp only [nq, ↓reduceIte, Nat.reduceEqDiff]))); refine @unH _ ?_; refine zA y17_133 ?_; (repeat (refine inC ?_; intro hc)); try (refine inK ?_; intro K hK))
     (intro b8 hb8; generalize hG : Hp.set _ b8 _ = H7; have lH7 := Aqg hG hb8; have vb8 := Aqf hG; clear hG)
     have hA7 := hA6.le lH7
     have hv7 := hv6.le lH7
     have hx7 := hx6.le lH7
     have vxb7 := lH7 _ _ vxb6
     have vvb7 := hA7.v
     clear hA6 hv6 hx6 vxb6 vvb6 lH7 hb8
     ((try (refine @unH _ ?_; refine zX y17_133 ?_)); (try (refine hK _ _ ?_; clear hK K; (try simp only [nq, ↓reduceIte, Nat.reduceEqDiff]))); refine @unH _ ?_; refine zA y17_133 ?_; (repeat (refine inC ?_; intro hc)); try (refine inK ?_; intro K hK))
     refine (Byh H7 places pieces _ _ start XS hx7).runs.mono ?_
     rintro _ H8 ⟨rfl, l1⟩
     have hA8 := hA7.le l1
     have hv8 := hv7.le l1
     have hx8 := hx7.le l1
     have vxb8 := l1 _ _ vxb7
     have vb88 := l1 _ _ vb8
     have vvb8 := hA8.v
     clear hA7 hv7 hx7 vxb7 vvb7 l1 vb8
     obtain ⟨hf1, hf2⟩ := hfw
     generalize (bdT (fewF places start) (Aqy XS)).lo = blo at *
     generalize (bdT (fewF places start) (Aqy XS)).hi = bhi at *
     generalize (bdT (fewF places start) (Aqy xss)).lo = alo at *
     generalize (bdT (fewF places start) (Aqy xss)).hi = ahi at *
     ((try (refine @unH _ ?_; refine zX y17_133 ?_)); (try (refine hK _ _ ?_; clear hK K; (try simp only [nq, ↓reduceIte, Nat.reduceEqDiff]))); refine @unH _ ?_; refine zA y17_133 ?_; (repeat (refine inC ?_; intro hc)); try (refine inK ?_; intro K hK))
     (intro b10 hb10; generalize hG : Hp.set _ b10 _ = H9; have lH9 := Aqg hG hb10; have vb10 := Aqf hG; clear hG)
     have hA9 := hA8.le lH9
     have hv9 := hv8.le lH9
     have hx9 := hx8.le lH9
     have vxb9 := lH9 _ _ vxb8
     have vb89 := lH9 _ _ vb88
     have vvb9 := hA9.v
     clear hA8 hv8 hx8 vxb8 vvb8 lH9 hb10 vb88
     ((try (refine @unH _ ?_; refine zX y17_133 ?_)); (try (refine hK _ _ ?_; clear hK K; (try simp only [nq, ↓reduceIte, Nat.reduceEqDiff]))); refine @unH _ ?_; refine zA y17_133 ?_; (repeat (refine inC ?_; intro hc)); try (refine inK ?_; intro K hK))
     refine Av2 (fun e => e 3 = .pointer (some ⟨tb, 0, none⟩) /\ e 4 = .pointer (some ⟨vb, 0, none⟩) /\ e 6 = .int .i64 (i : Nat) /\ e 7 = .pointer (some ⟨xb, 0, none⟩) /\ e 8 = .pointer (some ⟨b8, 0, none⟩) /\ e 9 = .int .i64 0 /\ e 10 = .pointer (some ⟨b10, 0, none⟩) /\ e 11 = .int .i64 0) ⟨e3', e4', e6', e7', rfl, rfl, rfl, rfl⟩ ?_
     clear e3' e4' e6' e7' e'
     rintro e ⟨e3, e4, e6, e7, e8, e9, e10, e11⟩
     have hn1 : ¬ blo < alo := by omega
     have hn2 : ¬ ahi < bhi := by omega
     clear hf1 hf2
     refine Axw rfl ?_; intro K hK
     simp -implicitDefEqProofs (maxSteps := 3000000) (disch := first | omega | (simp only [qd] <;> omega)) only [xq, ↓xp, qc, Nat.reduceAdd, List.range, List.range.loop, fine, Nat.reduceEqDiff, ↓reduceIte, yielded, reduceCtorEq, Nat.reduceLT, Nat.reduceMul, Nat.reduceSub, one, Nat.reduceLeDiff, Aqa, y17_133, aq, ↓ap, qe0, qe1, qe2, *, -hK]
     refine hK _ _ ?_; clear hK K
     (try simp only [nq, ↓reduceIte, Nat.reduceEqDiff])
     (refine @unH _ ?_; refine zA y17_133 ?_; (repeat (refine inC ?_; intro hc)); try (refine inK ?_; intro K hK))
     clear vb89 vb10 e8 e9 e10 e11
     refine Axd (fun w a' H' => ∃ e, ∃ r : Nat, w = 4 - r /\ r <= 4 /\ a' = act 137 e [] /\ e 3 = .pointer (some ⟨tb, 0, none⟩) /\ e 4 = .pointer (some ⟨vb, 0, none⟩) /\ e 6 = .int .i64 (i : Nat) /\ e 7 = .pointer (some ⟨xb, 0, none⟩) /\ e 12 = .int .i64 (r : Nat) /\ H9.le H') (n := 4) ?_ ?_
     ·exact ⟨_, 0, by omega, by omega, rfl, e3, e4, e6, e7, rfl, Hp.le_refl _⟩
     ·clear e3 e4 e6 e7
      rename_i eold
      clear eold
      rintro w a' HA ⟨e, r, rfl, hr, rfl, e3, e4, e6, e7, e12, lA⟩
      have hvA := hv9.le lA
      have hxA := hx9.le lA
      have vxbA := lA _ _ vxb9
      have vvbA := lA _ _ vvb9
      by_cases hr3 : r <= 3
      ·have hft := bdT_sub (fetF places r start) hne (show ∀ t ∈ Aqy XS, t ∈ Aqy xss from hsub)
       have hrg : regF places r start XS <= regF places r start xss := (bdT_sub _ hne (show ∀ t ∈ Aqy XS, t ∈ Aqy xss from hsub)).2
       (refine @unH _ ?_; refine zA y17_133 ?_; (repeat (refine inC ?_; intro hc)); try (refine inK ?_; intro K hK))
       refine (vFetches_spec HA places pieces _ _ start xss hvA r (by omega) (by omega)).runs.mono ?_
       rintro _ HB ⟨rfl, l1⟩
       have lB := Hp.le_trans lA l1
       have vxbB := l1 _ _ vxbA
       clear hvA hxA vxbA vvbA l1 lA
       ((try (refine @unH _ ?_; refine zX y17_133 ?_)); (try (refine hK _ _ ?_; clear hK K; (try simp only [nq, ↓reduceIte, Nat.reduceEqDiff]))); refine @unH _ ?_; refine zA y17_133 ?_; (repeat (refine inC ?_; intro hc)); try (refine inK ?_; intro K hK))
       (intro b13 hb13; generalize hG : Hp.set _ b13 _ = HC; have lHC := Aqg hG hb13; have vb13 := Aqf hG; clear hG)
       have lC := Hp.le_trans lB lHC
       have vxbC := lHC _ _ vxbB
       have hxC := hx9.le lC
       clear lB lHC vxbB hb13
       ((try (refine @unH _ ?_; refine zX y17_133 ?_)); (try (refine hK _ _ ?_; clear hK K; (try simp only [nq, ↓reduceIte, Nat.reduceEqDiff]))); refine @unH _ ?_; refine zA y17_133 ?_; (repeat (refine inC ?_; intro hc)); try (refine inK ?_; intro K hK))
       refine (vFetches_spec HC places pieces _ _ start XS hxC r (by omega) (by omega)).runs.mono ?_
       rintro _ HD ⟨rfl, l1⟩
       have lD := Hp.le_trans lC l1
       have vb13D := l1 _ _ vb13
       clear lC l1 vb13 hxC vxbC
       obtain ⟨hg1, hg2⟩ := hft
       generalize (bdT (fetF places r start) (Aqy XS)).lo = dlo at *
       generalize (bdT (fetF places r start) (Aqy XS)).hi = dhi at *
       generalize (bdT (fetF places r start) (Aqy xss)).lo = clo at *
       generalize (bdT (fetF places r start) (Aqy xss)).hi = chi at *
       ((try (refine @unH _ ?_; refine zX y17_133 ?_)); (try (refine hK _ _ ?_; clear hK K; (try simp only [nq, ↓reduceIte, Nat.reduceEqDiff]))); refine @unH _ ?_; refine zA y17_133 ?_; (repeat (refine inC ?_; intro hc)); try (refine inK ?_; intro K hK))
       (intro b15 hb15; generalize hG : Hp.set _ b15 _ = HE; have lHE := Aqg hG hb15; have vb15 := Aqf hG; clear hG)
       have lE := Hp.le_trans lD lHE
       have vb13E := lHE _ _ vb13D
       have hvE := hv9.le lE
       have vvbE := lE _ _ vvb9
       clear lD lHE vb13D hb15
       ((try (refine @unH _ ?_; refine zX y17_133 ?_)); (try (refine hK _ _ ?_; clear hK K; (try simp only [nq, ↓reduceIte, Nat.reduceEqDiff]))); refine @unH _ ?_; refine zA y17_133 ?_; (repeat (refine inC ?_; intro hc)); try (refine inK ?_; intro K hK))
       refine (vRegret_spec HE places pieces _ _ start xss hvE r (by omega) (by omega)).runs.mono ?_
       rintro _ HF ⟨rfl, l1⟩
       have lF := Hp.le_trans lE l1
       have vb13F := l1 _ _ vb13E
       have vb15F := l1 _ _ vb15
       have hxF := hx9.le lF
       have vxbF := lF _ _ vxb9
       clear lE l1 vb13E vb15 hvE vvbE
       ((try (refine @unH _ ?_; refine zX y17_133 ?_)); (try (refine hK _ _ ?_; clear hK K; (try simp only [nq, ↓reduceIte, Nat.reduceEqDiff]))); refine @unH _ ?_; refine zA y17_133 ?_; (repeat (refine inC ?_; intro hc)); try (refine inK ?_; intro K hK))
       refine (vRegret_spec HF places pieces _ _ start XS hxF r (by omega) (by omega)).runs.mono ?_
       rintro _ HG ⟨rfl, l1⟩
       have lG := Hp.le_trans lF l1
       have vb13G := l1 _ _ vb13F
       have vb15G := l1 _ _ vb15F
       clear lF l1 vb13F vb15F hxF vxbF
       generalize regF places r start XS = RX at *
       generalize regF places r start xss = RV at *
       (refine @unH _ ?_; refine zX y17_133 ?_)
       refine hK _ _ ?_; clear hK K
       (try simp only [nq, ↓reduceIte, Nat.reduceEqDiff])
       refine Av2 (fun e => e 3 = .pointer (some ⟨tb, 0, none⟩) /\ e 4 = .pointer (some ⟨vb, 0, none⟩) /\ e 6 = .int .i64 (i : Nat) /\ e 7 = .pointer (some ⟨xb, 0, none⟩) /\ e 12 = .int .i64 (r : Nat) /\ e 13 = .pointer (some ⟨b13, 0, none⟩) /\ e 14 = .int .i64 0 /\ e 15 = .pointer (some ⟨b15, 0, none⟩) /\ e 16 = .int .i64 0 /\ e 17 = .int .i64 RV /\ e 18 = .int .i64 0 /\ e 19 = .int .i64 RX /\ e 20 = .int .i64 0) ⟨e3, e4, e6, e7, e12, rfl, rfl, rfl, rfl, rfl, rfl, rfl, rfl⟩ ?_
       clear e3 e4 e6 e7 e12
       rename_i eold
       clear eold
       rintro e ⟨e3, e4, e6, e7, e12, e13, e14, e15, e16, e17, e18, e19, e20⟩
       have hm1 : ¬ dlo < clo := by omega
       have hm2 : ¬ chi < dhi := by omega
       have hm3 : ¬ RV < RX := by omega
       clear hg1 hg2 hrg
       refine Aql ?_; refine Axw rfl ?_; intro K hK
       simp -implicitDefEqProofs (maxSteps := 3000000) (disch := first | omega | (simp only [qd] <;> omega)) only [xq, ↓xp, qc, Nat.reduceAdd, List.range, List.range.loop, fine, Nat.reduceEqDiff, ↓reduceIte, yielded, reduceCtorEq, Nat.reduceLT, Nat.reduceMul, Nat.reduceSub, one, Nat.reduceLeDiff, Aqa, y17_133, aq, ↓ap, qe0, qe1, qe2, *, -hK]
       refine hK _ _ ?_; clear hK K
       (try simp only [nq, ↓reduceIte, Nat.reduceEqDiff])
       (refine @unH _ ?_; refine zA y17_133 ?_; (repeat (refine inC ?_; intro hc)); try (refine inK ?_; intro K hK))
       exact ⟨4 - (r + 1), by omega, _, r + 1, rfl, by omega, rfl, e3, e4, e6, e7, rfl, lG⟩
      ·obtain rfl : r = 4 := by omega
       have hAA := hA9.le lA
       (refine @unH _ ?_; refine zA y17_133 ?_; (repeat (refine inC ?_; intro hc)); try (refine inK ?_; intro K hK))
       exact ⟨xss.length - (i + 1), by omega, _, i + 1, rfl, hlt, rfl, e3, e4, rfl, by rw [show 184 - (i + 1) = k from hk']; exact hAA⟩
    | _ => exact q.elim
  ·obtain rfl : i = xss.length := by omega
   (refine @unH _ ?_; refine zA y17_133 ?_; (repeat (refine inC ?_; intro hc)); try (refine inK ?_; intro K hK))
   refine (kept_spec H4).runs.mono ?_
   rintro _ H7 ⟨rfl, lH7⟩
   ((try (refine @unH _ ?_; refine zX y17_133 ?_)); (try (refine hK _ _ ?_; clear hK K; (try simp only [nq, ↓reduceIte, Nat.reduceEqDiff]))); refine @unH _ ?_; refine zA y17_133 ?_; (repeat (refine inC ?_; intro hc)); try (refine inK ?_; intro K hK))
   (refine Ax3 ?_; (try simp only [nq, ↓reduceIte, Nat.reduceEqDiff]); rw [Axn, Ak0 Tryz.results17 (by decide)]; simp only [Aqr, Nat.reduceEqDiff, ↓reduceIte])
end Go.Proofs.YtgniilnljeedlaaGreatDoor
end
section
namespace Go.Proofs.YtgniilnljeedlaaGreatDoor
open Go Go.X Go.ChangeShapes Go.WideShapes Go.RowKit
set_option maxRecDepth 100000 in
theorem law_lifted (os : Os) (started : os.Started) (H : Type) (enc : TypeId × Value -> H) :
  ReturnsInLeavingWide {} Tryz.checked os 17 .any (fun w args => (Rows.vaultSurerSpec.pre enc Tryz.prog Tryz.f17 [] false w args /\ laidMetH Tryz.prog [("errors.errorType", Rows.laid_errors_errorType)] w) /\ sizedMet enc Tryz.prog Tryz.f17 (OpenSpec.ofChange Rows.vaultSurerSpec) false w args)
   (Rows.vaultSurerSpec.post enc Tryz.prog Tryz.f17 false true false false) := by
 refine leaving_of_change_and (C := Tryz.checked) (X := fun w _ => laidMetH Tryz.prog [("errors.errorType", Rows.laid_errors_errorType)] w) (fun _ _ _ hh h => h.of_heap hh) ownK started Tryz.func17
  (ChangeSpec.witness_at (enc := enc) (C := Tryz.checked) (os := os) (X := fun w _ => laidMetH Tryz.prog [("errors.errorType", Rows.laid_errors_errorType)] w) false (laidWorld os) #[.slice none 0 0] 8 rfl (by kernel_rfl) (by kernel_rfl) (by kernel_rfl) (by kernel_rfl) (by kernel_rfl) (laidWorld_met os _)) ?_
 intro W base args ds gs before hval0 hW hL
 have hval : ∀ (j : Nat) t v, Tryz.f17.params[j]? = some t -> args[j]? = some v -> Value.okWide Tryz.prog W .any base t v := hval0
 have hW' := hW
 obtain ⟨p, q, hA0, hV0, rfl, hfz, hnd⟩ := hW
 have hA : DataW.TrodAll enc Tryz.prog W 0 (fun _ => true) true Tryz.f17.params.toList args.toList ds p := hA0
 have hV : DataW.TrodVars enc Tryz.prog W (fun _ => true) [] gs q := hV0
 rw [Tryz.params17] at hA hval
 obtain ⟨v0, d0, rfl, rfl, h0⟩ := trodAll_one hA
 obtain ⟨a0, len, cap, rfl⟩ := okWide_slice Tryz.underlying22 (hval 0 22 v0 rfl rfl)
 have h0k := h0
 obtain ⟨fuel, hf⟩ := h0
 obtain ⟨rfl, rfl⟩ : gs = [] /\ q = [] := by
  cases gs with
  | nil => exact ⟨rfl, hV⟩
  | cons g r => exact absurd hV (by intro h; cases h)
 have e1 : Rows.vaultSurerSpec.fn H ([d0] ++ []) = { results := [.lit (.bool true)], args := [d0] } := by simp [Rows.vaultSurerSpec]
 have hcells : ∀ i : Nat, i < len -> ∃ sb so c e fr x, a0 = some ⟨sb, so, none⟩ /\ Bqx W sb = some (false, .cells c e fr) /\ c[so + i]? = some (.int .i64 x) := by
  rcases open_ints Tryz.underlying22 Tryz.underlying3 cellsK hf with ⟨hcs, _⟩ | ⟨a, len', cap', zs, hcs, _, hl, hm, hz, hx, hcell, hwz⟩
  ·simp [Value.cells] at hcs
   intro i hi
   omega
  ·simp [Value.cells] at hcs
   obtain ⟨rfl, rfl, rfl⟩ := hcs
   intro i hi
   simp only [if_true] at hz
   have hc := hcell i (by omega)
   obtain ⟨b, off, spot⟩ := a
   have hspot : spot = none := by simpa [Addr.add] using World.cell?_spot (hcell 0 (by omega))
   subst hspot
   rw [add_plain] at hc
   unfold World.cell? at hc
   split at hc
   ·rename_i c e fr hb
    exact ⟨b, off, c, e, fr, _, rfl, by simp [Bqx, hb], by simpa using hc⟩
   ·cases hc
 have hlt : ∀ x ∈ p, x.block < W.heap.size := fun x hx => by simpa using hW'.lt x (by simpa using hx)
 obtain ⟨N, last, o, w', t', r1, r2, r3, v, hv, ⟨rfl, hB⟩, r4⟩ := (lsurer_spec (Bqx W) a0 len cap hcells).goodW Tryz.func17 (results_tmp Tryz.results17 _) (by kernel_rfl)
 refine ⟨N, last, o, w', t', r1, r2, r3, _, hv, ?_, r4⟩
 have hb := hB.below
 refine ⟨_, _, _, [], p, [], hW', ?_, ?_, ?_, hB.kept _, fun h => by cases h⟩
 ·rw [e1]; exact trodAll_mk1 (shut_bool Tryz.underlying4 true)
 ·rw [e1]
  have t := trodAll_mk1 (DataW.Trod.of_heap (w := { w' with tape := W.tape }) (w' := w') rfl (Below.trod laidOutK (by kernel_rfl) (of_decide_eq_true (by kernel_rfl)) h0k hb hlt))
  exact t
 ·rw [e1]; rfl
end Go.Proofs.YtgniilnljeedlaaGreatDoor
end
section
namespace Go.Proofs.YtgniilnljeedlaaGreatDoor
open Go Go.X Go.ChangeShapes Go.WideShapes Go.RowKit
theorem jEnter : Program.mayEnter Tryz.pinned.checked.prog = true := factEnter
theorem jLift : (Rows.vaultSurerRow.lifted == Program.liftsFinal Tryz.pinned.checked.prog) = true := by rw [show Program.liftsFinal Tryz.pinned.checked.prog = Rows.vaultSurerRow.lifted from factLift]; exact beq_self_eq_true _
theorem jMake : (Program.make Tryz.pinned.checked.prog == some Rows.vaultSurerRow.make) = true := by rw [show Program.make Tryz.pinned.checked.prog = some Rows.vaultSurerRow.make from factMake]; exact beq_self_eq_true _
set_option maxRecDepth 100000 in
theorem jf : joinedFacts Tryz.pinned.checked.prog 17 Tryz.f17 Rows.vaultSurerSpec Rows.vaultSurerRow = true := by
 unfold joinedFacts
 simp only [jEnter, jLift, jMake, Bool.and_true]
 kernel_rfl
set_option maxRecDepth 100000 in
theorem vaultSurer_said : Rows.VaultSurerSaid :=
 OpenClaim.holds_of_wide_leaving 17 Tryz.f17 rfl rfl rfl rfl rfl rfl rfl ⟨rfl, rfl, rfl, rfl, rfl⟩ rfl rfl rfl rfl rfl (by kernel_rfl) Tryz.func17 jf
  (of_decide_eq_true (by kernel_rfl)) (by unfold Func.isWrapper; rw [if_neg (of_decide_eq_false (by kernel_rfl))]; exact ⟨rfl, rfl⟩)
  (fun os started H enc _ => law_lifted os started H enc)
end Go.Proofs.YtgniilnljeedlaaGreatDoor
end
