/- Texts RowPut Known LAsk PVaultAsk SVaultAsk. -/
import Derived.Test.YtgniilnljeedlaaGreatDoorJ23
import Derived.Test.YtgniilnljeedlaaGreatDoorAFactA
import Derived.Test.YtgniilnljeedlaaGreatDoorAFactVB
import Derived.Test.YtgniilnljeedlaaGreatDoorAFactVC
set_option linter.defProp false
set_option linter.unusedSimpArgs false
set_option linter.unusedVariables false
set_option maxRecDepth 100000
set_option maxHeartbeats 2000000
section
namespace Go.Proofs.YtgniilnljeedlaaGreatDoor
open Go Go.X
theorem RowX.put {H0 H : Hp} {v : Value} {e : TypeId} {cs : List Value} (h : RowX none H0 H v e cs) {i : Nat} (hi : i < cs.length) : ∃ (b : Nat) (c : Array Value) (cap : Nat), v = .slice (some ⟨b, 0, none⟩) cs.length cap /\ H0 b = none /\ H b = some (true, .cells c e (0, 0)) /\ cs.length <= cap /\ i < c.size /\ c[i]? = cs[i]? /\ ∀ w, RowX none H0 (H.set b (.cells (c.setIfInBounds i w) e (0, 0))) v e (cs.set i w) := by
 rcases h.2 with ⟨_, rfl⟩ | ⟨b, c, cap, h0, h1, rfl, h3, h4, h5⟩
 ·simp at hi
 ·refine ⟨b, c, cap, rfl, h0, h1, h4, by omega, ?_, fun w => ⟨h.1.own h0, .inr ⟨b, c.setIfInBounds i w, cap, h0, Aqw, by rw [List.length_set], by rw [Array.size_setIfInBounds]; exact h3, by rw [List.length_set]; exact h4, fun j u hj => ?_⟩⟩⟩
  ·rw [List.getElem?_eq_getElem hi]
   exact h5 i _ (List.getElem?_eq_getElem hi)
  ·by_cases e : i = j
   ·subst e
    rw [List.getElem?_set_self hi] at hj
    rw [Array.getElem?_setIfInBounds_self_of_lt (by omega)]
    exact hj
   ·rw [List.getElem?_set_ne e] at hj
    rw [Array.getElem?_setIfInBounds_ne e]
    exact h5 j u hj
theorem RowX.other {H0 H : Hp} {v : Value} {e : TypeId} {cs : List Value} (h : RowX none H0 H v e cs) {b : Nat} {o : Obj} (h0 : H0 b = none) (hb : rowB v ≠ some b) : RowX none H0 (H.set b o) v e cs := by
 refine ⟨h.1.own h0, h.2.imp id ?_⟩
 rintro ⟨b', c, cap, h0', h1, rfl, h3, h4, h5⟩
 exact ⟨b', c, cap, h0', (Aqo (fun e => hb (by rw [<- e]; rfl))).trans h1, rfl, h3, h4, h5⟩
def y53_119 := And.intro (fun H => Aqx (H := H) (P := Tryz.prog) (h := Tryz.zeroValue25)) (And.intro (fun H => Bqc (H := H) Tryz.underlying23 Tryz.sizeOf22) (And.intro (fun H => Aqh (H := H) Tryz.underlying25 (i := 3) rfl (off := 3) rfl Tryz.sizeOf23) (And.intro (fun H => Aqe (H := H) Tryz.underlying23 rfl) (And.intro (fun H => Ajv (H := H) Tryz.sizeOf23) (And.intro @Axr (And.intro (fun H => Aqq (H := H) Tryz.underlying23 Tryz.sizeOf22) (And.intro (fun H => Ajv (H := H) Tryz.sizeOf22) (And.intro (fun H => Aqt (H := H) Tryz.underlying25 rfl Tryz.sizeOf25) (fun H => Aq1 (H := H) Tryz.sizeOf25)))))))))
theorem Rows.put {H : Hp} {vs : List Value} {xss : List (List Int)} (h : Rows H vs xss) {i : Nat} (hi : i < xss.length) {w : Value} {p : Int} (hw : SlI H w [p]) : Rows H (vs.set i w) (Azr xss i p) := by
 have e : Azr xss i p = xss.set i [p] := by unfold Azr; rw [List.set_eq_take_append_cons_drop, if_pos hi]
 rw [e]
 refine ⟨by rw [List.length_set, List.length_set]; exact h.1, fun j xs hx => ?_⟩
 by_cases hij : i = j
 ·subst hij
  rw [List.getElem?_set_self hi] at hx
  cases hx
  exact ⟨w, List.getElem?_set_self (by rw [h.1]; exact hi), hw⟩
 ·rw [List.getElem?_set_ne hij] at hx
  obtain ⟨u, h1, h2⟩ := h.2 j xs hx
  exact ⟨u, by rw [List.getElem?_set_ne hij]; exact h1, h2⟩
theorem known_spec (m : Md) (H : Hp) (places pieces : Int) (sa : Option Addr) (sn sc : Nat) (cv : Value) (xss : List (List Int)) (hc : SlR H cv xss) (h8 : xss.length <= 1000) (i : Nat) (hi : i < xss.length) (p : Int) :
  FnX Tryz.prog m 53 #[.agg #[.int .i64 places, .int .i64 pieces, .slice sa sn sc, cv], .int .i64 (i : Nat), .int .i64 p] H fun e H' => ∃ w, e = .returned (.agg #[.int .i64 places, .int .i64 pieces, .slice sa sn sc, w]) /\ H.le H' /\ SlR H' w (Azr xss i p) := by
 have hcS := hc
 obtain ⟨ca, cc, rfl, hcc, _⟩ := hc
 obtain ⟨cb, co, _, _, _, _, rfl, _⟩ := SlR.get hcS (List.getElem?_eq_getElem hi)
 obtain ⟨vs, hrows, hcells, hex⟩ := hcS.vals
 obtain ⟨u0, hu0⟩ := hex (fun h => by rw [h] at hi; simp at hi)
 have hvl := hrows.1
 replace hvl : Aqz _ := hvl
 replace hcells : Aqz _ := hcells
 refine Aqk Tryz.func53 rfl Tryz.ntmps53 (by simp) ?_
 (refine @unH _ ?_; refine zA y53_119 ?_; (repeat (refine inC ?_; intro hc)); try (refine inK ?_; intro K hK))
 intro vb hvb ob hob
 replace hob : (Hp.set H vb (.cells #[.int .i64 places, .int .i64 pieces, .slice sa sn sc, .slice (some ⟨cb, co, none⟩) xss.length cc] 25 (0, 0))) ob = none := hob
 generalize hG : Hp.set H vb _ = H1 at hob ⊢
 have lH1 := Aqg hG hvb
 have vvb := Aqf hG
 clear hG
 generalize hG : Hp.set H1 ob _ = H2
 have lH2 := Aqg hG hob
 have vob2 := Aqf hG
 clear hG
 have l02 := Hp.le_trans lH1 lH2
 have vvb2 := lH2 _ _ vvb
 have h0ob : H ob = none := Hp.le_none lH1 hob
 have hvo : vb ≠ ob := Ax4 vvb hob
 clear vvb hob lH1 lH2
 ((try (refine @unH _ ?_; refine zX y53_119 ?_)); (try (refine hK _ _ ?_; clear hK K; (try simp only [nq, ↓reduceIte, Nat.reduceEqDiff]))); refine @unH _ ?_; refine zA y53_119 ?_; (repeat (refine inC ?_; intro hc)); try (refine inK ?_; intro K hK))
 intro g hg
 generalize hG : Hp.set H2 g _ = H3
 have lH3 := Aqg hG hg
 have vg := Aqf hG
 clear hG
 have hrow3 : RowX none H2 H3 (.slice (some ⟨g, 0, none⟩) 0 0) 22 [] := ⟨Lex.of lH3, .inr ⟨g, #[], 0, hg, vg, rfl, rfl, Nat.le_refl _, fun i u h => by simp at h⟩⟩
 have hvg : vb ≠ g := Ax4 vvb2 hg
 refine ⟨.slice (some ⟨cb, co, none⟩) xss.length cc, by rw [if_neg hvg]; rfl, ?_⟩
 refine Byv Tryz.underlying23 Tryz.sizeOf22 Tryz.zeroValue22 rfl Tryz.typeInfo22 (by decide) (by decide) hrow3 (news := vs) hrows.1 (fun hm => ⟨⟨u0, lH3 _ _ (l02 _ _ hu0)⟩, fun h => ?_, fun j u hj => Dqe (Hp.le_trans l02 lH3) ((show ∀ j u, vs[j]? = some u -> H.cell ⟨cb, co + j, none⟩ = some u from hcells) j u hj)⟩) (fun u hu => hrows.one u hu) (by simp only [List.length_nil]; omega) _ _ _ _ (fun v4 H4 hrow4 hkeep => ?_)
 ·simp only [rowB, Option.some.injEq] at h
  subst h
  have := l02 _ _ hu0
  rw [hg] at this
  cases this
 rw [List.nil_append] at hrow4
 have vvb4 := hrow4.1.toLe _ _ vvb2
 have vob4 := hrow4.1.toLe _ _ vob2
 have hrow := hrow4.base (Lex.of l02)
 obtain ⟨ya, yc, rfl⟩ := hrow.len
 clear hrow3 hrow4 hkeep vg hg lH3 vvb2 vob2 hcells
 generalize hyl : vs.length = yl at *
 ((try (refine @unH _ ?_; refine zX y53_119 ?_)); (try (refine hK _ _ ?_; clear hK K; (try simp only [nq, ↓reduceIte, Nat.reduceEqDiff]))); refine @unH _ ?_; refine zA y53_119 ?_; (repeat (refine inC ?_; intro hc)); try (refine inK ?_; intro K hK))
 intro nb hnb
 replace hnb : (Hp.set H4 vb (.cells #[.int .i64 places, .int .i64 pieces, .slice sa sn sc, .slice ya yl yc] 25 (0, 0))) nb = none := hnb
 have hrow5 := hrow.other (o := .cells #[.int .i64 places, .int .i64 pieces, .slice sa sn sc, .slice ya yl yc] 25 (0, 0)) hvb (hrow.rowB_ne fun c fr h => by rw [vvb4] at h; cases h)
 generalize hG : Hp.set H4 vb _ = H5 at *
 have vvb5 := Aqf hG
 have vob5 := Azb hG vob4 hvo.symm
 clear hG hrow vvb4 vob4
 generalize hG : Hp.set H5 nb _ = H6
 have lH6 := Aqg hG hnb
 have vnb6 := Aqf hG
 clear hG
 have vvb6 := lH6 _ _ vvb5
 have vob6 := lH6 _ _ vob5
 have hrow6 := hrow5.le lH6
 clear vvb5 vob5 hrow5 lH6 hnb
 have hiy : i < yl := by have h1 : yl = xss.length := hvl; omega
 obtain ⟨yb, c, cap, hve, h0y, hyb6, _, hsz, _, hput⟩ := hrow6.put (i := i) (by omega)
 simp only [Value.slice.injEq] at hve
 obtain ⟨rfl, hq, rfl⟩ := hve
 clear hq
 have hput := hput (.slice (some ⟨nb, 0, none⟩) 1 1)
 have hrn : SlI H6 (.slice (some ⟨nb, 0, none⟩) 1 1) [p] := Ajn (xs := [p]) vnb6 rfl
 have hrs : Rows H6 vs xss := hrows.mono fun v xs h => h.le hrow6.1.toLe
 have hnew := hrs.put hi hrn
 have hvy : vb ≠ yb := fun e => by rw [e, hyb6] at vvb6; cases vvb6
 have hoy : ob ≠ yb := fun e => by rw [e, hyb6] at vob6; cases vob6
 clear hrs hrn vnb6 hrow6 hrows hex hcS hu0
 replace hput : Aqz _ := hput
 replace hnew : Aqz _ := hnew
 (refine @unH _ ?_; refine zX y53_119 ?_)
 generalize hG : Hp.set H6 yb _ = H7 at *
 have vvb7 := Azb hG vvb6 hvy
 have vob7 := Azb hG vob6 hoy
 have hnew7 : Rows H7 (vs.set i (.slice (some ⟨nb, 0, none⟩) 1 1)) (Azr xss i p) := by
  refine (show Rows H6 _ _ from hnew).mono fun v xs h => h.move fun x q c' fr hx => ?_
  exact Azb hG hx (fun e => by rw [e, hyb6] at hx; cases hx)
 have hput7 : RowX none H H7 _ _ _ := hput
 clear hG vvb6 vob6 hyb6 hput hnew hvy hoy
 replace hnew7 : Aqz (Rows H7 (vs.set i (.slice (some ⟨nb, 0, none⟩) 1 1)) (Azr xss i p)) := hnew7
 ((try (refine @unH _ ?_; refine zX y53_119 ?_)); (try (refine hK _ _ ?_; clear hK K; (try simp only [nq, ↓reduceIte, Nat.reduceEqDiff]))); refine @unH _ ?_; refine zA y53_119 ?_; (repeat (refine inC ?_; intro hc)); try (refine inK ?_; intro K hK))
 generalize hG : Hp.set H7 ob _ = H8
 have vob8 := Aqf hG
 have hput8 : RowX none H H8 (.slice (some ⟨yb, 0, none⟩) yl yc) 22 (vs.set i (.slice (some ⟨nb, 0, none⟩) 1 1)) := by rw [<- hG]; exact hput7.other h0ob (hput7.rowB_ne fun c fr h => by rw [vob7] at h; cases h)
 have hnew8 : Rows H8 (vs.set i (.slice (some ⟨nb, 0, none⟩) 1 1)) (Azr xss i p) := (show Rows H7 _ _ from hnew7).mono fun v xs h => h.move fun x q c' fr hx => Azb hG hx (fun e => by rw [e, vob7] at hx; cases hx)
 clear hG
 (refine Ax3 ?_; (try simp only [nq, ↓reduceIte, Nat.reduceEqDiff]); rw [Axn, Azl Tryz.results53 (by decide) (b := ob) (o := 0) rfl Tryz.underlying25 rfl Tryz.sizeOf25]; simp -implicitDefEqProofs (disch := first | omega | (simp only [qd] <;> omega)) only [xq, ↓xp, qc, Nat.reduceAdd, List.range, List.range.loop, fine, Nat.reduceEqDiff, ↓reduceIte, yielded, reduceCtorEq, Nat.reduceLT, Nat.reduceMul, Nat.reduceSub, one, Nat.reduceLeDiff, Aqa, y53_119, Ajj vob8])
 exact ⟨_, rfl, hput8.1.toLe, hput8.rows hnew8⟩
def y12_134 := And.intro @callF23 (And.intro @callF46 (And.intro (fun H => Aqx (H := H) (P := Tryz.prog) (h := Tryz.zeroValue25)) (And.intro (fun H => Aq1 (H := H) Tryz.sizeOf25) (And.intro (fun H => Aqt (H := H) Tryz.underlying25 rfl Tryz.sizeOf25) (And.intro @Dxe (And.intro @Dxf (And.intro (fun H => Aqx (H := H) (P := Tryz.prog) (h := Tryz.zeroValue61)) (And.intro (fun H => Aq1 (H := H) Tryz.sizeOf61) (And.intro (fun H => Aqh (H := H) Tryz.underlying61 (i := 1) rfl (off := 1) rfl Tryz.sizeOf3) (And.intro (fun H => Aqe (H := H) Tryz.underlying3 rfl) (And.intro (fun H => Aqh (H := H) Tryz.underlying61 (i := 0) rfl (off := 0) rfl Tryz.sizeOf3) (And.intro (fun H => Aqh (H := H) Tryz.underlying25 (i := 3) rfl (off := 3) rfl Tryz.sizeOf23) (And.intro (fun H => Aqe (H := H) Tryz.underlying23 rfl) (And.intro (fun H => Aq4 (H := H) Tryz.underlying23) (And.intro (fun H => Aqq (H := H) Tryz.underlying23 Tryz.sizeOf22) (And.intro (fun H => Aqe (H := H) Tryz.underlying22 rfl) (And.intro (fun H => Aq4 (H := H) Tryz.underlying22) (And.intro (fun H => Aqq (H := H) Tryz.underlying22 Tryz.sizeOf3) (And.intro @callF53 (And.intro @Cqk @callF22))))))))))))))))))))
def mostN (W : Int -> Int) (l : List Int) (k : Nat) : Int := if k = 0 then -1 else Bj9 W (l.take k)
theorem mostA_pos (W : Int -> Int) : ∀ l : List Int, 0 <= Bj9 W l := fun l => by
 have key : ∀ (l : List Int) (m : Int), 0 <= m -> 0 <= l.foldl (fun m p => if m < W p then W p else m) m := by
  intro l
  induction l with
  | nil => intro m h; exact h
  | cons x l ih => intro m h; exact ih _ (by show 0 <= if m < W x then W x else m; split <;> omega)
 exact key l 0 (Int.le_refl _)
theorem mostN_step {W : Int -> Int} {l : List Int} (hW : ∀ p ∈ l, 0 <= W p) {k : Nat} (hk : k < l.length) : (if mostN W l k < W l[k] then W l[k] else mostN W l k) = mostN W l (k + 1) := by
 have h0 := hW _ (List.getElem_mem hk)
 have e : l.take (k + 1) = l.take k ++ [l[k]] := by rw [List.take_add_one, List.getElem?_eq_getElem hk]; rfl
 unfold mostN
 rw [if_neg (Nat.succ_ne_zero k), e]
 unfold Bj9
 rw [Cz5]
 by_cases h : k = 0
 ·subst h
  rw [if_pos rfl, List.take_zero, List.foldl_nil]
  split <;> split <;> omega
 ·rw [if_neg h]
theorem lask_spec (H : Hp) (sa : Option Addr) (sl sc : Nat) (hs : ∀ i : Nat, i < sl -> ∃ sb so c e fr x, sa = some ⟨sb, so, none⟩ /\ H sb = some (false, .cells c e fr) /\ c[so + i]? = some (.int .i64 x)) :
  FnX Tryz.prog (.wg Tryz.prog) 12 #[.slice sa sl sc] H fun e _ => e = .returned (.bool true) := by
 refine Aqk Tryz.func12 rfl Tryz.ntmps12 (by simp) ?_
 repeat' (first
 | (refine Axl rfl ?_; intro K hK; simp -implicitDefEqProofs (disch := first | omega | (simp only [qd] <;> omega)) only [xq, ↓xp, qc, Nat.reduceAdd, List.range, List.range.loop, fine, Nat.reduceEqDiff, ↓reduceIte, yielded, reduceCtorEq, Nat.reduceLT, Nat.reduceMul, Nat.reduceSub, one, Nat.reduceLeDiff, Aqa, y12_134, aq, ↓ap, qe0, qe1, qe2, *, -hK]; try (refine hK _ _ ?_; clear hK K))
 | (refine Axw rfl ?_; intro K hK; simp -implicitDefEqProofs (disch := first | omega | (simp only [qd] <;> omega)) only [xq, ↓xp, qc, Nat.reduceAdd, List.range, List.range.loop, fine, Nat.reduceEqDiff, ↓reduceIte, yielded, reduceCtorEq, Nat.reduceLT, Nat.reduceMul, Nat.reduceSub, one, Nat.reduceLeDiff, Aqa, y12_134, aq, ↓ap, qe0, qe1, qe2, *, -hK]; try (refine hK _ _ ?_; clear hK K; (try simp only [nq, ↓reduceIte, Nat.reduceEqDiff])))
 | (refine Aqu ?_; (try simp only [nq, ↓reduceIte, Nat.reduceEqDiff]))
 | (refine Axv ?_; (try simp only [nq, ↓reduceIte, Nat.reduceEqDiff]))
 | (refine Aq7 ?_; (try simp only [nq, ↓reduceIte, Nat.reduceEqDiff]))
 | (refine Azc ?_; (try simp only [nq, ↓reduceIte, Nat.reduceEqDiff]))
 | (refine Ax0 (by simp only [Aqn, Aqr, Nat.reduceEqDiff, Nat.reduceLT, ↓reduceIte, *]; rfl) ?_ ?_ <;> (intro hc; first | (exfalso; simp -implicitDefEqProofs (disch := omega) only [*, bq, reduceCtorEq] at hc; done) | (simp only [dq, qe3, qe4, qe5, qe6] at hc) | skip))
 | (refine Axp ?_)
 | (refine Aqp ?_)
 | (refine Aql ?_))
 refine (newTin_spec _ H sa sl sc hs 240 (by omega)).runs.mono ?_
 rintro _ H1 ⟨tb, rfl, l1, hT⟩
 (try simp -implicitDefEqProofs (disch := first | omega | (simp only [qd] <;> omega)) only [xq, ↓xp, qc, Nat.reduceAdd, List.range, List.range.loop, fine, Nat.reduceEqDiff, ↓reduceIte, yielded, reduceCtorEq, Nat.reduceLT, Nat.reduceMul, Nat.reduceSub, one, Nat.reduceLeDiff, Aqa, y12_134, aq, ↓ap, qe0, qe1, qe2, *, -hK]); try (refine hK _ _ ?_; clear hK K; (try simp only [nq, ↓reduceIte, Nat.reduceEqDiff])); repeat' (first
 | (refine Axl rfl ?_; intro K hK; simp -implicitDefEqProofs (disch := first | omega | (simp only [qd] <;> omega)) only [xq, ↓xp, qc, Nat.reduceAdd, List.range, List.range.loop, fine, Nat.reduceEqDiff, ↓reduceIte, yielded, reduceCtorEq, Nat.reduceLT, Nat.reduceMul, Nat.reduceSub, one, Nat.reduceLeDiff, Aqa, y12_134, aq, ↓ap, qe0, qe1, qe2, *, -hK]; try (refine hK _ _ ?_; clear hK K))
 | (refine Axw rfl ?_; intro K hK; simp -implicitDefEqProofs (disch := first | omega | (simp only [qd] <;> omega)) only [xq, ↓xp, qc, Nat.reduceAdd, List.range, List.range.loop, fine, Nat.reduceEqDiff, ↓reduceIte, yielded, reduceCtorEq, Nat.reduceLT, Nat.reduceMul, Nat.reduceSub, one, Nat.reduceLeDiff, Aqa, y12_134, aq, ↓ap, qe0, qe1, qe2, *, -hK]; try (refine hK _ _ ?_; clear hK K; (try simp only [nq, ↓reduceIte, Nat.reduceEqDiff])))
 | (refine Aqu ?_; (try simp only [nq, ↓reduceIte, Nat.reduceEqDiff]))
 | (refine Axv ?_; (try simp only [nq, ↓reduceIte, Nat.reduceEqDiff]))
 | (refine Aq7 ?_; (try simp only [nq, ↓reduceIte, Nat.reduceEqDiff]))
 | (refine Azc ?_; (try simp only [nq, ↓reduceIte, Nat.reduceEqDiff]))
 | (refine Ax0 (by simp only [Aqn, Aqr, Nat.reduceEqDiff, Nat.reduceLT, ↓reduceIte, *]; rfl) ?_ ?_ <;> (intro hc; first | (exfalso; simp -implicitDefEqProofs (disch := omega) only [*, bq, reduceCtorEq] at hc; done) | (simp only [dq, qe3, qe4, qe5, qe6] at hc) | skip))
 | (refine Axp ?_)
 | (refine Aqp ?_)
 | (refine Aql ?_))
 refine (vaultOf_spec _ H1 tb 184 4 2 (by omega) (by omega) (by omega) hT).runs.mono ?_
 rintro _ H2 ⟨places, pieces, sv, start, cv, xss, tv, ts, rfl, hst, hcs, htr, hok, hfew, htok, lex2, hT2⟩
 have hd2 : Awt H2 places pieces sv cv tv start xss ts := ⟨hst, hcs, htr, hok, by omega, htok⟩
 clear hT hs l1 hst hcs htr lex2
 obtain ⟨va, vc, rfl, hvc, _⟩ := id hd2.st
 obtain ⟨ca, cc, rfl, hcc, _⟩ := id hd2.calls
 obtain ⟨ta, tc, rfl, htc, _⟩ := id hd2.truth
 have htl : ts.length <= 4 := by have := htok.1; omega
 have htb := htok.bnd hok
 have hok2 := hok
 obtain ⟨p1, p4, q1, q6, hsp, hsd, hsb, hxs⟩ := hok2
 have hs6 : ∀ t ∈ start, 0 <= t /\ t < 6 := fun t ht => by have := hsb t ht; omega
 ((try (refine @unH _ ?_; refine zX y12_134 ?_)); (try (refine hK _ _ ?_; clear hK K; (try simp only [nq, ↓reduceIte, Nat.reduceEqDiff]))); refine @unH _ ?_; refine zA y12_134 ?_; (repeat (refine inC ?_; intro hc)); try (refine inK ?_; intro K hK))
 (intro vb hvb; generalize hG : Hp.set _ vb _ = H3; have lH3 := Aqg hG hvb; have vvb := Aqf hG; clear hG)
 have hv3 : Aj1 H3 places pieces _ _ start xss := ⟨(hd2.le lH3).st, (hd2.le lH3).calls, hok, by omega⟩
 clear hd2 lH3 hvb hT2
 ((try (refine @unH _ ?_; refine zX y12_134 ?_)); (try (refine hK _ _ ?_; clear hK K; (try simp only [nq, ↓reduceIte, Nat.reduceEqDiff]))); refine @unH _ ?_; refine zA y12_134 ?_; (repeat (refine inC ?_; intro hc)); try (refine inK ?_; intro K hK))
 refine (Cvv H3 places pieces _ _ start xss hv3).runs.mono ?_
 rintro _ H4 ⟨rfl, l1⟩
 have hv4 := hv3.le l1
 have vvb4 := l1 _ _ vvb
 clear hv3 vvb l1
 obtain ⟨c1, c2, c3, h1, h2, h3, hres⟩ : ∃ c1 c2 c3 : Int, (if (askF places start xss).1 < 0 then 0 else (askF places start xss).1) = c1 /\ (if (askF places start xss).1 < 0 then 0 else (askF places start xss).2) = c2 /\ (if (askF places start xss).1 < 0 then (11 : Int) else 0) = c3 /\
   ((askF places start xss).1 < 0 /\ c1 = 0 /\ c2 = 0 /\ c3 = 11 ∨ ¬ (askF places start xss).1 < 0 /\ c1 = (askF places start xss).1 /\ c2 = (askF places start xss).2 /\ c3 = 0) := by
  refine ⟨_, _, _, rfl, rfl, rfl, ?_⟩
  by_cases h : (askF places start xss).1 < 0
  ·exact .inl ⟨h, if_pos h, if_pos h, if_pos h⟩
  ·exact .inr ⟨h, if_neg h, if_neg h, if_neg h⟩
 rw [h1, h2, h3]
 clear h1 h2 h3
 replace hres : Aqz _ := hres
 ((try (refine @unH _ ?_; refine zX y12_134 ?_)); (try (refine hK _ _ ?_; clear hK K; (try simp only [nq, ↓reduceIte, Nat.reduceEqDiff]))); refine @unH _ ?_; refine zA y12_134 ?_; (repeat (refine inC ?_; intro hc)); try (refine inK ?_; intro K hK))
 refine (Byh H4 places pieces _ _ start xss hv4).runs.mono ?_
 rintro _ H5' ⟨rfl, l1⟩
 have hv5' := hv4.le l1
 have vvb5' := l1 _ _ vvb4
 clear hv4 vvb4 l1
 ((try (refine @unH _ ?_; refine zX y12_134 ?_)); (try (refine hK _ _ ?_; clear hK K; (try simp only [nq, ↓reduceIte, Nat.reduceEqDiff]))); refine @unH _ ?_; refine zA y12_134 ?_; (repeat (refine inC ?_; intro hc)); try (refine inK ?_; intro K hK))
 (intro bb hbb; generalize hG : Hp.set _ bb _ = H5; have lH5 := Aqg hG hbb; have vbb := Aqf hG; clear hG)
 have hv5 := hv5'.le lH5
 have vvb5 := lH5 _ _ vvb5'
 clear hv5' vvb5' lH5 hbb
 ((try (refine @unH _ ?_; refine zX y12_134 ?_)); (try (refine hK _ _ ?_; clear hK K; (try simp only [nq, ↓reduceIte, Nat.reduceEqDiff]))); refine @unH _ ?_; refine zA y12_134 ?_; (repeat (refine inC ?_; intro hc)); try (refine inK ?_; intro K hK))
 obtain ⟨f1, f2, f3⟩ := Cks hok (show xss.length <= 8 by omega)
 (refine Az0 7 [(true, 0), (true, 1), (true, 2), (true, 3), (true, 4), (true, 5), (true, 6)] (by kernel_rfl) (by kernel_rfl) (by simp) (by kernel_rfl) ?_; intro K hK; (iterate 7 (refine @unH _ ?_; refine z3 y12_134 ?_)); refine Axy (hK _ _ ?_); clear hK K; (try simp only [nq, ↓reduceIte, Nat.reduceEqDiff]))
 clear f1 f2 f3
 have hW0 : (bdT (fewF places start) (Aqy xss)).hi - (bdT (fewF places start) (Aqy xss)).lo = widF places start xss := rfl
 rw [hW0]
 clear hW0 vbb
 generalize hWg : widF places start xss = W0 at *
 replace hWg : Aqz _ := hWg
 (refine @unH _ ?_; refine zA y12_134 ?_; (repeat (refine inC ?_; intro hc)); try (refine inK ?_; intro K hK))
 refine Axd (fun w a' H' => ∃ e i, w = xss.length - i /\ i <= xss.length /\ a' = act 130 e [] /\ e 3 = .pointer (some ⟨vb, 0, none⟩) /\ e 5 = .int .i64 c1 /\ e 6 = .int .i64 c2 /\ e 7 = .int .i64 c3 /\ e 10 = .int .i64 (Ajx W0 (askM places start xss) xss i).1 /\ e 11 = .int .i64 (Ajx W0 (askM places start xss) xss i).2 /\ e 12 = .int .i64 (i : Nat) /\ H5.le H') (n := xss.length) ?_ ?_
 ·exact ⟨_, 0, by omega, by omega, rfl, rfl, rfl, rfl, rfl, rfl, rfl, rfl, Hp.le_refl _⟩
 ·rintro w a' H6 ⟨e, i, rfl, hi, rfl, e3, e5, e6, e7, e10, e11, e12, l6⟩
  have vvb6 := l6 _ _ vvb5
  by_cases hlt : i < xss.length
  ·have hxi := List.getElem?_eq_getElem hlt
   have hok1 := hxs xss[i] (List.getElem_mem hlt)
   have hgd : xss.getD i [] = xss[i] := by rw [List.getD, hxi]; rfl
   have hst : Ajx W0 (askM places start xss) xss (i + 1) = if xss[i].length < 2 then Ajx W0 (askM places start xss) xss i else if askM places start xss i < (Ajx W0 (askM places start xss) xss i).2 then ((i : Int), askM places start xss i) else Ajx W0 (askM places start xss) xss i := by
    conv => lhs; unfold Ajx
    rw [hgd]
   have hMi : askM places start xss i = Bj9 (fun p => widF places start (Azr xss i p)) xss[i] := by unfold askM; rw [hgd]
   clear hgd
   generalize xss[i] = xs at *
   rw [hMi] at hst
   clear hMi
   have hxl := hok1.len
   have hpos : 0 < xs.length := List.length_pos_iff.2 hok1.1
   have hWp : ∀ p ∈ xs, 0 <= widF places start (Azr xss i p) := fun p hp => by
    have hk := Bje hok hxi hp
    have := Cks hk.1 (by rw [hk.2]; omega)
    unfold widF
    omega
   obtain ⟨cb, co, q, c, fr, u, rfl, hcb, hcu, hu⟩ := SlR.get hv5.calls hxi
   obtain ⟨rb, ro, rcap, rq, rc, rfr, rfl, _, hrb, hrx⟩ := hu.cons hok1.1
   have hcb6 := l6 _ _ hcb
   generalize hAS : Ajx W0 (askM places start xss) xss i = AS at *
   obtain ⟨B1, B2⟩ := AS
   simp only at hst e10 e11
   replace hxi : Aqz (xss[i]? = some xs) := hxi
   replace hst : Aqz _ := hst
   replace hAS : Aqz _ := hAS
   replace hWp : Aqz _ := hWp
   (refine @unH _ ?_; refine zA y12_134 ?_; (repeat (refine inC ?_; intro hc)); try (refine inK ?_; intro K hK))
   refine Axd (fun w a' H' => ∃ e k, w = xs.length - k /\ k <= xs.length /\ (k = 0 ∨ 1 < xs.length) /\ a' = act 130 e [] /\ e 3 = .pointer (some ⟨vb, 0, none⟩) /\ e 5 = .int .i64 c1 /\ e 6 = .int .i64 c2 /\ e 7 = .int .i64 c3 /\ e 10 = .int .i64 B1 /\ e 11 = .int .i64 B2 /\ e 12 = .int .i64 (i : Nat) /\ e 13 = .int .i64 (mostN (fun p => widF places start (Azr xss i p)) xs k) /\ e 14 = .int .i64 (k : Nat) /\ H5.le H') (n := xs.length) ?_ ?_
   ·exact ⟨_, 0, by omega, by omega, .inl rfl, rfl, e3, e5, e6, e7, e10, e11, e12, rfl, rfl, l6⟩
   ·clear e3 e5 e6 e7 e10 e11 e12 l6 vvb6 hcb6
    rename_i eold
    clear eold
    rintro w a' H8 ⟨e, k, rfl, hk, hk1, rfl, e3, e5, e6, e7, e10, e11, e12, e13, e14, l8⟩
    have s1H8 := l8 _ _ vvb5
    have s2H8 := l8 _ _ hcb
    by_cases hkl : k < xs.length
    ·by_cases hl1 : 1 < xs.length
     ·have s3H8 := l8 _ _ hrb
      have hrk := hrx k xs[k] (List.getElem?_eq_getElem hkl)
      have hkx := Bje hok (show xss[i]? = some xs from hxi) (List.getElem_mem hkl)
      have hstep := mostN_step (show ∀ p ∈ xs, 0 <= (fun p => widF places start (Azr xss i p)) p from hWp) hkl
      generalize hn1 : mostN (fun p => widF places start (Azr xss i p)) xs (k + 1) = n1 at *
      replace hn1 : Aqz _ := hn1
      generalize mostN (fun p => widF places start (Azr xss i p)) xs k = n0 at *
      replace hstep : (if n0 < widF places start (Azr xss i xs[k]) then widF places start (Azr xss i xs[k]) else n0) = n1 := hstep
      generalize xs[k] = pk at *
      replace hkx : Aqz _ := hkx
      replace hstep : Aqz _ := hstep
      (refine @unH _ ?_; refine zA y12_134 ?_; (repeat (refine inC ?_; intro hc)); try (refine inK ?_; intro K hK))
      refine Avi (Q := only fun a' H' => ∃ e' zb, a' = act 130 e' [] /\ e' 3 = .pointer (some ⟨vb, 0, none⟩) /\ e' 5 = .int .i64 c1 /\ e' 6 = .int .i64 c2 /\ e' 7 = .int .i64 c3 /\ e' 10 = .int .i64 B1 /\ e' 11 = .int .i64 B2 /\ e' 12 = .int .i64 (i : Nat) /\ e' 13 = .int .i64 n0 /\ e' 14 = .int .i64 (k : Nat) /\ e' 15 = .pointer (some ⟨zb, 0, none⟩) /\ e' 16 = .int .i64 0 /\
       H' zb = some (true, .cells #[.int .i64 (bdT (fewF places start) (Aqy (Azr xss i pk))).lo, .int .i64 (bdT (fewF places start) (Aqy (Azr xss i pk))).hi] 61 (0, 0)) /\ H5.le H') ?_ ?_
      ·refine Aji (fun HX => HX vb = some (true, .cells #[.int .i64 places, .int .i64 pieces, .slice va start.length vc, .slice (some ⟨cb, co, none⟩) xss.length cc] 25 (0, 0)) /\ HX cb = some (q, .cells c 22 fr) /\ HX rb = some (rq, .cells rc 3 rfr)) [16, 17] (.take 0 (.free 1 (.free 2 (.take 3 (.free 4 (.free 5 (.take 6 (.free 7 (.free 8 (.take 9 (.two 10 (.two 11 (.free 12 (.free 13 (.free 14 (.one 15 (.one 16 (.one 17 .nil)))))) 15 (.one 11 (.free 12 (.free 13 (.free 14 (.one 16 (.one 17 .nil))))))) 15 (.one 10 (.one 11 (.free 12 (.free 13 (.free 14 (.one 16 (.one 17 .nil)))))))))))))))))) (by kernel_rfl) (by kernel_rfl) (by decide) (by kernel_rfl) ?_; intro K hK
       have hSx := And.intro s1H8 (And.intro s2H8 s3H8)
       (apply Aq8 rfl rfl rfl ‹_›; (focus (intro HX hHX; simp -implicitDefEqProofs (disch := first | omega | (simp only [qd] <;> omega)) only [xq, ↓xp, qc, Nat.reduceAdd, List.range, List.range.loop, fine, Nat.reduceEqDiff, ↓reduceIte, yielded, reduceCtorEq, Nat.reduceLT, Nat.reduceMul, Nat.reduceSub, one, Nat.reduceLeDiff, Aqa, y12_134, aq, ↓ap, qe0, qe1, qe2, *, -hK, Aqv, hHX.1, hHX.2.1, hHX.2.2] <;> (first | exact rfl | exact ⟨rfl, rfl⟩ | exact ⟨rfl, trivial⟩))); simp -implicitDefEqProofs (disch := first | omega | (simp only [qd] <;> omega)) only [Aqm, Aqc])
       (iterate 2 (apply Axo rfl rfl rfl; (focus (intro HX; simp -implicitDefEqProofs (disch := first | omega | (simp only [qd] <;> omega)) only [xq, ↓xp, qc, Nat.reduceAdd, List.range, List.range.loop, fine, Nat.reduceEqDiff, ↓reduceIte, yielded, reduceCtorEq, Nat.reduceLT, Nat.reduceMul, Nat.reduceSub, one, Nat.reduceLeDiff, Aqa, y12_134, aq, ↓ap, qe0, qe1, qe2, *, -hK, Aqv] <;> (first | exact rfl | exact ⟨rfl, rfl⟩ | exact ⟨rfl, trivial⟩))); simp -implicitDefEqProofs (disch := first | omega | (simp only [qd] <;> omega)) only [Aqm, Aqc]))
       (apply Aq8 rfl rfl rfl ‹_›; (focus (intro HX hHX; simp -implicitDefEqProofs (disch := first | omega | (simp only [qd] <;> omega)) only [xq, ↓xp, qc, Nat.reduceAdd, List.range, List.range.loop, fine, Nat.reduceEqDiff, ↓reduceIte, yielded, reduceCtorEq, Nat.reduceLT, Nat.reduceMul, Nat.reduceSub, one, Nat.reduceLeDiff, Aqa, y12_134, aq, ↓ap, qe0, qe1, qe2, *, -hK, Aqv, hHX.1, hHX.2.1, hHX.2.2] <;> (first | exact rfl | exact ⟨rfl, rfl⟩ | exact ⟨rfl, trivial⟩))); simp -implicitDefEqProofs (disch := first | omega | (simp only [qd] <;> omega)) only [Aqm, Aqc])
       (iterate 2 (apply Axo rfl rfl rfl; (focus (intro HX; simp -implicitDefEqProofs (disch := first | omega | (simp only [qd] <;> omega)) only [xq, ↓xp, qc, Nat.reduceAdd, List.range, List.range.loop, fine, Nat.reduceEqDiff, ↓reduceIte, yielded, reduceCtorEq, Nat.reduceLT, Nat.reduceMul, Nat.reduceSub, one, Nat.reduceLeDiff, Aqa, y12_134, aq, ↓ap, qe0, qe1, qe2, *, -hK, Aqv] <;> (first | exact rfl | exact ⟨rfl, rfl⟩ | exact ⟨rfl, trivial⟩))); simp -implicitDefEqProofs (disch := first | omega | (simp only [qd] <;> omega)) only [Aqm, Aqc]))
       (apply Aq8 rfl rfl rfl ‹_›; (focus (intro HX hHX; simp -implicitDefEqProofs (disch := first | omega | (simp only [qd] <;> omega)) only [xq, ↓xp, qc, Nat.reduceAdd, List.range, List.range.loop, fine, Nat.reduceEqDiff, ↓reduceIte, yielded, reduceCtorEq, Nat.reduceLT, Nat.reduceMul, Nat.reduceSub, one, Nat.reduceLeDiff, Aqa, y12_134, aq, ↓ap, qe0, qe1, qe2, *, -hK, Aqv, hHX.1, hHX.2.1, hHX.2.2] <;> (first | exact rfl | exact ⟨rfl, rfl⟩ | exact ⟨rfl, trivial⟩))); simp -implicitDefEqProofs (disch := first | omega | (simp only [qd] <;> omega)) only [Aqm, Aqc])
       (iterate 2 (apply Axo rfl rfl rfl; (focus (intro HX; simp -implicitDefEqProofs (disch := first | omega | (simp only [qd] <;> omega)) only [xq, ↓xp, qc, Nat.reduceAdd, List.range, List.range.loop, fine, Nat.reduceEqDiff, ↓reduceIte, yielded, reduceCtorEq, Nat.reduceLT, Nat.reduceMul, Nat.reduceSub, one, Nat.reduceLeDiff, Aqa, y12_134, aq, ↓ap, qe0, qe1, qe2, *, -hK, Aqv] <;> (first | exact rfl | exact ⟨rfl, rfl⟩ | exact ⟨rfl, trivial⟩))); simp -implicitDefEqProofs (disch := first | omega | (simp only [qd] <;> omega)) only [Aqm, Aqc]))
       (apply Aq8 rfl rfl rfl ‹_›; (focus (intro HX hHX; simp -implicitDefEqProofs (disch := first | omega | (simp only [qd] <;> omega)) only [xq, ↓xp, qc, Nat.reduceAdd, List.range, List.range.loop, fine, Nat.reduceEqDiff, ↓reduceIte, yielded, reduceCtorEq, Nat.reduceLT, Nat.reduceMul, Nat.reduceSub, one, Nat.reduceLeDiff, Aqa, y12_134, aq, ↓ap, qe0, qe1, qe2, *, -hK, Aqv, hHX.1, hHX.2.1, hHX.2.2] <;> (first | exact rfl | exact ⟨rfl, rfl⟩ | exact ⟨rfl, trivial⟩))); simp -implicitDefEqProofs (disch := first | omega | (simp only [qd] <;> omega)) only [Aqm, Aqc])
       refine planV_two ?_ ?_
       ·(refine @unH _ ?_; refine zX y12_134 ?_)
        refine (known_spec _ H8 places pieces va start.length vc _ xss (hv5.calls.le l8) (by omega) i hlt pk).runs.mono ?_
        rintro _ H9 ⟨w, rfl, lk, hw⟩
        have hx9 : Aj1 H9 places pieces _ _ start (Azr xss i pk) := ⟨hv5.st.le (Hp.le_trans l8 lk), hw, hkx.1, by rw [hkx.2]; omega⟩
        obtain ⟨wa, wc, hwe, _, _⟩ := id hw
        subst hwe
        have l9 := Hp.le_trans l8 lk
        have s1H9 := lk _ _ s1H8
        have s2H9 := lk _ _ s2H8
        have s3H9 := lk _ _ s3H8
        (refine @unH _ ?_; refine zX y12_134 ?_)
        refine ⟨.inr (by intros; first | exact ⟨s1H9, s2H9, s3H9⟩ | trivial), planV_two ?_ ?_⟩
        ·(refine @unH _ ?_; refine zX y12_134 ?_)
         refine (Byh H9 places pieces _ _ start _ hx9).runs.mono ?_
         rintro _ HA ⟨rfl, lf⟩
         have lA := Hp.le_trans l9 lf
         have s1HA := lf _ _ s1H9
         have s2HA := lf _ _ s2H9
         have s3HA := lf _ _ s3H9
         (refine @unH _ ?_; refine zX y12_134 ?_)
         refine ⟨.inr (by intros; first | exact ⟨s1HA, s2HA, s3HA⟩ | trivial), ?_⟩
         (iterate 3 (apply Axo rfl rfl rfl; (focus (intro HX; simp -implicitDefEqProofs (disch := first | omega | (simp only [qd] <;> omega)) only [xq, ↓xp, qc, Nat.reduceAdd, List.range, List.range.loop, fine, Nat.reduceEqDiff, ↓reduceIte, yielded, reduceCtorEq, Nat.reduceLT, Nat.reduceMul, Nat.reduceSub, one, Nat.reduceLeDiff, Aqa, y12_134, aq, ↓ap, qe0, qe1, qe2, *, -hK, Aqv] <;> (first | exact rfl | exact ⟨rfl, rfl⟩ | exact ⟨rfl, trivial⟩))); simp -implicitDefEqProofs (disch := first | omega | (simp only [qd] <;> omega)) only [Aqm, Aqc]))
         refine Axa ?_
         (refine @unH _ ?_; refine zX y12_134 ?_)
         intro zb hzb
         have lz := Hp.le_set (o := .cells #[.int .i64 0, .int .i64 0] 61 (0, 0)) hzb
         have vz : (Hp.set HA zb (.cells #[.int .i64 0, .int .i64 0] 61 (0, 0))) zb = _ := Aqw
         have n1 := Ax4 s1HA hzb
         have n2 := Ax4 s2HA hzb
         have n3 := Ax4 s3HA hzb
         have hz5 : H5 zb = none := Hp.le_none lA hzb
         generalize Hp.set HA zb _ = HB at lz vz ⊢
         have lB := Hp.le_trans lA lz
         have s1HB := lz _ _ s1HA
         have s2HB := lz _ _ s2HA
         have s3HB := lz _ _ s3HA
         refine ⟨.inr (by intros; first | exact ⟨(if_neg n1).trans s1HA, (if_neg n2).trans s2HA, (if_neg n3).trans s3HA⟩ | exact ⟨if_neg n1, if_neg n2, if_neg n3⟩ | exact ⟨s1HB, s2HB, s3HB⟩ | trivial), Axa ?_⟩
         (refine @unH _ ?_; refine zX y12_134 ?_)
         refine ⟨.inl (by decide), Axa ?_⟩
         (refine @unH _ ?_; refine zX y12_134 ?_)
         refine ⟨.inl (by decide), Ajg (hK _ _ ?_)⟩
         refine ⟨_, zb, rfl, e3, e5, e6, e7, e10, e11, e12, e13, e14, rfl, rfl, Aqw, ?_⟩
         exact ((Lex.of lB : Lex none H5 HB).own hz5).toLe
        ·(refine @unH _ ?_; refine zX y12_134 ?_)
         intro zb hzb
         have lz := Hp.le_set (o := .cells #[.int .i64 0, .int .i64 0] 61 (0, 0)) hzb
         have vz : (Hp.set H9 zb (.cells #[.int .i64 0, .int .i64 0] 61 (0, 0))) zb = _ := Aqw
         have n1 := Ax4 s1H9 hzb
         have n2 := Ax4 s2H9 hzb
         have n3 := Ax4 s3H9 hzb
         have hz5 : H5 zb = none := Hp.le_none l9 hzb
         generalize Hp.set H9 zb _ = HA at lz vz ⊢
         have lA := Hp.le_trans l9 lz
         have s1HA := lz _ _ s1H9
         have s2HA := lz _ _ s2H9
         have s3HA := lz _ _ s3H9
         refine ⟨.inr (by intros; first | exact ⟨(if_neg n1).trans s1H9, (if_neg n2).trans s2H9, (if_neg n3).trans s3H9⟩ | exact ⟨if_neg n1, if_neg n2, if_neg n3⟩ | exact ⟨s1HA, s2HA, s3HA⟩ | trivial), Axa ?_⟩
         (refine @unH _ ?_; refine zX y12_134 ?_)
         refine (Byh HA places pieces _ _ start _ (hx9.le lz)).runs.mono ?_
         rintro _ HB ⟨rfl, lf⟩
         have lB := Hp.le_trans lA lf
         have s1HB := lf _ _ s1HA
         have s2HB := lf _ _ s2HA
         have s3HB := lf _ _ s3HA
         have vz2 := lf _ _ vz
         (refine @unH _ ?_; refine zX y12_134 ?_)
         refine ⟨.inr (by intros; first | exact ⟨s1HB, s2HB, s3HB⟩ | trivial), ?_⟩
         (iterate 3 (apply Axo rfl rfl rfl; (focus (intro HX; simp -implicitDefEqProofs (disch := first | omega | (simp only [qd] <;> omega)) only [xq, ↓xp, qc, Nat.reduceAdd, List.range, List.range.loop, fine, Nat.reduceEqDiff, ↓reduceIte, yielded, reduceCtorEq, Nat.reduceLT, Nat.reduceMul, Nat.reduceSub, one, Nat.reduceLeDiff, Aqa, y12_134, aq, ↓ap, qe0, qe1, qe2, *, -hK, Aqv] <;> (first | exact rfl | exact ⟨rfl, rfl⟩ | exact ⟨rfl, trivial⟩))); simp -implicitDefEqProofs (disch := first | omega | (simp only [qd] <;> omega)) only [Aqm, Aqc]))
         refine Axa ?_
         (refine @unH _ ?_; refine zX y12_134 ?_)
         refine ⟨.inl (by decide), Axa ?_⟩
         (refine @unH _ ?_; refine zX y12_134 ?_)
         refine ⟨.inl (by decide), Ajg (hK _ _ ?_)⟩
         refine ⟨_, zb, rfl, e3, e5, e6, e7, e10, e11, e12, e13, e14, rfl, rfl, Aqw, ?_⟩
         exact ((Lex.of lB : Lex none H5 HB).own hz5).toLe
       ·(refine @unH _ ?_; refine zX y12_134 ?_)
        intro zb hzb
        have lz := Hp.le_set (o := .cells #[.int .i64 0, .int .i64 0] 61 (0, 0)) hzb
        have vz : (Hp.set H8 zb (.cells #[.int .i64 0, .int .i64 0] 61 (0, 0))) zb = _ := Aqw
        have n1 := Ax4 s1H8 hzb
        have n2 := Ax4 s2H8 hzb
        have n3 := Ax4 s3H8 hzb
        have hz5 : H5 zb = none := Hp.le_none l8 hzb
        generalize Hp.set H8 zb _ = H9 at lz vz ⊢
        have l9 := Hp.le_trans l8 lz
        have s1H9 := lz _ _ s1H8
        have s2H9 := lz _ _ s2H8
        have s3H9 := lz _ _ s3H8
        refine ⟨.inr (by intros; first | exact ⟨(if_neg n1).trans s1H8, (if_neg n2).trans s2H8, (if_neg n3).trans s3H8⟩ | exact ⟨if_neg n1, if_neg n2, if_neg n3⟩ | exact ⟨s1H9, s2H9, s3H9⟩ | trivial), Axa ?_⟩
        (refine @unH _ ?_; refine zX y12_134 ?_)
        refine (known_spec _ H9 places pieces va start.length vc _ xss (hv5.calls.le l9) (by omega) i hlt pk).runs.mono ?_
        rintro _ HA ⟨w, rfl, lk, hw⟩
        have hxA : Aj1 HA places pieces _ _ start (Azr xss i pk) := ⟨hv5.st.le (Hp.le_trans l9 lk), hw, hkx.1, by rw [hkx.2]; omega⟩
        obtain ⟨wa, wc, hwe, _, _⟩ := id hw
        subst hwe
        have lA := Hp.le_trans l9 lk
        have s1HA := lk _ _ s1H9
        have s2HA := lk _ _ s2H9
        have s3HA := lk _ _ s3H9
        have vz2 := lk _ _ vz
        (refine @unH _ ?_; refine zX y12_134 ?_)
        refine ⟨.inr (by intros; first | exact ⟨s1HA, s2HA, s3HA⟩ | trivial), Axa ?_⟩
        (refine @unH _ ?_; refine zX y12_134 ?_)
        refine (Byh HA places pieces _ _ start _ hxA).runs.mono ?_
        rintro _ HB ⟨rfl, lf⟩
        have lB := Hp.le_trans lA lf
        have s1HB := lf _ _ s1HA
        have s2HB := lf _ _ s2HA
        have s3HB := lf _ _ s3HA
        have vz3 := lf _ _ vz2
        (refine @unH _ ?_; refine zX y12_134 ?_)
        refine ⟨.inr (by intros; first | exact ⟨s1HB, s2HB, s3HB⟩ | trivial), ?_⟩
        (iterate 3 (apply Axo rfl rfl rfl; (focus (intro HX; simp -implicitDefEqProofs (disch := first | omega | (simp only [qd] <;> omega)) only [xq, ↓xp, qc, Nat.reduceAdd, List.range, List.range.loop, fine, Nat.reduceEqDiff, ↓reduceIte, yielded, reduceCtorEq, Nat.reduceLT, Nat.reduceMul, Nat.reduceSub, one, Nat.reduceLeDiff, Aqa, y12_134, aq, ↓ap, qe0, qe1, qe2, *, -hK, Aqv] <;> (first | exact rfl | exact ⟨rfl, rfl⟩ | exact ⟨rfl, trivial⟩))); simp -implicitDefEqProofs (disch := first | omega | (simp only [qd] <;> omega)) only [Aqm, Aqc]))
        refine Axa ?_
        (refine @unH _ ?_; refine zX y12_134 ?_)
        refine ⟨.inl (by decide), Axa ?_⟩
        (refine @unH _ ?_; refine zX y12_134 ?_)
        refine ⟨.inl (by decide), Ajg (hK _ _ ?_)⟩
        refine ⟨_, zb, rfl, e3, e5, e6, e7, e10, e11, e12, e13, e14, rfl, rfl, Aqw, ?_⟩
        exact ((Lex.of lB : Lex none H5 HB).own hz5).toLe
      ·intro ex a' H' qq
       cases ex with
       | normal =>
        obtain ⟨e', zb, rfl, e3', e5', e6', e7', e10', e11', e12', e13', e14', e15', e16', vz, l9⟩ := qq
        have hb3 := Cks (show Az3 places pieces start (Azr xss i pk) from hkx.1) (by rw [show (Azr xss i pk).length = xss.length from hkx.2]; omega)
        have hstep2 : (if n0 < (bdT (fewF places start) (Aqy (Azr xss i pk))).hi - (bdT (fewF places start) (Aqy (Azr xss i pk))).lo then (bdT (fewF places start) (Aqy (Azr xss i pk))).hi - (bdT (fewF places start) (Aqy (Azr xss i pk))).lo else n0) = n1 := hstep
        clear hstep hkx s1H8 s2H8 s3H8 e3 e5 e6 e7 e10 e11 e12 e13 e14 l8
        generalize (bdT (fewF places start) (Aqy (Azr xss i pk))).lo = lo at *
        generalize (bdT (fewF places start) (Aqy (Azr xss i pk))).hi = hi2 at *
        obtain ⟨g1, g2, g3⟩ := hb3
        replace hstep2 : Aqz _ := hstep2
        (refine @unH _ ?_; refine zA y12_134 ?_; (repeat (refine inC ?_; intro hc)); try (refine inK ?_; intro K hK))
        exact ⟨xs.length - (k + 1), by omega, _, k + 1, rfl, hkl, .inr hl1, rfl, e3', e5', e6', e7', e10', e11', e12', by rw [show mostN (fun p => widF places start (Azr xss i p)) xs (k + 1) = n1 from hn1, <- show (if n0 < hi2 - lo then hi2 - lo else n0) = n1 from hstep2]; rfl, rfl, l9⟩
       | _ => exact qq.elim
     ·obtain rfl : k = 0 := by omega
      have hnx : Ajx W0 (askM places start xss) xss (i + 1) = (B1, B2) := by
       rw [show Ajx W0 (askM places start xss) xss (i + 1) = _ from hst, if_pos (by omega)]
      have hn0 : mostN (fun p => widF places start (Azr xss i p)) xs 0 = -1 := rfl
      rw [hn0] at e13
      clear hn0
      replace hnx : Aqz _ := hnx
      (refine @unH _ ?_; refine zA y12_134 ?_; (repeat (refine inC ?_; intro hc)); try (refine inK ?_; intro K hK))
      exact ⟨xss.length - (i + 1), by omega, _, i + 1, rfl, hlt, rfl, e3, e5, e6, e7, by rw [show Ajx W0 (askM places start xss) xss (i + 1) = _ from hnx]; exact e10, by rw [show Ajx W0 (askM places start xss) xss (i + 1) = _ from hnx]; exact e11, rfl, l8⟩
    ·obtain rfl : k = xs.length := by omega
     have hn0 : mostN (fun p => widF places start (Azr xss i p)) xs xs.length = Bj9 (fun p => widF places start (Azr xss i p)) xs := by
      unfold mostN
      rw [if_neg (by omega), List.take_length]
     have hn1 := mostA_pos (fun p => widF places start (Azr xss i p)) xs
     rw [hn0] at e13
     have hst' : Ajx W0 (askM places start xss) xss (i + 1) = if Bj9 (fun p => widF places start (Azr xss i p)) xs < B2 then ((i : Int), Bj9 (fun p => widF places start (Azr xss i p)) xs) else (B1, B2) := by
      rw [show Ajx W0 (askM places start xss) xss (i + 1) = _ from hst, if_neg (by omega)]
     clear hn0 hst
     generalize Bj9 (fun p => widF places start (Azr xss i p)) xs = NN at *
     replace hst' : Aqz _ := hst'
     by_cases hNB : NN < B2
     ·have hnx : Ajx W0 (askM places start xss) xss (i + 1) = ((i : Int), NN) := by rw [show Ajx W0 (askM places start xss) xss (i + 1) = _ from hst', if_pos hNB]
      replace hnx : Aqz _ := hnx
      clear hst'
      (refine @unH _ ?_; refine zA y12_134 ?_; (repeat (refine inC ?_; intro hc)); try (refine inK ?_; intro K hK))
      exact ⟨xss.length - (i + 1), by omega, _, i + 1, rfl, hlt, rfl, e3, e5, e6, e7, by rw [show Ajx W0 (askM places start xss) xss (i + 1) = _ from hnx]; rfl, by rw [show Ajx W0 (askM places start xss) xss (i + 1) = _ from hnx]; rfl, rfl, l8⟩
     ·have hnx : Ajx W0 (askM places start xss) xss (i + 1) = (B1, B2) := by rw [show Ajx W0 (askM places start xss) xss (i + 1) = _ from hst', if_neg hNB]
      replace hnx : Aqz _ := hnx
      clear hst'
      (refine @unH _ ?_; refine zA y12_134 ?_; (repeat (refine inC ?_; intro hc)); try (refine inK ?_; intro K hK))
      exact ⟨xss.length - (i + 1), by omega, _, i + 1, rfl, hlt, rfl, e3, e5, e6, e7, by rw [show Ajx W0 (askM places start xss) xss (i + 1) = _ from hnx]; exact e10, by rw [show Ajx W0 (askM places start xss) xss (i + 1) = _ from hnx]; exact e11, rfl, l8⟩
  ·obtain rfl : i = xss.length := by omega
   have hfin : Ajx W0 (askM places start xss) xss xss.length = askF places start xss := by
    rw [<- show widF places start xss = W0 from hWg]
    rfl
   rw [hfin] at e10 e11
   clear hfin
   generalize askF places start xss = AF at *
   obtain ⟨B1, B2⟩ := AF
   simp only at e10 e11
   have hres' : (B1 < 0 /\ c1 = 0 /\ c2 = 0 /\ c3 = 11) ∨ (¬ B1 < 0 /\ c1 = B1 /\ c2 = B2 /\ c3 = 0) := hres
   clear hres
   rcases hres' with ⟨hb, rfl, rfl, rfl⟩ | ⟨hb, rfl, rfl, rfl⟩
   ·(refine @unH _ ?_; refine zA y12_134 ?_; (repeat (refine inC ?_; intro hc)); try (refine inK ?_; intro K hK))
    refine (kept_spec H6).runs.mono ?_
    rintro _ H7 ⟨rfl, lH7⟩
    ((try (refine @unH _ ?_; refine zX y12_134 ?_)); (try (refine hK _ _ ?_; clear hK K; (try simp only [nq, ↓reduceIte, Nat.reduceEqDiff]))); refine @unH _ ?_; refine zA y12_134 ?_; (repeat (refine inC ?_; intro hc)); try (refine inK ?_; intro K hK))
    (refine Ax3 ?_; (try simp only [nq, ↓reduceIte, Nat.reduceEqDiff]); rw [Axn, Ak0 Tryz.results12 (by decide)]; simp only [Aqr, Nat.reduceEqDiff, ↓reduceIte])
   ·(refine @unH _ ?_; refine zA y12_134 ?_; (repeat (refine inC ?_; intro hc)); try (refine inK ?_; intro K hK))
    refine (kept_spec H6).runs.mono ?_
    rintro _ H7 ⟨rfl, lH7⟩
    ((try (refine @unH _ ?_; refine zX y12_134 ?_)); (try (refine hK _ _ ?_; clear hK K; (try simp only [nq, ↓reduceIte, Nat.reduceEqDiff]))); refine @unH _ ?_; refine zA y12_134 ?_; (repeat (refine inC ?_; intro hc)); try (refine inK ?_; intro K hK))
    (refine Ax3 ?_; (try simp only [nq, ↓reduceIte, Nat.reduceEqDiff]); rw [Axn, Ak0 Tryz.results12 (by decide)]; simp only [Aqr, Nat.reduceEqDiff, ↓reduceIte])
end Go.Proofs.YtgniilnljeedlaaGreatDoor
end
section
namespace Go.Proofs.YtgniilnljeedlaaGreatDoor
open Go Go.X Go.ChangeShapes Go.WideShapes Go.RowKit
set_option maxRecDepth 100000 in
theorem law_lifted (os : Os) (started : os.Started) (H : Type) (enc : TypeId × Value -> H) :
  ReturnsInLeavingWide {} Tryz.checked os 12 .any (fun w args => (Rows.vaultAskSpec.pre enc Tryz.prog Tryz.f12 [] false w args /\ laidMetH Tryz.prog [("errors.errorType", Rows.laid_errors_errorType)] w) /\ sizedMet enc Tryz.prog Tryz.f12 (OpenSpec.ofChange Rows.vaultAskSpec) false w args)
   (Rows.vaultAskSpec.post enc Tryz.prog Tryz.f12 false true false false) := by
 refine leaving_of_change_and (C := Tryz.checked) (X := fun w _ => laidMetH Tryz.prog [("errors.errorType", Rows.laid_errors_errorType)] w) (fun _ _ _ hh h => h.of_heap hh) ownK started Tryz.func12
  (ChangeSpec.witness_at (enc := enc) (C := Tryz.checked) (os := os) (X := fun w _ => laidMetH Tryz.prog [("errors.errorType", Rows.laid_errors_errorType)] w) false (laidWorld os) #[.slice none 0 0] 8 rfl (by kernel_rfl) (by kernel_rfl) (by kernel_rfl) (by kernel_rfl) (by kernel_rfl) (laidWorld_met os _)) ?_
 intro W base args ds gs before hval0 hW hL
 have hval : ∀ (j : Nat) t v, Tryz.f12.params[j]? = some t -> args[j]? = some v -> Value.okWide Tryz.prog W .any base t v := hval0
 have hW' := hW
 obtain ⟨p, q, hA0, hV0, rfl, hfz, hnd⟩ := hW
 have hA : DataW.TrodAll enc Tryz.prog W 0 (fun _ => true) true Tryz.f12.params.toList args.toList ds p := hA0
 have hV : DataW.TrodVars enc Tryz.prog W (fun _ => true) [] gs q := hV0
 rw [Tryz.params12] at hA hval
 obtain ⟨v0, d0, rfl, rfl, h0⟩ := trodAll_one hA
 obtain ⟨a0, len, cap, rfl⟩ := okWide_slice Tryz.underlying22 (hval 0 22 v0 rfl rfl)
 have h0k := h0
 obtain ⟨fuel, hf⟩ := h0
 obtain ⟨rfl, rfl⟩ : gs = [] /\ q = [] := by
  cases gs with
  | nil => exact ⟨rfl, hV⟩
  | cons g r => exact absurd hV (by intro h; cases h)
 have e1 : Rows.vaultAskSpec.fn H ([d0] ++ []) = { results := [.lit (.bool true)], args := [d0] } := by simp [Rows.vaultAskSpec]
 have hcells : ∀ i : Nat, i < len -> ∃ sb so c e fr x, a0 = some ⟨sb, so, none⟩ /\ Bqx W sb = some (false, .cells c e fr) /\ c[so + i]? = some (.int .i64 x) := by
  rcases open_ints Tryz.underlying22 Tryz.underlying3 cellsK hf with ⟨hcs, _⟩ | ⟨a, len', cap', zs, hcs, _, hl, hm, hz, hx, hcell, hwz⟩
  ·simp [Value.cells] at hcs
   intro i hi
   omega
  ·simp [Value.cells] at hcs
   obtain ⟨rfl, rfl, rfl⟩ := hcs
   intro i hi
   simp only [if_true] at hz
   have hc := hcell i (by omega)
   obtain ⟨b, off, spot⟩ := a
   have hspot : spot = none := by simpa [Addr.add] using World.cell?_spot (hcell 0 (by omega))
   subst hspot
   rw [add_plain] at hc
   unfold World.cell? at hc
   split at hc
   ·rename_i c e fr hb
    exact ⟨b, off, c, e, fr, _, rfl, by simp [Bqx, hb], by simpa using hc⟩
   ·cases hc
 have hlt : ∀ x ∈ p, x.block < W.heap.size := fun x hx => by simpa using hW'.lt x (by simpa using hx)
 obtain ⟨N, last, o, w', t', r1, r2, r3, v, hv, ⟨rfl, hB⟩, r4⟩ := (lask_spec (Bqx W) a0 len cap hcells).goodW Tryz.func12 (results_tmp Tryz.results12 _) (by kernel_rfl)
 refine ⟨N, last, o, w', t', r1, r2, r3, _, hv, ?_, r4⟩
 have hb := hB.below
 refine ⟨_, _, _, [], p, [], hW', ?_, ?_, ?_, hB.kept _, fun h => by cases h⟩
 ·rw [e1]; exact trodAll_mk1 (shut_bool Tryz.underlying4 true)
 ·rw [e1]
  have t := trodAll_mk1 (DataW.Trod.of_heap (w := { w' with tape := W.tape }) (w' := w') rfl (Below.trod laidOutK (by kernel_rfl) (of_decide_eq_true (by kernel_rfl)) h0k hb hlt))
  exact t
 ·rw [e1]; rfl
end Go.Proofs.YtgniilnljeedlaaGreatDoor
end
section
namespace Go.Proofs.YtgniilnljeedlaaGreatDoor
open Go Go.X Go.ChangeShapes Go.WideShapes Go.RowKit
theorem jEnter : Program.mayEnter Tryz.pinned.checked.prog = true := factEnter
theorem jLift : (Rows.vaultAskRow.lifted == Program.liftsFinal Tryz.pinned.checked.prog) = true := by rw [show Program.liftsFinal Tryz.pinned.checked.prog = Rows.vaultAskRow.lifted from factLift]; exact beq_self_eq_true _
theorem jMake : (Program.make Tryz.pinned.checked.prog == some Rows.vaultAskRow.make) = true := by rw [show Program.make Tryz.pinned.checked.prog = some Rows.vaultAskRow.make from factMake]; exact beq_self_eq_true _
set_option maxRecDepth 100000 in
theorem jf : joinedFacts Tryz.pinned.checked.prog 12 Tryz.f12 Rows.vaultAskSpec Rows.vaultAskRow = true := by
 unfold joinedFacts
 simp only [jEnter, jLift, jMake, Bool.and_true]
 kernel_rfl
set_option maxRecDepth 100000 in
theorem vaultAsk_said : Rows.VaultAskSaid :=
 OpenClaim.holds_of_wide_leaving 12 Tryz.f12 rfl rfl rfl rfl rfl rfl rfl ⟨rfl, rfl, rfl, rfl, rfl⟩ rfl rfl rfl rfl rfl (by kernel_rfl) Tryz.func12 jf
  (of_decide_eq_true (by kernel_rfl)) (by unfold Func.isWrapper; rw [if_neg (of_decide_eq_false (by kernel_rfl))]; exact ⟨rfl, rfl⟩)
  (fun os started H enc _ => law_lifted os started H enc)
end Go.Proofs.YtgniilnljeedlaaGreatDoor
end
