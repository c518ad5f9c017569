/- Texts SmO SmO2 SmQ SmR. -/
import Derived.Test.YtohojnlmjbbkpaaGreatDoorJ19
set_option linter.defProp false
set_option linter.unusedSimpArgs false
set_option linter.unusedVariables false
set_option maxRecDepth 100000
set_option maxHeartbeats 2000000
section
namespace Go.Proofs.YtohojnlmjbbkpaaGreatDoor
open Go Go.X
def Aje := And.intro (fun H => Aqw (H := H) (P := Tryz.prog) (h := Tryz.zeroValue28)) (And.intro (fun H => Aqp (H := H) Tryz.underlying26 rfl Tryz.sizeOf26) (And.intro (fun H => Aqf (H := H) Tryz.underlying3 rfl) (And.intro @Azn (And.intro @Bq8 (And.intro @Bzq (And.intro (fun H => Aqt (H := H) Tryz.sizeOf28) (And.intro (fun H => Aqw (H := H) (P := Tryz.prog) (h := Tryz.zeroValue120)) (And.intro @Bqe (And.intro (fun H => Aqd (H := H) Tryz.underlying120 (i := 2) rfl (off := 2) rfl Tryz.sizeOf4) (And.intro (fun H => Aqf (H := H) Tryz.underlying4 rfl) (And.intro (fun H => Aqd (H := H) Tryz.underlying120 (i := 0) rfl (off := 0) rfl Tryz.sizeOf3) (And.intro (fun H => Aqd (H := H) Tryz.underlying120 (i := 1) rfl (off := 1) rfl Tryz.sizeOf3) @Ajo))))))))))))
def Akb := And.intro (fun H => Aqf (H := H) Tryz.underlying3 rfl) (And.intro (fun H => Aqd (H := H) Tryz.underlying123 (i := 0) rfl (off := 0) rfl Tryz.sizeOf121) (And.intro (fun H => Aq5 (H := H) Tryz.underlying121 Tryz.sizeOf120) (And.intro (fun H => Aqd (H := H) Tryz.underlying120 (i := 1) rfl (off := 1) rfl Tryz.sizeOf3) (And.intro (fun H => Aqd (H := H) Tryz.underlying120 (i := 0) rfl (off := 0) rfl Tryz.sizeOf3) @Bza))))
def Bq1 := @Bza
def comF (p : Int) (b : Bd) (x : Int × Int × Hint) : Bd := if (gB x.2.2 p).hi < 99 then arrF p b x else b
theorem Cqi (main : Md) (H : Hp) (ob pb : Nat) (p : Int) (h0 : 0 <= p) (h1 : p < 6) (ham hour : Int) (x : Hint) (hx : Axs x) (b : Bd) (vo : H ob = some (true, bdO b)) (vp : H pb = some (true, .cells #[.int .i64 p] 3 (0, 0))) (hne : pb ≠ ob) :
  FnX Tryz.prog main 105 #[.int .i64 ham, .int .i64 hour, .agg (Axy x).toArray, .pointer (some ⟨pb, 0, none⟩), .pointer (some ⟨ob, 0, none⟩)] H fun e H' => e = .returned (.tuple #[]) /\ H' ob = some (true, bdO (comF p b (ham, hour, x))) /\ ∀ b x, b ≠ ob -> H b = some x -> H' b = some x := by
 have hl := Ax3 hx
 have hex := Ak8 hx
 have hbd := Bql hx (Czq hx h0 h1)
 obtain ⟨hb1, hb2, _⟩ := hbd
 unfold comF arrF
 simp only
 generalize gB x p = g at *
 generalize Axy x = HC at *
 by_cases hg : g.hi < 99
 ·rw [if_pos hg]
  refine Aqm Tryz.func105 rfl Tryz.ntmps105 (by simp) ?_
  (refine @unH _ ?_; refine zA Akb ?_; (repeat (refine inC ?_; intro hc)); try (refine inK ?_; intro K hK))
  (intro b hb; generalize hG : Hp.set _ b _ = H1; have lH1 := Aqc hG hb; have vb := Aqb hG; clear hG)
  have vo1 := lH1 _ _ vo
  have vp1 := lH1 _ _ vp
  ((try (refine @unH _ ?_; refine zX Akb ?_)); (try (refine hK _ _ ?_; clear hK K; (try simp only [nq, ↓reduceIte, Nat.reduceEqDiff]))); refine @unH _ ?_; refine zA Akb ?_; (repeat (refine inC ?_; intro hc)); try (refine inK ?_; intro K hK))
  refine (Avn main H1 ob _ g.lo vo1).runs.mono ?_
  rintro _ H2 ⟨rfl, h21, h22⟩
  have nob : b ≠ ob := fun e => by rw [e, vo] at hb; cases hb
  have vp2 := (h22 pb hne).trans vp1
  have vb2 := (h22 b nob).trans vb
  have hf2 : ∀ c z, c ≠ ob -> H c = some z -> H2 c = some z := fun c z hc hz => (h22 c hc).trans (lH1 _ _ hz)
  clear vo1 vp1 vb h22 lH1
  ((try (refine @unH _ ?_; refine zX Akb ?_)); (try (refine hK _ _ ?_; clear hK K; (try simp only [nq, ↓reduceIte, Nat.reduceEqDiff]))); refine @unH _ ?_; refine zA Akb ?_; (repeat (refine inC ?_; intro hc)); try (refine inK ?_; intro K hK))
  refine (Avn main H2 ob _ g.hi h21).runs.mono ?_
  rintro _ H3 ⟨rfl, h31, h32⟩
  ((try (refine @unH _ ?_; refine zX Akb ?_)); (try (refine hK _ _ ?_; clear hK K; (try simp only [nq, ↓reduceIte, Nat.reduceEqDiff]))); refine @unH _ ?_; refine zA Akb ?_; (repeat (refine inC ?_; intro hc)); try (refine inK ?_; intro K hK))
  (refine @unH _ ?_; refine zD Tryz.results105 ?_)
  exact ⟨rfl, h31, fun c z hc hz => (h32 c hc).trans (hf2 c z hc hz)⟩
 ·rw [if_neg hg]
  refine Aqm Tryz.func105 rfl Tryz.ntmps105 (by simp) ?_
  (refine @unH _ ?_; refine zA Akb ?_; (repeat (refine inC ?_; intro hc)); try (refine inK ?_; intro K hK))
  (intro b hb; generalize hG : Hp.set _ b _ = H1; have lH1 := Aqc hG hb; have vb := Aqb hG; clear hG)
  have vo1 := lH1 _ _ vo
  have vp1 := lH1 _ _ vp
  ((try (refine @unH _ ?_; refine zX Akb ?_)); (try (refine hK _ _ ?_; clear hK K; (try simp only [nq, ↓reduceIte, Nat.reduceEqDiff]))); refine @unH _ ?_; refine zA Akb ?_; (repeat (refine inC ?_; intro hc)); try (refine inK ?_; intro K hK))
  (refine @unH _ ?_; refine zD Tryz.results105 ?_)
  exact ⟨rfl, vo1, fun c z hc hz => lH1 _ _ hz⟩
def sinF (b : Bd) (x : Int × Int × Hint) : Bd := Aza b x.2.1
theorem Cxg (main : Md) (H : Hp) (ob : Nat) (ham hour : Int) (x : Hint) (hx : Axs x) (b : Bd) (vo : H ob = some (true, bdO b)) :
  FnX Tryz.prog main 118 #[.int .i64 ham, .int .i64 hour, .agg (Axy x).toArray, .pointer (some ⟨ob, 0, none⟩)] H fun e H' => e = .returned (.tuple #[]) /\ H' ob = some (true, bdO (sinF b (ham, hour, x))) /\ ∀ b x, b ≠ ob -> H b = some x -> H' b = some x := by
 have hl := Ax3 hx
 have hex := Ak8 hx
 unfold sinF
 simp only
 generalize Axy x = HC at *
 refine Aqm Tryz.func118 rfl Tryz.ntmps118 (by simp) ?_
 (refine @unH _ ?_; refine zA @Bq1 ?_; (repeat (refine inC ?_; intro hc)); try (refine inK ?_; intro K hK))
 (intro b hb; generalize hG : Hp.set _ b _ = H1; have lH1 := Aqc hG hb; have vb := Aqb hG; clear hG)
 have vo1 := lH1 _ _ vo
 ((try (refine @unH _ ?_; refine zX @Bq1 ?_)); (try (refine hK _ _ ?_; clear hK K; (try simp only [nq, ↓reduceIte, Nat.reduceEqDiff]))); refine @unH _ ?_; refine zA @Bq1 ?_; (repeat (refine inC ?_; intro hc)); try (refine inK ?_; intro K hK))
 refine (Avn main H1 ob _ hour vo1).runs.mono ?_
 rintro _ H2 ⟨rfl, h21, h22⟩
 ((try (refine @unH _ ?_; refine zX @Bq1 ?_)); (try (refine hK _ _ ?_; clear hK K; (try simp only [nq, ↓reduceIte, Nat.reduceEqDiff]))); refine @unH _ ?_; refine zA @Bq1 ?_; (repeat (refine inC ?_; intro hc)); try (refine inK ?_; intro K hK))
 (refine @unH _ ?_; refine zD Tryz.results118 ?_)
 exact ⟨rfl, h21, fun c z hc hz => (h22 c hc).trans (lH1 _ _ hz)⟩
theorem Ajd {H H' : Hp} {b : Nat} {o : Obj} (l : H.le H') (h : H b = none) : H.le (H'.set b o) := fun x z hz => by
 rw [Aqy (fun e => by rw [e, h] at hz; cases hz)]
 exact l _ _ hz
def comL (L : List (Int × Int × Hint)) (p : Int) : Bd := L.foldl (comF p) bd0
theorem Cvw (L : List (Int × Int × Hint)) (p : Int) (x : Int × Int × Hint) : comL (L ++ [x]) p = comF p (comL L p) x := by simp [comL]
def bdE (z : Int) (b : Bd) : Int × Int × Int := if z = 0 then (if b.some then (b.lo, b.hi, 0) else (0, 0, 11)) else (0, 0, z)
def comE (s : Sm) (p : Int) : Int × Int × Int := bdE (begE s [p] 0) (comL (susp s) p)
theorem Cq7 (H : Hp) (s : Sm) (dv hv nv : Value) (hs : SmIn H dv hv nv s) (ok : SmOk s) (p : Int) :
  FnX Tryz.prog (.wg Tryz.prog) 46 #[smV s.places dv hv nv, .int .i64 p] H fun e H' => e = .returned (.tuple #[.agg #[.int .i64 (comE s p).1, .int .i64 (comE s p).2.1], .int .i64 (comE s p).2.2]) /\ H.le H' := by
 obtain ⟨da, dc, ha, kc, na, nc, rfl, rfl, rfl, l1, l2, l3⟩ := hs.forms
 have hpp : begE s [p] 0 = 0 -> 0 <= p /\ p < 6 := Cvf ok
 have hr : comE s p = bdE (begE s [p] 0) (comL (susp s) p) := rfl
 have hbeg := fun H dv hv nv (hs : SmIn H dv hv nv s) pv (hp : SlI H pv [p]) => Aj4 H s dv hv nv hs ok 0 pv [p] hp (by simp)
 generalize begE s [p] 0 = z at *
 generalize comE s p = r at *
 replace hpp : Aqk _ := hpp
 replace hr : Aqk _ := hr
 replace hbeg : Aqk _ := hbeg
 refine Aqm Tryz.func46 rfl Tryz.ntmps46 (by simp) ?_
 (refine @unH _ ?_; refine zA Aje ?_; (repeat (refine inC ?_; intro hc)); try (refine inK ?_; intro K hK))
 (intro sb hsb qb hqb rb hrb; replace hrb : (Hp.set (Hp.set _ sb _) qb _) rb = none := hrb; replace hqb : (Hp.set _ sb _) qb = none := hqb; generalize hG : Hp.set _ sb _ = H1 at hqb hrb ⊢; have lH1 := Aqc hG hsb; have wsb := Aqb hG; clear hG; generalize hG : Hp.set _ qb _ = H2 at hrb ⊢; have lH2 := Aqc hG hqb; have wqb := Aqb hG; have nsbqb := Aqr wsb hqb; replace wsb := lH2 _ _ wsb; clear hG; generalize hG : Hp.set _ rb _ = H3; have lH3 := Aqc hG hrb; have vrb := Aqb hG; have vsb := lH3 _ _ wsb; have vqb := lH3 _ _ wqb; have nsbrb := Aqr wsb hrb; have nqbrb := Aqr wqb hrb; clear hG wsb wqb)
 have l03 := Hp.le_trans lH1 (Hp.le_trans lH2 lH3)
 have hs3 := hs.le l03
 have h0rb := Hp.le_none (Hp.le_trans lH1 lH2) hrb
 clear lH1 lH2 lH3 hsb hqb hrb hs
 ((try (refine @unH _ ?_; refine zX Aje ?_)); (try (refine hK _ _ ?_; clear hK K; (try simp only [nq, ↓reduceIte, Nat.reduceEqDiff]))); refine @unH _ ?_; refine zA Aje ?_; (repeat (refine inC ?_; intro hc)); try (refine inK ?_; intro K hK))
 (intro pb hpb; generalize hG : Hp.set _ pb _ = H4; have lH4 := Aqc hG hpb; have vpb := Aqb hG; clear hG)
 have hs4 := hs3.le lH4
 have l04 := Hp.le_trans l03 lH4
 have vr4 := lH4 _ _ vrb
 have vq4 := lH4 _ _ vqb
 have hp4 : SlI H4 (.slice (some ⟨pb, 0, none⟩) 1 1) [p] := Dv1 vpb
 clear hs3 l03 lH4 vrb vqb vsb vpb hpb
 refine ((show ∀ H dv hv nv (hs : SmIn H dv hv nv s) pv (hp : SlI H pv [p]), _ from hbeg) H4 _ _ _ hs4 _ hp4).runs.mono ?_
 clear hbeg
 rintro _ H5 ⟨v, rfl, lH5, hv, _⟩
 have l05 := Hp.le_trans l04 lH5
 have vr5 := lH5 _ _ vr4
 have vq5 := lH5 _ _ vq4
 clear hs4 hp4 lH5 l04 vr4 vq4
 by_cases hz : z = 0
 ·subst hz
  replace hv := hv (.inl rfl)
  obtain ⟨p0, p1⟩ := hpp rfl
  clear hpp
  ((try (refine @unH _ ?_; refine zX Aje ?_)); (try (refine hK _ _ ?_; clear hK K; (try simp only [nq, ↓reduceIte, Nat.reduceEqDiff]))); refine @unH _ ?_; refine zA Aje ?_; (repeat (refine inC ?_; intro hc)); try (refine inK ?_; intro K hK))
  intro ob hob
  have nqo := Aqr vq5 hob
  have nro := Aqr vr5 hob
  ((try (refine @unH _ ?_; refine zX Aje ?_)); (try (refine hK _ _ ?_; clear hK K; (try simp only [nq, ↓reduceIte, Nat.reduceEqDiff]))); refine @unH _ ?_; refine zA Aje ?_; (repeat (refine inC ?_; intro hc)); try (refine inK ?_; intro K hK))
  generalize hG : Hp.set H5 ob _ = H6
  have lH6 := Aqc hG hob
  have vo6 := Aqb hG
  have vq6 := Aqh hG vq5 nqo
  have vr6 := Aqh hG vr5 nro
  have h0ob := Hp.le_none l05 hob
  clear hG vq5 vr5
  have hone := Bw3 (.wg Tryz.prog) (A := fun _ _ _ => True) (yf := .func 105) (yi := #[]) (yc := #[.pointer (some ⟨qb, 0, none⟩), .pointer (some ⟨ob, 0, none⟩)]) H5 H6 _ _ hv ob (fun L => bdO (comL L p)) lH6 hob (by rw [vo6]; rfl) (fun L H' ham hour x g1 g2 hxo _ => by
   refine Aj1.fn (fun _ _ => Cy8 _) ((Cqi _ H' ob qb p p0 p1 ham hour x hxo _ g1 (g2 _ _ nqo vq6) nqo).mono ?_)
   rintro _ H4 ⟨rfl, h3, h4⟩
   exact ⟨rfl, by rw [h3, Cvw], h4⟩) (Aj5 ok) (fun _ _ _ _ _ _ => trivial) (by rw [Az8]; have := ok.h1; omega)
  refine hone.runs.mono ?_
  clear hone
  rintro _ H7 ⟨rfl, h3, h4⟩
  have l07 : H.le H7 := fun b x hx => h4 b x (fun e => by rw [e, h0ob] at hx; cases hx) (lH6 _ _ (l05 _ _ hx))
  have vr7 := h4 _ _ nro vr6
  replace hr : Aqk (r = bdE 0 (comL (susp s) p)) := hr
  rw [show Az7 (Axn s) = susp s from rfl] at h3
  generalize comL (susp s) p = w at *
  clear h4 vr6 vq6 vo6 l05 lH6 hv
  obtain ⟨lo, hi, sm⟩ := w
  cases sm with
  | true =>
   ((try (refine @unH _ ?_; refine zX Aje ?_)); (try (refine hK _ _ ?_; clear hK K; (try simp only [nq, ↓reduceIte, Nat.reduceEqDiff]))); refine @unH _ ?_; refine zA Aje ?_; (repeat (refine inC ?_; intro hc)); try (refine inK ?_; intro K hK))
   (refine Axu ?_; (try simp only [nq, ↓reduceIte, Nat.reduceEqDiff]); rw [Aq8, results_cell_tmp Tryz.results46 (by decide) (by decide) (b := rb) (o := 0) rfl Tryz.underlying28 rfl Tryz.sizeOf28]; simp -implicitDefEqProofs (disch := first | omega | (simp only [qd] <;> omega)) only [xq, ↓xp, qc, Nat.reduceAdd, List.range, List.range.loop, fine, Nat.reduceEqDiff, ↓reduceIte, yielded, reduceCtorEq, Nat.reduceLT, Nat.reduceMul, Nat.reduceSub, one, Nat.reduceLeDiff, Aqi, Aje, Axm, List.extract_toArray])
   exact ⟨by rw [show r = _ from hr]; rfl, Ajd l07 h0rb⟩
  | false =>
   ((try (refine @unH _ ?_; refine zX Aje ?_)); (try (refine hK _ _ ?_; clear hK K; (try simp only [nq, ↓reduceIte, Nat.reduceEqDiff]))); refine @unH _ ?_; refine zA Aje ?_; (repeat (refine inC ?_; intro hc)); try (refine inK ?_; intro K hK))
   (refine Axu ?_; (try simp only [nq, ↓reduceIte, Nat.reduceEqDiff]); rw [Aq8, results_cell_tmp Tryz.results46 (by decide) (by decide) (b := rb) (o := 0) rfl Tryz.underlying28 rfl Tryz.sizeOf28]; simp -implicitDefEqProofs (disch := first | omega | (simp only [qd] <;> omega)) only [xq, ↓xp, qc, Nat.reduceAdd, List.range, List.range.loop, fine, Nat.reduceEqDiff, ↓reduceIte, yielded, reduceCtorEq, Nat.reduceLT, Nat.reduceMul, Nat.reduceSub, one, Nat.reduceLeDiff, Aqi, Aje, Axm, List.extract_toArray])
   exact ⟨by rw [show r = _ from hr]; rfl, Ajd l07 h0rb⟩
 ·clear hv hpp
  ((try (refine @unH _ ?_; refine zX Aje ?_)); (try (refine hK _ _ ?_; clear hK K; (try simp only [nq, ↓reduceIte, Nat.reduceEqDiff]))); refine @unH _ ?_; refine zA Aje ?_; (repeat (refine inC ?_; intro hc)); try (refine inK ?_; intro K hK))
  (refine Axu ?_; (try simp only [nq, ↓reduceIte, Nat.reduceEqDiff]); rw [Aq8, results_cell_tmp Tryz.results46 (by decide) (by decide) (b := rb) (o := 0) rfl Tryz.underlying28 rfl Tryz.sizeOf28]; simp -implicitDefEqProofs (disch := first | omega | (simp only [qd] <;> omega)) only [xq, ↓xp, qc, Nat.reduceAdd, List.range, List.range.loop, fine, Nat.reduceEqDiff, ↓reduceIte, yielded, reduceCtorEq, Nat.reduceLT, Nat.reduceMul, Nat.reduceSub, one, Nat.reduceLeDiff, Aqi, Aje, Axm, List.extract_toArray])
  exact ⟨by rw [show r = _ from hr, bdE, if_neg hz], Ajd l05 h0rb⟩
def Ax4 := And.intro (fun H => Aqw (H := H) (P := Tryz.prog) (h := Tryz.zeroValue28)) (And.intro (fun H => Aqp (H := H) Tryz.underlying26 rfl Tryz.sizeOf26) (And.intro @Bk9 (And.intro @Bzq (And.intro (fun H => Aqt (H := H) Tryz.sizeOf28) (And.intro (fun H => Aqd (H := H) Tryz.underlying26 (i := 2) rfl (off := 2) rfl Tryz.sizeOf23) (And.intro (fun H => Aqf (H := H) Tryz.underlying23 rfl) (And.intro (fun H => Aq7 (H := H) Tryz.underlying23) (And.intro @Ayr (And.intro (fun H => Aqw (H := H) (P := Tryz.prog) (h := Tryz.zeroValue120)) (And.intro @Bk8 (And.intro (fun H => Bvy (H := H) Tryz.underlying114 Tryz.sizeOf160) (And.intro (fun H => Bvz (H := H) Tryz.underlying114 Tryz.sizeOf160) (And.intro (fun H => Bxj (H := H) Tryz.underlying114 Tryz.sizeOf160) (And.intro (fun H => Bxv (H := H) Tryz.underlying114 Tryz.sizeOf160) (And.intro @Bqe (And.intro (fun H => Aqd (H := H) Tryz.underlying120 (i := 2) rfl (off := 2) rfl Tryz.sizeOf4) (And.intro (fun H => Aqf (H := H) Tryz.underlying4 rfl) (And.intro (fun H => Aqd (H := H) Tryz.underlying120 (i := 0) rfl (off := 0) rfl Tryz.sizeOf3) (And.intro (fun H => Aqf (H := H) Tryz.underlying3 rfl) (And.intro (fun H => Aqd (H := H) Tryz.underlying120 (i := 1) rfl (off := 1) rfl Tryz.sizeOf3) @Ajo))))))))))))))))))))
theorem Dwb {p q : Prop} (g : q) (h : Hid q -> p := by
 intro g
 repeat' (first
 | (refine Ax5 rfl ?_; intro Kz hKz; simp -implicitDefEqProofs (disch := first | omega | (simp only [qd] <;> omega)) only [xq, ↓xp, qc, Nat.reduceAdd, List.range, List.range.loop, fine, Nat.reduceEqDiff, ↓reduceIte, yielded, reduceCtorEq, Nat.reduceLT, Nat.reduceMul, Nat.reduceSub, one, Nat.reduceLeDiff, Aqi, Ax4, aq, ↓ap, qe0, qe1, qe2, *, -g, -hKz, Ay2 Tryz.underlying114 Tryz.sizeOf160]; try (refine hKz _ _ ?_; clear hKz Kz))
 | (refine Ajj rfl ?_; intro Kz hKz; simp -implicitDefEqProofs (disch := first | omega | (simp only [qd] <;> omega)) only [xq, ↓xp, qc, Nat.reduceAdd, List.range, List.range.loop, fine, Nat.reduceEqDiff, ↓reduceIte, yielded, reduceCtorEq, Nat.reduceLT, Nat.reduceMul, Nat.reduceSub, one, Nat.reduceLeDiff, Aqi, Ax4, aq, ↓ap, qe0, qe1, qe2, *, -g, -hKz, Ay2 Tryz.underlying114 Tryz.sizeOf160]; try (refine hKz _ _ ?_; clear hKz Kz; (try simp only [nq, ↓reduceIte, Nat.reduceEqDiff])))
 | (refine Az1 ?_; (try simp only [nq, ↓reduceIte, Nat.reduceEqDiff]))
 | (refine Az9 ?_; (try simp only [nq, ↓reduceIte, Nat.reduceEqDiff]))
 | (refine Ajw ?_; (try simp only [nq, ↓reduceIte, Nat.reduceEqDiff]))
 | (refine Aj9 ?_; (try simp only [nq, ↓reduceIte, Nat.reduceEqDiff]))
 | (refine Aji (by simp only [Axb, Axk, Nat.reduceEqDiff, Nat.reduceLT, ↓reduceIte, *, -g]; rfl) ?_ ?_ <;> (intro hcz; first | (exfalso; simp -implicitDefEqProofs (disch := omega) only [*, -g, bq, reduceCtorEq] at hcz; done) | (simp only [dq, qe3, qe4, qe5, qe6] at hcz) | skip))
 | (refine Ajc ?_)
 | (refine Azb ?_)
 | (refine Axr ?_))
 (try (revert Kz; refine unK ?_)); (repeat (revert hcz; refine unC ?_))
 exact Hid.out g) : Hid p := ⟨h ⟨g⟩⟩
theorem Dwa {p q : Prop} (g : q) (h : Hid q -> p := by
 intro g
 simp -implicitDefEqProofs (disch := first | omega | (simp only [qd] <;> omega)) only [xq, ↓xp, qc, Nat.reduceAdd, List.range, List.range.loop, fine, Nat.reduceEqDiff, ↓reduceIte, yielded, reduceCtorEq, Nat.reduceLT, Nat.reduceMul, Nat.reduceSub, one, Nat.reduceLeDiff, Aqi, Ax4, aq, ↓ap, qe0, qe1, qe2, *, -g, -hK, Ay2 Tryz.underlying114 Tryz.sizeOf160]
 exact Hid.out g) : Hid p := ⟨h ⟨g⟩⟩
theorem Ay2 {P : Program} {H : Hp} {t e : TypeId} (hu : P.underlying t = some (.slice e)) {n : Nat} (hs : ∀ w, (sizeOf e).run P w = .ok n w) (b o len cap : Nat) (k k' k'' : IntKind) (i j m : Int) (h0 : 0 <= i) (h1 : i <= j) (h2 : j <= m) (h3 : m <= cap) (hne : i < m) (K : Value -> Hp -> Prop) (E : Value -> Hp -> Prop) :
  wpS P (Instr.sliceAt t (.slice (some ⟨b, o, none⟩) len cap) (some (.int k i)) (some (.int k' j)) (some (.int k'' m))) H K E = K (.slice (some ⟨b, o + i.toNat * n, none⟩) (j.toNat - i.toNat) (m.toNat - i.toNat)) H := by
 unfold Instr.sliceAt Instr.slice Instr.sliceBounds
 have hm : j <= (m.toNat : Int) := by omega
 have hj : i <= (j.toNat : Int) := by omega
 have hne' : ¬ m.toNat = i.toNat := by omega
 simp [-bind_pure_comp, Aqa, Aqj hu, Aqe, Ajg k'' m cap _ (by omega) h3, Ajg k' j m.toNat _ (by omega) hm, Ajg k i j.toNat _ h0 hj, Aq0 hs, Akh, hne']
def sinL (L : List (Int × Int × Hint)) : Bd := L.foldl sinF bd0
theorem Cw8 (L : List (Int × Int × Hint)) (x : Int × Int × Hint) : sinL (L ++ [x]) = sinF (sinL L) x := by simp [sinL]
def sinE (s : Sm) (i : Int) : Int × Int × Int := bdE (if i < 0 ∨ (s.hampers.length : Int) - 1 < i then 3 else 0) (sinL (Bxm (Azw s i.toNat)))
theorem SlT.only {H : Hp} {s : Sm} {a : Option Addr} {n cap : Nat} (h : SlT H (.slice a n cap) (Axn s)) {i : Nat} (hi : i < s.hampers.length) : ∃ b o, a = some ⟨b, o, none⟩ /\ SlT H (.slice (some ⟨b, o + i * 326, none⟩) 1 1) [Azw s i] := by
 have hx : ((Axn s).map Axe)[i]? = some (Axe (Azw s i)) := by
  unfold Axn
  rw [List.getElem?_map, List.getElem?_map, List.getElem?_range hi]
  rfl
 obtain ⟨b, o, p, c, fr, rfl, h2, h3, h4, h5⟩ := SlG.get h hx
 refine ⟨b, o, rfl, some ⟨b, o + i * 326, none⟩, 1, rfl, by simp, fun j r hr => ?_⟩
 rcases j with _ | j
 ·simp only [List.map_cons, List.getElem?_cons_zero, Option.some.injEq] at hr
  subst hr
  exact ⟨b, o + i * 326, p, c, fr, rfl, h2, by omega, h4, by simpa using h5⟩
 ·simp at hr
theorem Cj5 (main : Md) {A : Int -> Int -> Hint -> Prop} {yf : Fn} {yi yc : Array Value} (H2 : Hp) (v : Value) (l : List Trail) (hv : SlT H2 v l) (ob : Nat) (O : List (Int × Int × Hint) -> Obj) (h0 : ∀ p c fr, H2 ob ≠ some (p, .cells c 160 fr)) (vo : H2 ob = some (true, O []))
  (h : ∀ L H' ham hour x, H' ob = some (true, O L) -> (∀ b z, b ≠ ob -> H2 b = some z -> H' b = some z) -> Axs x -> A ham hour x -> Aj1 Tryz.prog main (.func yf yi yc) #[.int .i64 ham, .int .i64 hour, .agg (Axy x).toArray] H' fun e H'' => e = .returned (.tuple #[]) /\ H'' ob = some (true, O (L ++ [(ham, hour, x)])) /\ ∀ b z, b ≠ ob -> H' b = some z -> H'' b = some z)
  (hok : ∀ t ∈ l, Ax6 t) (hA : ∀ t ∈ l, ∀ (h : Nat) x, t.hs[h]? = some x -> x.some = true -> A t.ham h x) (hl : l.length <= 1000) :
  FnX Tryz.prog main 104 #[v, .func yf yi yc] H2 fun e H' => e = .returned (.tuple #[]) /\ H' ob = some (true, O (Az7 l)) /\ ∀ b x, b ≠ ob -> H2 b = some x -> H' b = some x :=
 (Aw5 main (Cwh H2 ob O vo h) H2 v l (fun L H' h _ => hv.move fun x p c fr hx => ⟨p, h.2 x _ (fun e => h0 p c fr (by rw [<- e]; exact hx)) hx⟩) hok hA hl [] ⟨vo, fun _ _ _ hx => hx⟩).mono fun e H' ⟨h1, h2, _⟩ => ⟨h1, by simpa using h2.1, h2.2⟩
theorem Cxd (H : Hp) (s : Sm) (dv hv nv : Value) (hs : SmIn H dv hv nv s) (ok : SmOk s) (i : Int) :
  FnX Tryz.prog (.wg Tryz.prog) 60 #[smV s.places dv hv nv, .int .i64 i] H fun e H' => e = .returned (.tuple #[.agg #[.int .i64 (sinE s i).1, .int .i64 (sinE s i).2.1], .int .i64 (sinE s i).2.2]) /\ H.le H' := by
 obtain ⟨da, dc, ha, kc, na, nc, rfl, rfl, rfl, l1, l2, l3⟩ := hs.forms
 have hr : sinE s i = bdE (if i < 0 ∨ (s.hampers.length : Int) - 1 < i then 3 else 0) (sinL (Bxm (Azw s i.toNat))) := rfl
 have h3 := ok.h1
 have h1 := ok.h0
 have e := ok.p1
 clear e
 generalize sinE s i = r at *
 by_cases hi : i < 0 ∨ (s.hampers.length : Int) - 1 < i
 ·have hdo : (decide (i < 0) || decide ((s.hampers.length : Int) - 1 < i)) = true := by simpa using hi
  rw [if_pos hi] at hr
  replace hr : Aqk _ := hr
  replace hdo : Aqk _ := hdo
  clear hi
  refine Aqm Tryz.func60 rfl Tryz.ntmps60 (by simp) ?_
  (refine @unH _ ?_; refine zA Ax4 ?_; (repeat (refine inC ?_; intro hc)); try (refine inK ?_; intro K hK))
  (intro sb hsb rb hrb; replace hrb : (Hp.set _ sb _) rb = none := hrb; generalize hG : Hp.set _ sb _ = H1 at hrb ⊢; have lH1 := Aqc hG hsb; have wsb := Aqb hG; clear hG; generalize hG : Hp.set _ rb _ = H2; have lH2 := Aqc hG hrb; have vrb := Aqb hG; have vsb := lH2 _ _ wsb; have nsbrb := Aqr wsb hrb; clear hG wsb)
  have l02 := Hp.le_trans lH1 lH2
  have hs2 := hs.le l02
  have h0rb := Hp.le_none lH1 hrb
  clear lH1 lH2 hsb hrb hs
  ((try (refine @unH _ ?_; refine zX Ax4 ?_)); (try (refine hK _ _ ?_; clear hK K; (try simp only [nq, ↓reduceIte, Nat.reduceEqDiff]))); refine @unH _ ?_; refine zA Ax4 ?_; (repeat (refine inC ?_; intro hc)); try (refine inK ?_; intro K hK))
  refine (Avs _ H2 s _ _ _ hs2 ok).runs.mono ?_
  rintro _ H3 ⟨rfl, lH3⟩
  have l03 := Hp.le_trans l02 lH3
  have vr3 := lH3 _ _ vrb
  have vs3 := lH3 _ _ vsb
  clear l02 lH3 vrb vsb hs2
  ((try (refine @unH _ ?_; refine zX Ax4 ?_)); (try (refine hK _ _ ?_; clear hK K; (try simp only [nq, ↓reduceIte, Nat.reduceEqDiff]))); refine @unH _ ?_; refine zA Ax4 ?_; (repeat (refine inC ?_; intro hc)); try (refine inK ?_; intro K hK))
  refine (Axj _ H3 i 0 _).runs.mono ?_
  rintro _ _ ⟨rfl, hQ⟩
  rw [hQ, show (decide (i < 0) || decide ((s.hampers.length : Int) - 1 < i)) = true from hdo]; clear hQ
  ((try (refine @unH _ ?_; refine zX Ax4 ?_)); (try (refine hK _ _ ?_; clear hK K; (try simp only [nq, ↓reduceIte, Nat.reduceEqDiff]))); refine @unH _ ?_; refine zA Ax4 ?_; (repeat (refine inC ?_; intro hc)); try (refine inK ?_; intro K hK))
  (refine Axu ?_; (try simp only [nq, ↓reduceIte, Nat.reduceEqDiff]); rw [Aq8, results_cell_tmp Tryz.results60 (by decide) (by decide) (b := rb) (o := 0) rfl Tryz.underlying28 rfl Tryz.sizeOf28]; simp -implicitDefEqProofs (disch := first | omega | (simp only [qd] <;> omega)) only [xq, ↓xp, qc, Nat.reduceAdd, List.range, List.range.loop, fine, Nat.reduceEqDiff, ↓reduceIte, yielded, reduceCtorEq, Nat.reduceLT, Nat.reduceMul, Nat.reduceSub, one, Nat.reduceLeDiff, Aqi, Ax4, Axm, List.extract_toArray])
  exact ⟨by rw [show r = _ from hr]; rfl, Ajd l03 h0rb⟩
 ·have hdo : (decide (i < 0) || decide ((s.hampers.length : Int) - 1 < i)) = false := by simpa using hi
  rw [if_neg hi] at hr
  replace hdo : Aqk _ := hdo
  obtain ⟨k, rfl⟩ : ∃ k : Nat, i = (k : Int) := ⟨i.toNat, by omega⟩
  have hk : k < s.hampers.length := by omega
  replace hr : Aqk (r = bdE 0 (sinL (Bxm (Azw s k)))) := hr
  clear hi
  refine Aqm Tryz.func60 rfl Tryz.ntmps60 (by simp) ?_
  (refine @unH _ ?_; refine zA Ax4 ?_; (repeat (refine inC ?_; intro hc)); try (refine inK ?_; intro K hK))
  (intro sb hsb rb hrb; replace hrb : (Hp.set _ sb _) rb = none := hrb; generalize hG : Hp.set _ sb _ = H1 at hrb ⊢; have lH1 := Aqc hG hsb; have wsb := Aqb hG; clear hG; generalize hG : Hp.set _ rb _ = H2; have lH2 := Aqc hG hrb; have vrb := Aqb hG; have vsb := lH2 _ _ wsb; have nsbrb := Aqr wsb hrb; clear hG wsb)
  have l02 := Hp.le_trans lH1 lH2
  have hs2 := hs.le l02
  have h0rb := Hp.le_none lH1 hrb
  clear lH1 lH2 hsb hrb hs
  ((try (refine @unH _ ?_; refine zX Ax4 ?_)); (try (refine hK _ _ ?_; clear hK K; (try simp only [nq, ↓reduceIte, Nat.reduceEqDiff]))); refine @unH _ ?_; refine zA Ax4 ?_; (repeat (refine inC ?_; intro hc)); try (refine inK ?_; intro K hK))
  refine (Avs _ H2 s _ _ _ hs2 ok).runs.mono ?_
  rintro _ H3 ⟨rfl, lH3⟩
  have l03 := Hp.le_trans l02 lH3
  have vr3 := lH3 _ _ vrb
  have vs3 := lH3 _ _ vsb
  have hs3 := hs2.le lH3
  clear l02 lH3 vrb vsb hs2
  ((try (refine @unH _ ?_; refine zX Ax4 ?_)); (try (refine hK _ _ ?_; clear hK K; (try simp only [nq, ↓reduceIte, Nat.reduceEqDiff]))); refine @unH _ ?_; refine zA Ax4 ?_; (repeat (refine inC ?_; intro hc)); try (refine inK ?_; intro K hK))
  refine (Axj _ H3 k 0 _).runs.mono ?_
  rintro _ _ ⟨rfl, hQ⟩
  rw [hQ, show (decide ((k : Int) < 0) || decide ((s.hampers.length : Int) - 1 < k)) = false from hdo]; clear hQ hdo
  ((try (refine @unH _ ?_; refine zX Ax4 ?_)); (try (refine hK _ _ ?_; clear hK K; (try simp only [nq, ↓reduceIte, Nat.reduceEqDiff]))); refine @unH _ ?_; refine zA Ax4 ?_; (repeat (refine inC ?_; intro hc)); try (refine inK ?_; intro K hK))
  intro ob hob
  have nro := Aqr vr3 hob
  have nso := Aqr vs3 hob
  have h0ob := Hp.le_none l03 hob
  generalize hG : Hp.set H3 ob _ = H4
  have lH4 := Aqc hG hob
  have vo4 := Aqb hG
  have hs4 := hs3.le lH4
  have l04 := Hp.le_trans l03 lH4
  have vr4 := lH4 _ _ vr3
  have vs4 := lH4 _ _ vs3
  clear hG l03 vr3 vs3 hs3 lH4
  ((try (refine @unH _ ?_; refine zX Ax4 ?_)); (try (refine hK _ _ ?_; clear hK K; (try simp only [nq, ↓reduceIte, Nat.reduceEqDiff]))); refine @unH _ ?_; refine zA Ax4 ?_; (repeat (refine inC ?_; intro hc)); try (refine inK ?_; intro K hK))
  refine (Ay4 H4 s _ _ _ hs4 ok).runs.mono ?_
  rintro _ H5 ⟨v, rfl, hv, lH5⟩
  have l05 := Hp.le_trans l04 lH5
  have vr5 := lH5 _ _ vr4
  have vo5 := lH5 _ _ vo4
  obtain ⟨ta, tcap, rfl, htc⟩ := hv.isSlice
  obtain ⟨tb, to, rfl, hone1⟩ := hv.only hk
  clear lH5 vr4 vo4 l04 hs4 vs4 hv
  rw [Az8] at htc ⊢
  ((try (refine @unH _ ?_; refine Dwa ?_)); (try (refine hK _ _ ?_; clear hK K; (try simp only [nq, ↓reduceIte, Nat.reduceEqDiff]))); refine @unH _ ?_; refine Dwb ?_; (repeat (refine inC ?_; intro hc)); try (refine inK ?_; intro K hK))
  rw [show ((k : Int) + 1).toNat - k = 1 by omega]
  have hone := Cj5 (.wg Tryz.prog) (A := fun _ _ _ => True) (yf := .func 118) (yi := #[]) (yc := #[.pointer (some ⟨ob, 0, none⟩)]) H5 _ _ hone1 ob (fun L => bdO (sinL L)) (fun p c fr e => by rw [vo5] at e; simp at e) (by rw [vo5]; rfl) (fun L H' ham hour x g1 g2 hxo _ => by
   refine Aj1.fn (fun _ _ => Dqb _) ((Cxg _ H' ob ham hour x hxo _ g1).mono ?_)
   rintro _ H4 ⟨rfl, h3, h4⟩
   exact ⟨rfl, by rw [h3, Cw8], h4⟩) (fun t ht => by
    simp only [List.mem_cons, List.not_mem_nil, or_false] at ht
    subst ht
    exact Awt ok k) (fun _ _ _ _ _ _ => trivial) (by simp)
  refine hone.runs.mono ?_
  clear hone hone1
  rintro _ H7 ⟨rfl, h3, h4⟩
  have l07 : H.le H7 := fun b x hx => h4 b x (fun e => by rw [e, h0ob] at hx; cases hx) (l05 _ _ hx)
  have vr7 := h4 _ _ nro vr5
  rw [show Az7 [Azw s k] = Bxm (Azw s k) from List.append_nil _] at h3
  generalize sinL (Bxm (Azw s k)) = w at *
  clear h4 vr5 vo5 l05
  obtain ⟨lo, hi, sm⟩ := w
  cases sm with
  | true =>
   ((try (refine @unH _ ?_; refine zX Ax4 ?_)); (try (refine hK _ _ ?_; clear hK K; (try simp only [nq, ↓reduceIte, Nat.reduceEqDiff]))); refine @unH _ ?_; refine zA Ax4 ?_; (repeat (refine inC ?_; intro hc)); try (refine inK ?_; intro K hK))
   (refine Axu ?_; (try simp only [nq, ↓reduceIte, Nat.reduceEqDiff]); rw [Aq8, results_cell_tmp Tryz.results60 (by decide) (by decide) (b := rb) (o := 0) rfl Tryz.underlying28 rfl Tryz.sizeOf28]; simp -implicitDefEqProofs (disch := first | omega | (simp only [qd] <;> omega)) only [xq, ↓xp, qc, Nat.reduceAdd, List.range, List.range.loop, fine, Nat.reduceEqDiff, ↓reduceIte, yielded, reduceCtorEq, Nat.reduceLT, Nat.reduceMul, Nat.reduceSub, one, Nat.reduceLeDiff, Aqi, Ax4, Axm, List.extract_toArray])
   exact ⟨by rw [show r = _ from hr]; rfl, Ajd l07 h0rb⟩
  | false =>
   ((try (refine @unH _ ?_; refine zX Ax4 ?_)); (try (refine hK _ _ ?_; clear hK K; (try simp only [nq, ↓reduceIte, Nat.reduceEqDiff]))); refine @unH _ ?_; refine zA Ax4 ?_; (repeat (refine inC ?_; intro hc)); try (refine inK ?_; intro K hK))
   (refine Axu ?_; (try simp only [nq, ↓reduceIte, Nat.reduceEqDiff]); rw [Aq8, results_cell_tmp Tryz.results60 (by decide) (by decide) (b := rb) (o := 0) rfl Tryz.underlying28 rfl Tryz.sizeOf28]; simp -implicitDefEqProofs (disch := first | omega | (simp only [qd] <;> omega)) only [xq, ↓xp, qc, Nat.reduceAdd, List.range, List.range.loop, fine, Nat.reduceEqDiff, ↓reduceIte, yielded, reduceCtorEq, Nat.reduceLT, Nat.reduceMul, Nat.reduceSub, one, Nat.reduceLeDiff, Aqi, Ax4, Axm, List.extract_toArray])
   exact ⟨by rw [show r = _ from hr]; rfl, Ajd l07 h0rb⟩
def surM (L : List (Int × Int × Hint)) (h : Int) : Nat -> Nat
 | 0 => 0
 | k + 1 => if Av2 (arrL L k) h = 1 then Awc (surM L h k) k else surM L h k
theorem Cxl (L : List (Int × Int × Hint)) (h : Int) : ∀ k, k <= 6 -> surM L h k < 64
 | 0, _ => by show 0 < 64; decide
 | k + 1, hk => by
  have := Cxl L h k (by omega)
  unfold surM
  split
  ·exact Cz2 (n := (k : Int)) this (by omega) (by omega)
  ·exact this
def Ax1 := And.intro (fun H => Aqp (H := H) Tryz.underlying26 rfl Tryz.sizeOf26) (And.intro (fun H => Aqf (H := H) Tryz.underlying3 rfl) (And.intro @Bq8 (And.intro @Bva (And.intro (fun H => Aqd (H := H) Tryz.underlying26 (i := 0) rfl (off := 0) rfl Tryz.sizeOf3) (And.intro (fun H => Aqw (H := H) (P := Tryz.prog) (h := Tryz.zeroValue3)) (And.intro (fun H => Axi (H := H) Tryz.sizeOf3) (And.intro @By8 (And.intro @By9 (And.intro (fun H => Aq7 (H := H) Tryz.underlying126) (And.intro (fun H => Aqv (H := H) Tryz.underlying126 Tryz.sizeOf125) (And.intro (fun H => Aqp (H := H) Tryz.underlying125 rfl Tryz.sizeOf125) (And.intro (fun H => Aqw (H := H) (P := Tryz.prog) (h := Tryz.zeroValue125)) (And.intro (fun H => Aqt (H := H) Tryz.sizeOf125) (And.intro (fun H => Aqd (H := H) Tryz.underlying125 (i := 0) rfl (off := 0) rfl Tryz.sizeOf118) (And.intro (fun H => Aqf (H := H) Tryz.underlying118 rfl) @Bvn)))))))))))))))
def Bv9 := And.intro (fun H => Aqf (H := H) Tryz.underlying3 rfl) (And.intro (fun H => Aqd (H := H) Tryz.underlying123 (i := 0) rfl (off := 0) rfl Tryz.sizeOf121) (And.intro (fun H => Aq5 (H := H) Tryz.underlying121 Tryz.sizeOf120) (fun H => Aqd (H := H) Tryz.underlying120 (i := 0) rfl (off := 0) rfl Tryz.sizeOf3)))
def Bwa := And.intro (fun H => Aqf (H := H) Tryz.underlying3 rfl) (And.intro (fun H => Aqd (H := H) Tryz.underlying123 (i := 0) rfl (off := 0) rfl Tryz.sizeOf121) (And.intro (fun H => Aq5 (H := H) Tryz.underlying121 Tryz.sizeOf120) (fun H => Aqd (H := H) Tryz.underlying120 (i := 1) rfl (off := 1) rfl Tryz.sizeOf3)))
theorem Cxi (main : Md) (H : Hp) (pb hb : Nat) (p hour : Int) (h0 : 0 <= p) (h1 : p < 6) (x : Hint) (hx : Axs x) (q1 q2 : Bool) (f1 f2 : Nat × Nat) (vp : H pb = some (q1, .cells #[.int .i64 p] 3 f1)) (vh : H hb = some (q2, .cells #[.int .i64 hour] 3 f2)) :
  FnX Tryz.prog main 96 #[.agg (Axy x).toArray, .pointer (some ⟨pb, 0, none⟩), .pointer (some ⟨hb, 0, none⟩)] H fun e H' => e = .returned (.bool (decide ((gB x p).lo <= hour))) /\ H.le H' := by
 have hl := Ax3 hx
 have hex := Ak8 hx
 obtain ⟨hb1, hb2, _⟩ := Bql hx (Czq hx h0 h1)
 generalize gB x p = g at *
 generalize Axy x = HC at *
 refine Aqm Tryz.func96 rfl Tryz.ntmps96 (by simp) ?_
 (refine @unH _ ?_; refine zA Bv9 ?_; (repeat (refine inC ?_; intro hc)); try (refine inK ?_; intro K hK))
 (intro xb hxb; generalize hG : Hp.set _ xb _ = H1; have lH1 := Aqc hG hxb; have vxb := Aqb hG; clear hG)
 have vp1 := lH1 _ _ vp
 have vh1 := lH1 _ _ vh
 ((try (refine @unH _ ?_; refine zX Bv9 ?_)); (try (refine hK _ _ ?_; clear hK K; (try simp only [nq, ↓reduceIte, Nat.reduceEqDiff]))); refine @unH _ ?_; refine zA Bv9 ?_; (repeat (refine inC ?_; intro hc)); try (refine inK ?_; intro K hK))
 (refine Akm 8 [(true, 0), (true, 1), (true, 2), (true, 3), (true, 4), (true, 5), (true, 6), (true, 7)] (by kernel_rfl) (by kernel_rfl) (by simp) (by kernel_rfl) ?_; intro K hK; (iterate 8 (refine @unH _ ?_; refine z3 Bv9 ?_)); refine Ak9 (hK _ _ ?_); clear hK K; (try simp only [nq, ↓reduceIte, Nat.reduceEqDiff]))
 (refine @unH _ ?_; refine z9 Tryz.results96 ?_)
 exact ⟨trivial, lH1⟩
theorem Cxj (main : Md) (H : Hp) (pb hb : Nat) (p hour : Int) (h0 : 0 <= p) (h1 : p < 6) (x : Hint) (hx : Axs x) (q1 q2 : Bool) (f1 f2 : Nat × Nat) (vp : H pb = some (q1, .cells #[.int .i64 p] 3 f1)) (vh : H hb = some (q2, .cells #[.int .i64 hour] 3 f2)) :
  FnX Tryz.prog main 97 #[.agg (Axy x).toArray, .pointer (some ⟨pb, 0, none⟩), .pointer (some ⟨hb, 0, none⟩)] H fun e H' => e = .returned (.bool (decide (hour < (gB x p).hi))) /\ H.le H' := by
 have hl := Ax3 hx
 have hex := Ak8 hx
 obtain ⟨hb1, hb2, _⟩ := Bql hx (Czq hx h0 h1)
 generalize gB x p = g at *
 generalize Axy x = HC at *
 refine Aqm Tryz.func97 rfl Tryz.ntmps97 (by simp) ?_
 (refine @unH _ ?_; refine zA Bwa ?_; (repeat (refine inC ?_; intro hc)); try (refine inK ?_; intro K hK))
 (intro xb hxb; generalize hG : Hp.set _ xb _ = H1; have lH1 := Aqc hG hxb; have vxb := Aqb hG; clear hG)
 have vp1 := lH1 _ _ vp
 have vh1 := lH1 _ _ vh
 ((try (refine @unH _ ?_; refine zX Bwa ?_)); (try (refine hK _ _ ?_; clear hK K; (try simp only [nq, ↓reduceIte, Nat.reduceEqDiff]))); refine @unH _ ?_; refine zA Bwa ?_; (repeat (refine inC ?_; intro hc)); try (refine inK ?_; intro K hK))
 (refine Akm 8 [(true, 0), (true, 1), (true, 2), (true, 3), (true, 4), (true, 5), (true, 6), (true, 7)] (by kernel_rfl) (by kernel_rfl) (by simp) (by kernel_rfl) ?_; intro K hK; (iterate 8 (refine @unH _ ?_; refine z3 Bwa ?_)); refine Ak9 (hK _ _ ?_); clear hK K; (try simp only [nq, ↓reduceIte, Nat.reduceEqDiff]))
 (refine @unH _ ?_; refine z9 Tryz.results97 ?_)
 exact ⟨trivial, lH1⟩
def sq1 (p hour : Int) (x : Hint) : Bool := decide ((gB x p).lo <= hour)
def sq2 (p hour : Int) (x : Hint) : Bool := decide (hour < (gB x p).hi)
theorem Dv2 (main : Md) (H : Hp) (pb hb : Nat) (p hour : Int) (h0 : 0 <= p) (h1 : p < 6) (vp : H pb = some (true, .cells #[.int .i64 p] 3 (0, 0))) (vh : H hb = some (true, .cells #[.int .i64 hour] 3 (0, 0))) :
  IsF Tryz.prog main H (.func (.func 96) #[] #[.pointer (some ⟨pb, 0, none⟩), .pointer (some ⟨hb, 0, none⟩)]) (sq1 p hour) := fun H' x hl hx =>
 Aj1.fn (fun _ _ => Djw _) (Cxi main H' pb hb p hour h0 h1 x hx _ _ _ _ (hl _ _ vp) (hl _ _ vh))
theorem Dv3 (main : Md) (H : Hp) (pb hb : Nat) (p hour : Int) (h0 : 0 <= p) (h1 : p < 6) (vp : H pb = some (true, .cells #[.int .i64 p] 3 (0, 0))) (vh : H hb = some (true, .cells #[.int .i64 hour] 3 (0, 0))) :
  IsF Tryz.prog main H (.func (.func 97) #[] #[.pointer (some ⟨pb, 0, none⟩), .pointer (some ⟨hb, 0, none⟩)]) (sq2 p hour) := fun H' x hl hx =>
 Aj1.fn (fun _ _ => Djx _) (Cxj main H' pb hb p hour h0 h1 x hx _ _ _ _ (hl _ _ vp) (hl _ _ vh))
theorem Dj9 (f g : Fn) (x y u w : Array Value) : Instr.fill (fun i => some (i * 1, 1)) ((Array.range (2 * 1)).map fun x => (Value.agg #[Value.nilFunc]).cells[x % (Value.agg #[Value.nilFunc]).cells.size]!) [(0, .agg #[.func f x u]), (1, .agg #[.func g y w])] = some #[.func f x u, .func g y w] := by
 kernel_rfl
theorem Cx9 {H : Hp} (f g : Fn) (x y : Array Value) (u w : Array Value) (K : Value -> Hp -> Prop) (E : Value -> Hp -> Prop) :
  wpS Tryz.prog (Instr.buildSlice 126 2 #[(0, .agg #[.func f x u]), (1, .agg #[.func g y w])]) H K E = ∀ nb, H nb = none -> K (.slice (some ⟨nb, 0, none⟩) 2 2) (H.set nb (.cells #[.func f x u, .func g y w] 125 (0, 0))) := by
 unfold Instr.buildSlice
 have hn1 : ¬ 2 * 1 > 2 ^ 24 := by decide
 have hn2 : ¬ 2 * 1 = 0 := by decide
 simp only [Aqa, Aqj Tryz.underlying126, Aq0 Tryz.sizeOf125, hn1, hn2, if_false, Axg Tryz.zeroValue125, Aqe]
 rw [Dj9]
 simp only [newRow, newObj, Aqa, wpS, Aqe]
def snW (L : List (Int × Int × Hint)) (hour : Int) (k : Nat) : Nat := max (cntL (sq1 k hour) L) (cntL (sq2 k hour) L)
def snS (L : List (Int × Int × Hint)) (hour : Int) (n : Nat) : Nat -> Int × Nat
 | 0 => (-1, n)
 | k + 1 => if snW L hour k < (snS L hour n k).2 then ((k : Int), snW L hour k) else snS L hour n k
def snE (s : Sm) (hour : Int) : Int × Int × Int := if begE s [] hour = 0 then (if (snS (susp s) hour (Az3 s) s.places.toNat).1 < 0 then (0, 0, 11) else ((snS (susp s) hour (Az3 s) s.places.toNat).1, ((snS (susp s) hour (Az3 s) s.places.toNat).2 : Int), 0)) else (0, 0, begE s [] hour)
theorem Cxe (H : Hp) (s : Sm) (dv hv nv : Value) (hs : SmIn H dv hv nv s) (ok : SmOk s) (h : Int) :
  FnX Tryz.prog (.wg Tryz.prog) 36 #[smV s.places dv hv nv, .int .i64 h] H fun e H' => e = .returned (.tuple #[.int .i64 (snE s h).1, .int .i64 (snE s h).2.1, .int .i64 (snE s h).2.2]) /\ H.le H' := by
 obtain ⟨da, dc, ha, kc, na, nc, rfl, rfl, rfl, l1, l2, l3⟩ := hs.forms
 have hbeg := fun H dv hv nv (hs : SmIn H dv hv nv s) => Aj4 H s dv hv nv hs ok h _ [] (nilS H) (by simp)
 have hr0 : begE s [] h = 0 -> snE s h = (if (snS (susp s) h (Az3 s) s.places.toNat).1 < 0 then (0, 0, 11) else ((snS (susp s) h (Az3 s) s.places.toNat).1, ((snS (susp s) h (Az3 s) s.places.toNat).2 : Int), 0)) := fun e => if_pos e
 have hr1 : begE s [] h ≠ 0 -> snE s h = (0, 0, begE s [] h) := fun e => if_neg e
 generalize begE s [] h = z at *
 generalize snE s h = r at *
 replace hbeg : Aqk _ := hbeg
 replace hr0 : Aqk _ := hr0
 replace hr1 : Aqk _ := hr1
 have q0 := ok.p0
 have q6 := ok.p1
 refine Aqm Tryz.func36 rfl Tryz.ntmps36 (by simp) ?_
 (refine @unH _ ?_; refine zA Ax1 ?_; (repeat (refine inC ?_; intro hc)); try (refine inK ?_; intro K hK))
 (intro sb hsb ub hub; replace hub : (Hp.set _ sb _) ub = none := hub; generalize hG : Hp.set _ sb _ = H1 at hub ⊢; have lH1 := Aqc hG hsb; have wsb := Aqb hG; clear hG; generalize hG : Hp.set _ ub _ = H2; have lH2 := Aqc hG hub; have vub := Aqb hG; have vsb := lH2 _ _ wsb; have nsbub := Aqr wsb hub; clear hG wsb)
 have hs2 := hs.le (Hp.le_trans lH1 lH2)
 have l02 := Hp.le_trans lH1 lH2
 clear hsb hub hs lH1 lH2
 ((try (refine @unH _ ?_; refine zX Ax1 ?_)); (try (refine hK _ _ ?_; clear hK K; (try simp only [nq, ↓reduceIte, Nat.reduceEqDiff]))); refine @unH _ ?_; refine zA Ax1 ?_; (repeat (refine inC ?_; intro hc)); try (refine inK ?_; intro K hK))
 refine ((show ∀ H dv hv nv (hs : SmIn H dv hv nv s), _ from hbeg) H2 _ _ _ hs2).runs.mono ?_
 clear hbeg
 rintro _ H3 ⟨v, rfl, lH3, hv, _⟩
 have l03 := Hp.le_trans l02 lH3
 have vs3 := lH3 _ _ vsb
 have vu3 := lH3 _ _ vub
 clear l02 lH3 vsb vub hs2
 by_cases hz : z = 0
 ·subst hz
  replace hv := hv (.inl rfl)
  replace hr0 := hr0 rfl
  replace hr0 : Aqk _ := hr0
  clear hr1
  ((try (refine @unH _ ?_; refine zX Ax1 ?_)); (try (refine hK _ _ ?_; clear hK K; (try simp only [nq, ↓reduceIte, Nat.reduceEqDiff]))); refine @unH _ ?_; refine zA Ax1 ?_; (repeat (refine inC ?_; intro hc)); try (refine inK ?_; intro K hK))
  refine (Aw7 _ H3 s ok v hv).runs.mono ?_
  rintro _ H4 ⟨rfl, lH4⟩
  have l04 := Hp.le_trans l03 lH4
  have vs4 := lH4 _ _ vs3
  have vu4 := lH4 _ _ vu3
  have hv4 := hv.le lH4
  clear hv l03 lH4 vs3 vu3
  have hnl : Az3 s <= 1000 := by
   have h1 := Bjl (Axn s) (Aj5 ok)
   have h2 := Az8 s
   have h3 := ok.h1
   rw [Bqq]
   show (Az7 (Axn s)).length <= 1000
   omega
  have hpl : ((s.places.toNat : Nat) : Int) = s.places := by omega
  have hok := Aj5 ok
  have hln : (Axn s).length <= 1000 := by rw [Az8]; have := ok.h1; omega
  have hsu : Az7 (Axn s) = susp s := rfl
  clear ok
  generalize Az3 s = N at *
  generalize susp s = SS at *
  generalize Axn s = TT at *
  replace hsu : Aqk _ := hsu
  replace hok : Aqk _ := hok
  ((try (refine @unH _ ?_; refine zX Ax1 ?_)); (try (refine hK _ _ ?_; clear hK K; (try simp only [nq, ↓reduceIte, Nat.reduceEqDiff]))); refine @unH _ ?_; refine zA Ax1 ?_; (repeat (refine inC ?_; intro hc)); try (refine inK ?_; intro K hK))
  refine Axd (fun w a' H' => ∃ e, ∃ k : Nat, w = 6 - k /\ k <= s.places.toNat /\ a' = act 55 e [] /\ e 3 = .pointer (some ⟨ub, 0, none⟩) /\ e 7 = v /\ e 4 = .int .i64 (snS SS h N k).1 /\ e 5 = .int .i64 ((snS SS h N k).2 : Nat) /\ e 24 = .int .i64 s.places /\ e 25 = .int .i64 (k : Nat) /\ H.le H' /\ SlT H' v TT /\ H' ub = some (true, .cells #[.int .i64 h] 3 (0, 0))) (n := 6) ?_ ?_
  ·exact ⟨_, 0, by omega, by omega, rfl, rfl, rfl, rfl, rfl, rfl, rfl, l04, hv4, vu4⟩
  clear hv4 l04 vs4 vu4
  rintro w a' H5 ⟨e, k, rfl, hk, rfl, e3, e7, e4, e5, e24, e25, l05, hv5, vu5⟩
  by_cases hlt : k < s.places.toNat
  ·(refine @unH _ ?_; refine zA Ax1 ?_; (repeat (refine inC ?_; intro hc)); try (refine inK ?_; intro K hK))
   intro pb hpb
   ((try (refine @unH _ ?_; refine zX (And.intro Ax1 @Cx9) ?_)); (try (refine hK _ _ ?_; clear hK K; (try simp only [nq, ↓reduceIte, Nat.reduceEqDiff]))); refine @unH _ ?_; refine zA (And.intro Ax1 @Cx9) ?_; (repeat (refine inC ?_; intro hc)); try (refine inK ?_; intro K hK))
   intro ab hab
   replace hab : (Hp.set H5 pb _) ab = none := hab
   generalize hG : Hp.set H5 pb _ = H6 at hab ⊢
   have l06 := Hp.le_trans l05 (Aqc hG hpb)
   have vp6 := Aqb hG
   have vu6 := (Aqc hG hpb) _ _ vu5
   have hv6 := hv5.le (Aqc hG hpb)
   clear hG hpb l05 vu5 hv5
   replace vp6 : H6 pb = some (true, .cells #[.int .i64 (k : Nat)] 3 (0, 0)) := vp6
   generalize hG : Hp.set H6 ab _ = H7
   have lH7 := Aqc hG hab
   have va7 := Aqb hG
   have vp7 := lH7 _ _ vp6
   have vu7 := lH7 _ _ vu6
   have hv7 := hv6.le lH7
   have l07 := Hp.le_trans l06 lH7
   clear hG hab l06 vu6 hv6 vp6 lH7
   refine hK _ _ ?_
   clear hK K
   (try simp only [nq, ↓reduceIte, Nat.reduceEqDiff])
   (refine @unH _ ?_; refine zA Ax1 ?_; (repeat (refine inC ?_; intro hc)); try (refine inK ?_; intro K hK))
   obtain ⟨c1, hc1⟩ : ∃ c1, c1 = cntL (sq1 k h) SS := ⟨_, rfl⟩
   obtain ⟨c2, hc2⟩ : ∃ c2, c2 = cntL (sq2 k h) SS := ⟨_, rfl⟩
   have hn1 : snW SS h k = max c1 c2 := by rw [hc1, hc2]; rfl
   have hsn : snS SS h N (k + 1) = if snW SS h k < (snS SS h N k).2 then ((k : Int), snW SS h k) else snS SS h N k := rfl
   rw [hn1] at hsn
   clear hn1
   generalize snS SS h N k = w at *
   obtain ⟨wb, wm⟩ := w
   replace hsn : Aqk _ := hsn
   replace hc1 : Aqk _ := hc1
   replace hc2 : Aqk _ := hc2
   refine Axd (fun w a' H' => ∃ e, ∃ j : Nat, w = 2 - j /\ j <= 2 /\ a' = act 55 e [] /\ e 3 = .pointer (some ⟨ub, 0, none⟩) /\ e 7 = v /\ e 4 = .int .i64 wb /\ e 5 = .int .i64 (wm : Nat) /\ e 8 = .pointer (some ⟨pb, 0, none⟩) /\ e 24 = .int .i64 s.places /\ e 25 = .int .i64 (k : Nat) /\ e 9 = .int .i64 ((if j = 0 then 0 else if j = 1 then c1 else max c1 c2 : Nat) : Int) /\ e 32 = .slice (some ⟨ab, 0, none⟩) 2 2 /\ e 33 = .int .i64 (2 : Nat) /\ e 34 = .int .i64 (j : Nat) /\ H.le H' /\ SlT H' v TT /\ H' ub = some (true, .cells #[.int .i64 h] 3 (0, 0)) /\ H' pb = some (true, .cells #[.int .i64 (k : Nat)] 3 (0, 0)) /\ H' ab = some (true, .cells #[.func (.func 96) #[] #[.pointer (some ⟨pb, 0, none⟩), .pointer (some ⟨ub, 0, none⟩)], .func (.func 97) #[] #[.pointer (some ⟨pb, 0, none⟩), .pointer (some ⟨ub, 0, none⟩)]] 125 (0, 0))) (n := 2) ?_ ?_
   ·exact ⟨_, 0, by omega, by omega, rfl, e3, e7, e4, e5, rfl, e24, e25, rfl, rfl, rfl, rfl, l07, hv7, vu7, vp7, va7⟩
   clear l07 hv7 vu7 vp7 va7 e3 e7 e4 e5 e24 e25
   rintro w a' H8 ⟨e, j, rfl, hj, rfl, e3, e7, e4, e5, e8, e24, e25, e9, e32, e33, e34, l08, hv8, vu8, vp8, va8⟩
   rcases (by omega : j = 0 ∨ j = 1 ∨ j = 2) with rfl | rfl | rfl
   ·simp only [if_true] at e9
    (refine @unH _ ?_; refine zA Ax1 ?_; (repeat (refine inC ?_; intro hc)); try (refine inK ?_; intro K hK))
    (intro tb htb; generalize hG : Hp.set _ tb _ = H9; have lH9 := Aqc hG htb; have vtb := Aqb hG; clear hG)
    have l09 := Hp.le_trans l08 lH9
    have hv9 := hv8.le lH9
    have vu9 := lH9 _ _ vu8
    have vp9 := lH9 _ _ vp8
    have va9 := lH9 _ _ va8
    clear lH9 htb l08 hv8 vu8 vp8 va8
    ((try (refine @unH _ ?_; refine zX Ax1 ?_)); (try (refine hK _ _ ?_; clear hK K; (try simp only [nq, ↓reduceIte, Nat.reduceEqDiff]))); refine @unH _ ?_; refine zA Ax1 ?_; (repeat (refine inC ?_; intro hc)); try (refine inK ?_; intro K hK))
    refine (Aws _ H9 v TT hv9 hok hln _ _ _ (sq1 k h) (Dv2 _ H9 pb ub k h (by omega) (by omega) vp9 vu9)).runs.mono ?_
    rintro _ H10 ⟨rfl, lH10⟩
    rw [show Az7 TT = SS from hsu, show cntL (sq1 k h) SS = c1 from Eq.symm hc1]
    have l10 := Hp.le_trans l09 lH10
    have hv10 := hv9.le lH10
    have vu10 := lH10 _ _ vu9
    have vp10 := lH10 _ _ vp9
    have va10 := lH10 _ _ va9
    clear l09 hv9 vu9 vp9 va9 lH10 vtb
    ((try (refine @unH _ ?_; refine zX Ax1 ?_)); (try (refine hK _ _ ?_; clear hK K; (try simp only [nq, ↓reduceIte, Nat.reduceEqDiff]))); refine @unH _ ?_; refine zA Ax1 ?_; (repeat (refine inC ?_; intro hc)); try (refine inK ?_; intro K hK))
    exact ⟨_, by omega, _, 1, rfl, by omega, rfl, e3, e7, e4, e5, e8, e24, e25, congrArg (Value.int .i64) (by simp only [Nat.one_ne_zero, if_true, if_false]; split <;> omega), e32, e33, rfl, l10, hv10, vu10, vp10, va10⟩
   ·simp only [Nat.one_ne_zero, if_true, if_false] at e9
    (refine @unH _ ?_; refine zA Ax1 ?_; (repeat (refine inC ?_; intro hc)); try (refine inK ?_; intro K hK))
    (intro tb htb; generalize hG : Hp.set _ tb _ = H9; have lH9 := Aqc hG htb; have vtb := Aqb hG; clear hG)
    have l09 := Hp.le_trans l08 lH9
    have hv9 := hv8.le lH9
    have vu9 := lH9 _ _ vu8
    have vp9 := lH9 _ _ vp8
    have va9 := lH9 _ _ va8
    clear lH9 htb l08 hv8 vu8 vp8 va8
    ((try (refine @unH _ ?_; refine zX Ax1 ?_)); (try (refine hK _ _ ?_; clear hK K; (try simp only [nq, ↓reduceIte, Nat.reduceEqDiff]))); refine @unH _ ?_; refine zA Ax1 ?_; (repeat (refine inC ?_; intro hc)); try (refine inK ?_; intro K hK))
    refine (Aws _ H9 v TT hv9 hok hln _ _ _ (sq2 k h) (Dv3 _ H9 pb ub k h (by omega) (by omega) vp9 vu9)).runs.mono ?_
    rintro _ H10 ⟨rfl, lH10⟩
    rw [show Az7 TT = SS from hsu, show cntL (sq2 k h) SS = c2 from Eq.symm hc2]
    have l10 := Hp.le_trans l09 lH10
    have hv10 := hv9.le lH10
    have vu10 := lH10 _ _ vu9
    have vp10 := lH10 _ _ vp9
    have va10 := lH10 _ _ va9
    clear l09 hv9 vu9 vp9 va9 lH10 vtb
    ((try (refine @unH _ ?_; refine zX Ax1 ?_)); (try (refine hK _ _ ?_; clear hK K; (try simp only [nq, ↓reduceIte, Nat.reduceEqDiff]))); refine @unH _ ?_; refine zA Ax1 ?_; (repeat (refine inC ?_; intro hc)); try (refine inK ?_; intro K hK))
    exact ⟨_, by omega, _, 2, rfl, by omega, rfl, e3, e7, e4, e5, e8, e24, e25, congrArg (Value.int .i64) (by simp only [show ¬ (2 : Nat) = 0 by decide, show ¬ (2 : Nat) = 1 by decide, if_true, if_false]; split <;> omega), e32, e33, rfl, l10, hv10, vu10, vp10, va10⟩
   ·simp only [show ¬ (2 : Nat) = 0 by decide, show ¬ (2 : Nat) = 1 by decide, if_false] at e9
    by_cases hb : max c1 c2 < wm
    ·replace hsn : Aqk (snS SS h N (k + 1) = ((k : Int), max c1 c2)) := Eq.trans (show snS SS h N (k + 1) = _ from hsn) (if_pos hb)
     generalize max c1 c2 = mm at *
     (refine @unH _ ?_; refine zA Ax1 ?_; (repeat (refine inC ?_; intro hc)); try (refine inK ?_; intro K hK))
     exact ⟨_, by omega, _, k + 1, rfl, by omega, rfl, e3, e7, by rw [show snS SS h N (k + 1) = _ from hsn]; rfl, by rw [show snS SS h N (k + 1) = _ from hsn]; rfl, e24, rfl, l08, hv8, vu8⟩
    ·replace hsn : Aqk (snS SS h N (k + 1) = (wb, wm)) := Eq.trans (show snS SS h N (k + 1) = _ from hsn) (if_neg hb)
     generalize max c1 c2 = mm at *
     (refine @unH _ ?_; refine zA Ax1 ?_; (repeat (refine inC ?_; intro hc)); try (refine inK ?_; intro K hK))
     exact ⟨_, by omega, _, k + 1, rfl, by omega, rfl, e3, e7, by rw [show snS SS h N (k + 1) = _ from hsn]; exact e4, by rw [show snS SS h N (k + 1) = _ from hsn]; exact e5, e24, rfl, l08, hv8, vu8⟩
  ·obtain rfl : k = s.places.toNat := by omega
   generalize snS SS h N s.places.toNat = w at *
   obtain ⟨b, m⟩ := w
   by_cases hb : b < 0
   ·replace hr0 : Aqk (r = (0, 0, 11)) := Eq.trans (show r = _ from hr0) (if_pos hb)
    (refine @unH _ ?_; refine zA Ax1 ?_; (repeat (refine inC ?_; intro hc)); try (refine inK ?_; intro K hK))
    (refine @unH _ ?_; refine zC Tryz.results36 ?_)
    exact ⟨by rw [show r = _ from hr0], l05⟩
   ·replace hr0 : Aqk (r = (b, (m : Int), 0)) := Eq.trans (show r = _ from hr0) (if_neg hb)
    (refine @unH _ ?_; refine zA Ax1 ?_; (repeat (refine inC ?_; intro hc)); try (refine inK ?_; intro K hK))
    (refine @unH _ ?_; refine zC Tryz.results36 ?_)
    exact ⟨by rw [show r = _ from hr0], l05⟩
 ·replace hr1 := hr1 hz
  replace hr1 : Aqk _ := hr1
  clear hv hr0
  ((try (refine @unH _ ?_; refine zX Ax1 ?_)); (try (refine hK _ _ ?_; clear hK K; (try simp only [nq, ↓reduceIte, Nat.reduceEqDiff]))); refine @unH _ ?_; refine zA Ax1 ?_; (repeat (refine inC ?_; intro hc)); try (refine inK ?_; intro K hK))
  (refine @unH _ ?_; refine zC Tryz.results36 ?_)
  exact ⟨by rw [show r = _ from hr1], l03⟩
end Go.Proofs.YtohojnlmjbbkpaaGreatDoor
end
