/- Texts SmRe SmE SmEv PlanZ. -/
import Derived.Test.YtkcomnkgdifboaaGreatDoorJ20
set_option linter.defProp false
set_option linter.unusedSimpArgs false
set_option linter.unusedVariables false
set_option maxRecDepth 100000
set_option maxHeartbeats 2000000
section
namespace Go.Proofs.YtkcomnkgdifboaaGreatDoor
open Go Go.X
def Aqt := And.intro (fun H => Aqv (H := H) (P := Tryz.prog) (h := Tryz.zeroValue33)) (And.intro (fun H => Aqq (H := H) Tryz.underlying28 rfl Tryz.sizeOf28) (And.intro @Bkt (And.intro @Bx8 (And.intro (fun H => Aqs (H := H) Tryz.sizeOf33) (And.intro (fun H => Aqd (H := H) Tryz.underlying28 (i := 0) rfl (off := 0) rfl Tryz.sizeOf3) (And.intro (fun H => Aqg (H := H) Tryz.underlying3 rfl) (And.intro @Ayg (And.intro (fun H => Aqv (H := H) (P := Tryz.prog) (h := Tryz.zeroValue76)) (And.intro (fun H => Aqd (H := H) Tryz.underlying28 (i := 1) rfl (off := 1) rfl Tryz.sizeOf25) (And.intro (fun H => Aqg (H := H) Tryz.underlying25 rfl) (And.intro (fun H => Aq7 (H := H) Tryz.underlying25) (And.intro (fun H => Aqu (H := H) Tryz.underlying25 Tryz.sizeOf35) (And.intro (fun H => Aqq (H := H) Tryz.underlying35 rfl Tryz.sizeOf35) (And.intro (fun H => Aqv (H := H) (P := Tryz.prog) (h := Tryz.zeroValue35)) (And.intro (fun H => Aqs (H := H) Tryz.sizeOf35) (And.intro (fun H => Aqd (H := H) Tryz.underlying35 (i := 2) rfl (off := 2) rfl Tryz.sizeOf33) (And.intro (fun H => Aqd (H := H) Tryz.underlying33 (i := 0) rfl (off := 0) rfl Tryz.sizeOf3) (And.intro (fun H => Aqd (H := H) Tryz.underlying33 (i := 1) rfl (off := 1) rfl Tryz.sizeOf3) (And.intro (fun H => Aq4 (H := H) Tryz.underlying76 Tryz.sizeOf3) (And.intro (fun H => Axh (H := H) Tryz.sizeOf3) (And.intro @Byt (And.intro (fun H => Aqq (H := H) Tryz.underlying76 rfl Tryz.sizeOf76) (And.intro @Ak1 (And.intro @Byu (And.intro (fun H => Cjf (H := H) Tryz.underlying79 Tryz.underlying3 rfl Tryz.sizeOf3) (And.intro @Az0 (fun H => Aqq (H := H) Tryz.underlying33 rfl Tryz.sizeOf33)))))))))))))))))))))))))))
def reaE (s : Sm) (a b : Int) : Int × Int × Int :=
 if (a < 0 ∨ s.places - 1 < a) ∨ (b < 0 ∨ s.places - 1 < b) then (0, 0, 3)
 else if 99 <= gI (Aq5 s.doors a (pad6 (s.doors.map Dr.mx))) b then (0, 0, 11)
 else (gI (Aq5 s.doors a (pad6 (s.doors.map Dr.mn))) b, gI (Aq5 s.doors a (pad6 (s.doors.map Dr.mx))) b, 0)
theorem Bwt {L : List Int} (h : L.length < 6) (x : Int) : pad6 (L ++ [x]) = (pad6 L).set L.length x := by
 unfold pad6
 rw [List.length_append, List.length_singleton]
 obtain ⟨n, hn⟩ : ∃ n, 6 - L.length = n + 1 := ⟨5 - L.length, by omega⟩
 rw [hn, List.replicate_succ, List.set_append_right _ _ (Nat.le_refl _), Nat.sub_self, List.set_cons_zero, List.append_assoc, show 6 - (L.length + 1) = n by omega]
 rfl
theorem Djs {pl : Int} {ds : List Dr} (hd : Av2 pl ds) : ds.map Dr.mn ∈ Axv ds := (Aki hd).2 ⟨by simp, fun i d n h1 h2 => by
 rw [List.getElem?_map, h1] at h2
 simp only [Option.map_some, Option.some.injEq] at h2
 have := hd d (List.mem_of_getElem? h1)
 exact ⟨by omega, by have := this.m1; omega⟩⟩
theorem Djt {pl : Int} {ds : List Dr} (hd : Av2 pl ds) : ds.map Dr.mx ∈ Axv ds := (Aki hd).2 ⟨by simp, fun i d n h1 h2 => by
 rw [List.getElem?_map, h1] at h2
 simp only [Option.map_some, Option.some.injEq] at h2
 have := hd d (List.mem_of_getElem? h1)
 exact ⟨by have := this.m1; omega, by omega⟩⟩
theorem Bx0 {L : List Int} (h : L.length <= 6) : (pad6 L).length = 6 := by
 unfold pad6
 rw [List.length_append, List.length_replicate]
 omega
theorem Bxz {L : List Int} {k : Nat} {x : Int} : (ints L).toArray.setIfInBounds k (.int .i64 x) = (ints (L.set k x)).toArray := by
 simp [ints, List.map_set]
theorem Cqu (H : Hp) (s : Sm) (dv hv nv : Value) (hs : SmIn H dv hv nv s) (ok : SmOk s) (a b : Int) (main : Md) :
  FnX Tryz.prog main 13 #[smV s.places dv hv nv, .int .i64 a, .int .i64 b] H fun e H' => e = .returned (.tuple #[.agg #[.int .i64 (reaE s a b).1, .int .i64 (reaE s a b).2.1], .int .i64 (reaE s a b).2.2]) /\ H.le H' := by
 obtain ⟨da, dc, ha, kc, na, nc, rfl, rfl, rfl, l1, l2, l3⟩ := hs.forms
 have hr : reaE s a b = if (a < 0 ∨ s.places - 1 < a) ∨ (b < 0 ∨ s.places - 1 < b) then (0, 0, 3)
  else if 99 <= gI (Aq5 s.doors a (pad6 (s.doors.map Dr.mx))) b then (0, 0, 11)
  else (gI (Aq5 s.doors a (pad6 (s.doors.map Dr.mn))) b, gI (Aq5 s.doors a (pad6 (s.doors.map Dr.mx))) b, 0) := rfl
 generalize reaE s a b = r at *
 have q0 := ok.p0
 have q6 := ok.p1
 have hdl := ok.dl
 by_cases hab : (a < 0 ∨ s.places - 1 < a) ∨ (b < 0 ∨ s.places - 1 < b)
 ·rw [if_pos hab] at hr
  replace hr : Aqk _ := hr
  have hdc : (decide (a < 0) || decide (s.places - 1 < a)) = true ∨ ((decide (a < 0) || decide (s.places - 1 < a)) = false /\ (decide (b < 0) || decide (s.places - 1 < b)) = true) := by
   simp only [Bool.or_eq_true, Bool.or_eq_false_iff, decide_eq_true_eq, decide_eq_false_iff_not]
   omega
  clear hab
  rcases hdc with hda | ⟨hda, hdb⟩
  ·replace hda : Aqk _ := hda
   refine Aqn Tryz.func13 rfl Tryz.ntmps13 (by simp) ?_
   (refine @unH _ (zA Aqt ?_); (repeat refine inC fun hc => ?_); try refine inK fun K hK => ?_)
   (intro sb hsb rb hrb; replace hrb : (Hp.set _ sb _) rb = none := hrb; generalize hG : Hp.set _ sb _ = H1 at hrb ⊢; have lH1 := Aqc hG hsb; have wsb := Aqb hG; clear hG; generalize hG : Hp.set _ rb _ = H2; have lH2 := Aqc hG hrb; have vrb := Aqb hG; have vsb := lH2 _ _ wsb; have nsbrb := Aqr wsb hrb; clear hG wsb)
   have l02 := Hp.le_trans lH1 lH2
   have hs2 := hs.le l02
   have h0rb := Hp.le_none lH1 hrb
   clear lH1 lH2 hsb hrb hs
   ((try refine @unH _ (zX Aqt ?_)); (try (refine hK _ _ ?_; clear hK K; try refine @unH _ (zQ ?_))); refine @unH _ (zA Aqt ?_); (repeat refine inC fun hc => ?_); try refine inK fun K hK => ?_)
   refine (Avm _ H2 s _ _ _ hs2 ok).runs.mono ?_
   rintro _ H3 ⟨rfl, lH3⟩
   have l03 := Hp.le_trans l02 lH3
   have vr3 := lH3 _ _ vrb
   have vs3 := lH3 _ _ vsb
   have hs3 := hs2.le lH3
   clear l02 lH3 vrb vsb hs2
   ((try refine @unH _ (zX Aqt ?_)); (try (refine hK _ _ ?_; clear hK K; try refine @unH _ (zQ ?_))); refine @unH _ (zA Aqt ?_); (repeat refine inC fun hc => ?_); try refine inK fun K hK => ?_)
   refine (Axj _ H3 a 0 _).runs.mono ?_
   rintro _ _ ⟨rfl, hQ⟩
   rw [hQ, show (decide (a < 0) || decide (s.places - 1 < a)) = true from hda]; clear hQ hda
   ((try refine @unH _ (zX Aqt ?_)); (try (refine hK _ _ ?_; clear hK K; try refine @unH _ (zQ ?_))); refine @unH _ (zA Aqt ?_); (repeat refine inC fun hc => ?_); try refine inK fun K hK => ?_)
   (refine Axp ?_; (try simp only [nq, ↓reduceIte, Nat.reduceEqDiff]); rw [Aq6, results_cell_tmp Tryz.results13 (by decide) (by decide) (b := rb) (o := 0) rfl Tryz.underlying33 rfl Tryz.sizeOf33]; simp -implicitDefEqProofs (disch := first | omega | (simp only [qd] <;> omega)) only [xq, ↓xp, qc, Nat.reduceAdd, List.range, List.range.loop, fine, Nat.reduceEqDiff, ↓reduceIte, yielded, reduceCtorEq, Nat.reduceLT, Nat.reduceMul, Nat.reduceSub, one, Nat.reduceLeDiff, Aqf, Aqt, Axk, List.extract_toArray])
   exact ⟨by rw [show r = _ from hr], Az8 l03 h0rb⟩
  ·replace hda : Aqk _ := hda
   replace hdb : Aqk _ := hdb
   refine Aqn Tryz.func13 rfl Tryz.ntmps13 (by simp) ?_
   (refine @unH _ (zA Aqt ?_); (repeat refine inC fun hc => ?_); try refine inK fun K hK => ?_)
   (intro sb hsb rb hrb; replace hrb : (Hp.set _ sb _) rb = none := hrb; generalize hG : Hp.set _ sb _ = H1 at hrb ⊢; have lH1 := Aqc hG hsb; have wsb := Aqb hG; clear hG; generalize hG : Hp.set _ rb _ = H2; have lH2 := Aqc hG hrb; have vrb := Aqb hG; have vsb := lH2 _ _ wsb; have nsbrb := Aqr wsb hrb; clear hG wsb)
   have l02 := Hp.le_trans lH1 lH2
   have hs2 := hs.le l02
   have h0rb := Hp.le_none lH1 hrb
   clear lH1 lH2 hsb hrb hs
   ((try refine @unH _ (zX Aqt ?_)); (try (refine hK _ _ ?_; clear hK K; try refine @unH _ (zQ ?_))); refine @unH _ (zA Aqt ?_); (repeat refine inC fun hc => ?_); try refine inK fun K hK => ?_)
   refine (Avm _ H2 s _ _ _ hs2 ok).runs.mono ?_
   rintro _ H3 ⟨rfl, lH3⟩
   have l03 := Hp.le_trans l02 lH3
   have vr3 := lH3 _ _ vrb
   have vs3 := lH3 _ _ vsb
   have hs3 := hs2.le lH3
   clear l02 lH3 vrb vsb hs2
   ((try refine @unH _ (zX Aqt ?_)); (try (refine hK _ _ ?_; clear hK K; try refine @unH _ (zQ ?_))); refine @unH _ (zA Aqt ?_); (repeat refine inC fun hc => ?_); try refine inK fun K hK => ?_)
   refine (Axj _ H3 a 0 _).runs.mono ?_
   rintro _ _ ⟨rfl, hQ⟩
   rw [hQ, show (decide (a < 0) || decide (s.places - 1 < a)) = false from hda]; clear hQ hda
   ((try refine @unH _ (zX Aqt ?_)); (try (refine hK _ _ ?_; clear hK K; try refine @unH _ (zQ ?_))); refine @unH _ (zA Aqt ?_); (repeat refine inC fun hc => ?_); try refine inK fun K hK => ?_)
   refine (Axj _ H3 b 0 _).runs.mono ?_
   rintro _ _ ⟨rfl, hQ⟩
   rw [hQ, show (decide (b < 0) || decide (s.places - 1 < b)) = true from hdb]; clear hQ hdb
   ((try refine @unH _ (zX Aqt ?_)); (try (refine hK _ _ ?_; clear hK K; try refine @unH _ (zQ ?_))); refine @unH _ (zA Aqt ?_); (repeat refine inC fun hc => ?_); try refine inK fun K hK => ?_)
   (refine Axp ?_; (try simp only [nq, ↓reduceIte, Nat.reduceEqDiff]); rw [Aq6, results_cell_tmp Tryz.results13 (by decide) (by decide) (b := rb) (o := 0) rfl Tryz.underlying33 rfl Tryz.sizeOf33]; simp -implicitDefEqProofs (disch := first | omega | (simp only [qd] <;> omega)) only [xq, ↓xp, qc, Nat.reduceAdd, List.range, List.range.loop, fine, Nat.reduceEqDiff, ↓reduceIte, yielded, reduceCtorEq, Nat.reduceLT, Nat.reduceMul, Nat.reduceSub, one, Nat.reduceLeDiff, Aqf, Aqt, Axk, List.extract_toArray])
   exact ⟨by rw [show r = _ from hr], Az8 l03 h0rb⟩
 ·rw [if_neg hab] at hr
  replace hr : Aqk _ := hr
  have hda : (decide (a < 0) || decide (s.places - 1 < a)) = false := by simp; omega
  have hdb : (decide (b < 0) || decide (s.places - 1 < b)) = false := by simp; omega
  replace hda : Aqk _ := hda
  replace hdb : Aqk _ := hdb
  have ha0 : 0 <= a := by omega
  have ha1 : a < s.places := by omega
  have hb0 : 0 <= b := by omega
  have hb1 : b < s.places := by omega
  clear hab
  refine Aqn Tryz.func13 rfl Tryz.ntmps13 (by simp) ?_
  (refine @unH _ (zA Aqt ?_); (repeat refine inC fun hc => ?_); try refine inK fun K hK => ?_)
  (intro sb hsb rb hrb; replace hrb : (Hp.set _ sb _) rb = none := hrb; generalize hG : Hp.set _ sb _ = H1 at hrb ⊢; have lH1 := Aqc hG hsb; have wsb := Aqb hG; clear hG; generalize hG : Hp.set _ rb _ = H2; have lH2 := Aqc hG hrb; have vrb := Aqb hG; have vsb := lH2 _ _ wsb; have nsbrb := Aqr wsb hrb; clear hG wsb)
  have l02 := Hp.le_trans lH1 lH2
  have hs2 := hs.le l02
  have h0rb := Hp.le_none lH1 hrb
  clear lH1 lH2 hsb hrb hs
  ((try refine @unH _ (zX Aqt ?_)); (try (refine hK _ _ ?_; clear hK K; try refine @unH _ (zQ ?_))); refine @unH _ (zA Aqt ?_); (repeat refine inC fun hc => ?_); try refine inK fun K hK => ?_)
  refine (Avm _ H2 s _ _ _ hs2 ok).runs.mono ?_
  rintro _ H3 ⟨rfl, lH3⟩
  have l03 := Hp.le_trans l02 lH3
  have vr3 := lH3 _ _ vrb
  have vs3 := lH3 _ _ vsb
  have hs3 := hs2.le lH3
  clear l02 lH3 vrb vsb hs2
  ((try refine @unH _ (zX Aqt ?_)); (try (refine hK _ _ ?_; clear hK K; try refine @unH _ (zQ ?_))); refine @unH _ (zA Aqt ?_); (repeat refine inC fun hc => ?_); try refine inK fun K hK => ?_)
  refine (Axj _ H3 a 0 _).runs.mono ?_
  rintro _ _ ⟨rfl, hQ⟩
  rw [hQ, show (decide (a < 0) || decide (s.places - 1 < a)) = false from hda]; clear hQ hda
  ((try refine @unH _ (zX Aqt ?_)); (try (refine hK _ _ ?_; clear hK K; try refine @unH _ (zQ ?_))); refine @unH _ (zA Aqt ?_); (repeat refine inC fun hc => ?_); try refine inK fun K hK => ?_)
  refine (Axj _ H3 b 0 _).runs.mono ?_
  rintro _ _ ⟨rfl, hQ⟩
  rw [hQ, show (decide (b < 0) || decide (s.places - 1 < b)) = false from hdb]; clear hQ hdb
  ((try refine @unH _ (zX Aqt ?_)); (try (refine hK _ _ ?_; clear hK K; try refine @unH _ (zQ ?_))); refine @unH _ (zA Aqt ?_); (repeat refine inC fun hc => ?_); try refine inK fun K hK => ?_)
  (intro ab hab cb hcb; replace hcb : (Hp.set _ ab _) cb = none := hcb; generalize hG : Hp.set _ ab _ = H4 at hcb ⊢; have lH4 := Aqc hG hab; have wab := Aqb hG; clear hG; generalize hG : Hp.set _ cb _ = H5; have lH5 := Aqc hG hcb; have vcb := Aqb hG; have vab := lH5 _ _ wab; have nabcb := Aqr wab hcb; clear hG wab)
  have l35 := Hp.le_trans lH4 lH5
  have l05 := Hp.le_trans l03 l35
  have vr5 := l35 _ _ vr3
  have vs5 := l35 _ _ vs3
  have hs5 := hs3.le l35
  have f0a := Hp.le_none l03 hab
  have f0c := Hp.le_none (Hp.le_trans l03 lH4) hcb
  have nra := Aqr vr3 hab
  have nrc := Aqr (lH4 _ _ vr3) hcb
  have nsa := Aqr vs3 hab
  have nsc := Aqr (lH4 _ _ vs3) hcb
  have va5 : H5 ab = some (true, .cells (ints (pad6 ((s.doors.take 0).map Dr.mn))).toArray 76 (0, 0)) := by rw [vab]; rfl
  have vc5 : H5 cb = some (true, .cells (ints (pad6 ((s.doors.take 0).map Dr.mx))).toArray 76 (0, 0)) := by rw [vcb]; rfl
  clear l03 vr3 vs3 hs3 hab hcb lH4 lH5 l35 vab vcb
  ((try refine @unH _ (zX Aqt ?_)); (try (refine hK _ _ ?_; clear hK K; try refine @unH _ (zQ ?_))); refine @unH _ (zA Aqt ?_); (repeat refine inC fun hc => ?_); try refine inK fun K hK => ?_)
  refine Axg (fun w a' H' => ∃ e, ∃ k : Nat, w = s.doors.length - k /\ k <= s.doors.length /\ a' = act 75 e [] /\ e 1 = .int .i64 a /\ e 2 = .int .i64 b /\ e 3 = .pointer (some ⟨sb, 0, none⟩) /\ e 6 = .pointer (some ⟨rb, 0, none⟩) /\ e 9 = .pointer (some ⟨ab, 0, none⟩) /\ e 10 = .pointer (some ⟨cb, 0, none⟩) /\ e 35 = .slice da s.doors.length dc /\ e 36 = .int .i64 (s.doors.length : Nat) /\ e 37 = .int .i64 (k : Nat) /\ (∀ c x, c ≠ ab -> c ≠ cb -> H5 c = some x -> H' c = some x) /\ H' ab = some (true, .cells (ints (pad6 ((s.doors.take k).map Dr.mn))).toArray 76 (0, 0)) /\ H' cb = some (true, .cells (ints (pad6 ((s.doors.take k).map Dr.mx))).toArray 76 (0, 0))) (n := s.doors.length) ?_ ?_
  ·exact ⟨_, 0, by omega, by omega, rfl, rfl, rfl, rfl, rfl, rfl, rfl, rfl, rfl, rfl, fun _ _ _ _ hx => hx, va5, vc5⟩
  rintro w a' H6 ⟨e, k, rfl, hk, rfl, e1, e2, e3, e6, e9, e10, e35, e36, e37, hf6, va6, vc6⟩
  have hcell : ∀ {x : Nat} {p : Bool} {c : Array Value} {t : TypeId} {fr : Nat × Nat}, t ≠ 76 -> H5 x = some (p, .cells c t fr) -> H6 x = some (p, .cells c t fr) := fun ht hx => hf6 _ _ (fun e => by rw [e, va5] at hx; simp only [Option.some.injEq, Prod.mk.injEq, Obj.cells.injEq] at hx; exact ht hx.2.2.1.symm) (fun e => by rw [e, vc5] at hx; simp only [Option.some.injEq, Prod.mk.injEq, Obj.cells.injEq] at hx; exact ht hx.2.2.1.symm) hx
  have hs6 : SmIn H6 (.slice da s.doors.length dc) (.slice ha s.hampers.length kc) (.slice na s.noses.length nc) s := ⟨hs5.dd.move fun x p c fr hx => ⟨p, hcell (by decide) hx⟩, hs5.hh.move fun x p c fr hx => hcell (by decide) hx, hs5.nn.move fun x p c fr hx => ⟨p, hcell (by decide) hx⟩⟩
  have vr6 := hcell (by decide) vr5
  have vs6 := hcell (by decide) vs5
  replace hf6 : Aqk _ := hf6
  clear hcell
  by_cases hlt : k < s.doors.length
  ·have hkd := List.getElem?_eq_getElem hlt
   have hmn : pad6 ((s.doors.take (k + 1)).map Dr.mn) = (pad6 ((s.doors.take k).map Dr.mn)).set k s.doors[k].mn := by
    rw [List.take_add_one, hkd, Option.toList_some, List.map_append]
    have hl : ((s.doors.take k).map Dr.mn).length = k := by rw [List.length_map, List.length_take]; omega
    have := Bwt (L := (s.doors.take k).map Dr.mn) (by omega) s.doors[k].mn
    rw [hl] at this
    exact this
   have hmx : pad6 ((s.doors.take (k + 1)).map Dr.mx) = (pad6 ((s.doors.take k).map Dr.mx)).set k s.doors[k].mx := by
    rw [List.take_add_one, hkd, Option.toList_some, List.map_append]
    have hl : ((s.doors.take k).map Dr.mx).length = k := by rw [List.length_map, List.length_take]; omega
    have := Bwt (L := (s.doors.take k).map Dr.mx) (by omega) s.doors[k].mx
    rw [hl] at this
    exact this
   have hla : (pad6 ((s.doors.take k).map Dr.mn)).length = 6 := Bx0 (by rw [List.length_map, List.length_take]; omega)
   have hlc : (pad6 ((s.doors.take k).map Dr.mx)).length = 6 := Bx0 (by rw [List.length_map, List.length_take]; omega)
   obtain ⟨db, dof, dp, dcl, dfr, rfl, hdb2, hdsz, hdrl, hdext⟩ := SlG.get hs6.dd (i := k) (r := Bjh s.doors[k]) (by rw [List.getElem?_map, hkd]; rfl)
   generalize s.doors[k] = d at *
   generalize pad6 ((s.doors.take k).map Dr.mn) = A6 at *
   generalize pad6 ((s.doors.take k).map Dr.mx) = C6 at *
   unfold Bjh at hdext
   replace hmn : Aqk _ := hmn
   replace hmx : Aqk _ := hmx
   clear hdrl vr6 vs6
   (refine @unH _ (zA Aqt ?_); (repeat refine inC fun hc => ?_); try refine inK fun K hK => ?_)
   (intro tb htb; generalize hG : Hp.set _ tb _ = H7; have lH7 := Aqc hG htb; have vtb := Aqb hG; clear hG)
   have va7 := lH7 _ _ va6
   have vc7 := lH7 _ _ vc6
   have nat_ := Aqr va6 htb
   have nct := Aqr vc6 htb
   have nta := Ne.symm nat_
   have ntc := Ne.symm nct
   have ncab := Ne.symm nabcb
   have hf7 : Aqk (∀ c x, c ≠ ab -> c ≠ cb -> H5 c = some x -> H7 c = some x) := fun c x h1 h2 hx => lH7 _ _ ((show ∀ c x, c ≠ ab -> c ≠ cb -> H5 c = some x -> H6 c = some x from hf6) c x h1 h2 hx)
   clear lH7 va6 vc6 htb hs6 hdb2 hdsz hdext hf6
   have hia : (ints A6).toArray.size = 6 := by rw [List.size_toArray, Aqz, hla]
   have hic : (ints C6).toArray.size = 6 := by rw [List.size_toArray, Aqz, hlc]
   have hpa : (ints A6).toArray.setIfInBounds k (.int .i64 d.mn) = (ints (A6.set k d.mn)).toArray := Bxz
   have hpc : (ints C6).toArray.setIfInBounds k (.int .i64 d.mx) = (ints (C6.set k d.mx)).toArray := Bxz
   generalize (ints A6).toArray = AA at *
   generalize (ints C6).toArray = CC at *
   refine hK _ _ ?_
   clear hK K
   (try refine @unH _ (zQ ?_))
   refine Axm (fun HX => HX tb = some (true, .cells #[.int .i64 d.a, .int .i64 d.b, .int .i64 d.mn, .int .i64 d.mx] 35 (0, 0))) [11] (.free 0 (.free 1 (.free 2 (.free 3 (.take 4 (.free 5 (.free 6 (.take 7 (.free 8 (.one 9 (.free 10 (.one 11 .nil)))))))))))) (by kernel_rfl) (by kernel_rfl) (by decide) (by kernel_rfl) ?_; intro K hK
   (iterate 4 (refine @unH _ ?_; refine zI Aqt ?_))
   (refine @unH _ ?_; refine zJ Aqt ?_)
   (iterate 2 (refine @unH _ ?_; refine zI Aqt ?_))
   (refine @unH _ ?_; refine zJ Aqt ?_)
   (refine @unH _ ?_; refine zI Aqt ?_)
   refine Aqx ?_
   (refine @unH _ ?_; refine zX Aqt ?_)
   refine ⟨.inr fun _ => trivial, ?_⟩
   (refine @unH _ ?_; refine zI Aqt ?_)
   refine Aqx ?_
   (refine @unH _ ?_; refine zX Aqt ?_)
   refine ⟨.inl (by decide), Axr (hK _ _ ?_)⟩
   clear hK K
   generalize hG : Hp.set (Hp.set H7 ab _) cb _ = H8
   have va8 : H8 ab = some (true, .cells (ints (A6.set k d.mn)).toArray 76 (0, 0)) := by rw [<- hG]; simp [Hp.set, nabcb]
   have vc8 : H8 cb = some (true, .cells (ints (C6.set k d.mx)).toArray 76 (0, 0)) := by rw [<- hG]; simp [Hp.set]
   have hf8 : ∀ c x, c ≠ ab -> c ≠ cb -> H5 c = some x -> H8 c = some x := fun c x h1 h2 hx => by
    rw [<- hG, Aqw h2, Aqw h1]
    exact (show ∀ c x, c ≠ ab -> c ≠ cb -> H5 c = some x -> H7 c = some x from hf7) c x h1 h2 hx
   clear hG va7 vc7 hf7 hpa hpc hia hic
   show wpX _ _ _ _ _ _ _
   (refine @unH _ (zA Aqt ?_); (repeat refine inC fun hc => ?_); try refine inK fun K hK => ?_)
   exact ⟨_, by omega, _, k + 1, rfl, hlt, rfl, e1, e2, e3, e6, e9, e10, e35, e36, rfl, hf8, by rw [show pad6 _ = _ from hmn]; exact va8, by rw [show pad6 _ = _ from hmx]; exact vc8⟩
  ·obtain rfl : k = s.doors.length := by omega
   rw [List.take_length] at va6 vc6
   have l06 : H.le H6 := fun c x hx => (show ∀ c x, c ≠ ab -> c ≠ cb -> H5 c = some x -> H6 c = some x from hf6) c x (fun e => by rw [e, f0a] at hx; cases hx) (fun e => by rw [e, f0c] at hx; cases hx) (l05 _ _ hx)
   have hta : TsOk s.doors (pad6 (s.doors.map Dr.mn)) := Aj5 ok.dk (Djs ok.dk)
   have htc : TsOk s.doors (pad6 (s.doors.map Dr.mx)) := Aj5 ok.dk (Djt ok.dk)
   have hla : (pad6 (s.doors.map Dr.mn)).length = 6 := Bx0 (by rw [List.length_map]; exact hdl)
   have hlc : (pad6 (s.doors.map Dr.mx)).length = 6 := Bx0 (by rw [List.length_map]; exact hdl)
   clear hf6 vr5 vs5 hs5 va5 vc5 l05
   generalize pad6 (s.doors.map Dr.mn) = A6 at *
   generalize pad6 (s.doors.map Dr.mx) = C6 at *
   (refine @unH _ (zA Aqt ?_); (repeat refine inC fun hc => ?_); try refine inK fun K hK => ?_)
   refine (Akh _ H6 s.places _ _ _ _ _ _ _ _ _).runs.mono ?_
   rintro _ H7 ⟨hb, mb, rfl, vh7, vm7, h6h, h6m, lH7⟩
   have l07 := Hp.le_trans l06 lH7
   have va7 := lH7 _ _ va6
   have vc7 := lH7 _ _ vc6
   have vr7 := lH7 _ _ vr6
   have hs7 := hs6.le lH7
   have kn7 : Aji s.doors mb H7 := ⟨_, _, vm7, by simp [MapG]⟩
   have nha := Aqr va6 h6h
   have nma := Aqr va6 h6m
   have nhc := Aqr vc6 h6h
   have nmc := Aqr vc6 h6m
   have nmr := Aqr vr6 h6m
   have f0m := Hp.le_none l06 h6m
   have nhm : hb ≠ mb := fun e => by rw [e, vm7] at vh7; simp at vh7
   clear l06 lH7 va6 vc6 vr6 vs6 hs6 vm7 h6h h6m
   ((try refine @unH _ (zX Aqt ?_)); (try (refine hK _ _ ?_; clear hK K; try refine @unH _ (zQ ?_))); refine @unH _ (zA Aqt ?_); (repeat refine inC fun hc => ?_); try refine inK fun K hK => ?_)
   have hsp := fun (HX : Hp) (c6 : List Int) (hl : c6.length = 6) (ht : TsOk s.doors c6) vh kn dd => Bzx main HX hb mb true s.places da dc (.slice ha s.hampers.length kc) (.slice na s.noses.length nc) a c6 s.doors vh kn dd ok.p1 ha0 ha1 ok.dk ok.dl hl ht
   have hla2 : (Aq5 s.doors a A6).length = 6 := Avs _ _ _
   have hlc2 : (Aq5 s.doors a C6).length = 6 := Avs _ _ _
   have hga := Awc hla2 hb0 (show b < 6 by omega)
   have hgc := Awc hlc2 hb0 (show b < 6 by omega)
   have hsA := fun HX vh kn dd => hsp HX A6 hla hta vh kn dd
   have hsC := fun HX vh kn dd => hsp HX C6 hlc htc vh kn dd
   clear hsp hta htc
   generalize Aq5 s.doors a A6 = SA at *
   generalize Aq5 s.doors a C6 = SC at *
   generalize gI SA b = ga at *
   generalize gI SC b = gc at *
   replace hsA : Aqk _ := hsA
   replace hsC : Aqk _ := hsC
   have hiA : 6 <= (ints A6).length := by rw [Aqz, hla]; exact Nat.le_refl _
   have hiC : 6 <= (ints C6).length := by rw [Aqz, hlc]; exact Nat.le_refl _
   have hexA := Ajo hla
   have hexC := Ajo hlc
   have hGA : ∃ G : Hp -> Prop, (∀ HX, G HX -> FnX Tryz.prog main 42 #[.pointer (some ⟨hb, 0, none⟩), .agg (.int .i64 a :: ints A6).toArray] HX fun e H' => e = .returned (.agg (ints SA).toArray) /\ G H' /\ ∀ b x, b ≠ mb -> HX b = some x -> H' b = some x) /\
     (∀ HX, G HX -> FnX Tryz.prog main 42 #[.pointer (some ⟨hb, 0, none⟩), .agg (.int .i64 a :: ints C6).toArray] HX fun e H' => e = .returned (.agg (ints SC).toArray) /\ G H' /\ ∀ b x, b ≠ mb -> HX b = some x -> H' b = some x) /\
     (∀ HX HY, G HX -> HX.le HY -> G HY) /\ (∀ HX, G HX -> HX mb ≠ none) /\ (∀ HX, G HX -> HX ab = some (true, .cells (ints A6).toArray 76 (0, 0)) /\ HX cb = some (true, .cells (ints C6).toArray 76 (0, 0)) /\ HX rb = some (true, .cells #[.int .i64 0, .int .i64 0] 33 (0, 0)) /\ H.le HX) /\ G H7 := by
    have key : ∀ (HX H' : Hp), (HX ab = some (true, .cells (ints A6).toArray 76 (0, 0)) /\ HX cb = some (true, .cells (ints C6).toArray 76 (0, 0)) /\ HX rb = some (true, .cells #[.int .i64 0, .int .i64 0] 33 (0, 0)) /\ H.le HX /\ HX hb = some (true, hsO s.places (.slice da s.doors.length dc) (.slice ha s.hampers.length kc) (.slice na s.noses.length nc) mb) /\ Aji s.doors mb HX /\ SlD HX (.slice da s.doors.length dc) s.doors) -> (∀ b x, b ≠ mb -> HX b = some x -> H' b = some x) -> Aji s.doors mb H' -> (H' ab = some (true, .cells (ints A6).toArray 76 (0, 0)) /\ H' cb = some (true, .cells (ints C6).toArray 76 (0, 0)) /\ H' rb = some (true, .cells #[.int .i64 0, .int .i64 0] 33 (0, 0)) /\ H.le H' /\ H' hb = some (true, hsO s.places (.slice da s.doors.length dc) (.slice ha s.hampers.length kc) (.slice na s.noses.length nc) mb) /\ Aji s.doors mb H' /\ SlD H' (.slice da s.doors.length dc) s.doors) := by
     rintro HX H' ⟨g1, g2, g3, g4, g5, ⟨es, cl, g6, _⟩, g7⟩ hf kn
     refine ⟨hf _ _ nma g1, hf _ _ nmc g2, hf _ _ nmr g3, fun c x hx => hf _ _ (fun e => by rw [e, f0m] at hx; cases hx) (g4 _ _ hx), hf _ _ nhm g5, kn, g7.move fun x p c fr hx => ⟨p, hf _ _ (fun e => by rw [e, g6] at hx; simp at hx) hx⟩⟩
    refine ⟨fun HX => HX ab = some (true, .cells (ints A6).toArray 76 (0, 0)) /\ HX cb = some (true, .cells (ints C6).toArray 76 (0, 0)) /\ HX rb = some (true, .cells #[.int .i64 0, .int .i64 0] 33 (0, 0)) /\ H.le HX /\ HX hb = some (true, hsO s.places (.slice da s.doors.length dc) (.slice ha s.hampers.length kc) (.slice na s.noses.length nc) mb) /\ Aji s.doors mb HX /\ SlD HX (.slice da s.doors.length dc) s.doors, ?_, ?_, ?_, ?_, ?_, ?_⟩
    ·intro HX g
     refine ((show ∀ HX _ _ _, FnX _ _ _ _ _ _ from hsA) HX g.2.2.2.2.1 g.2.2.2.2.2.1 g.2.2.2.2.2.2).mono ?_
     rintro _ H' ⟨rfl, h1, h2⟩
     exact ⟨rfl, key HX H' g h1 h2, h1⟩
    ·intro HX g
     refine ((show ∀ HX _ _ _, FnX _ _ _ _ _ _ from hsC) HX g.2.2.2.2.1 g.2.2.2.2.2.1 g.2.2.2.2.2.2).mono ?_
     rintro _ H' ⟨rfl, h1, h2⟩
     exact ⟨rfl, key HX H' g h1 h2, h1⟩
    ·rintro HX HY ⟨g1, g2, g3, g4, g5, g6, g7⟩ hl
     exact ⟨hl _ _ g1, hl _ _ g2, hl _ _ g3, Hp.le_trans g4 hl, hl _ _ g5, g6.le hl, g7.le hl⟩
    ·rintro HX ⟨g1, g2, g3, g4, g5, ⟨es, cl, g6, _⟩, g7⟩
     rw [g6]; simp
    ·rintro HX ⟨g1, g2, g3, g4, _⟩
     exact ⟨g1, g2, g3, g4⟩
    ·exact ⟨va7, vc7, vr7, l07, vh7, kn7, hs7.dd⟩
   obtain ⟨G, gA, gC, gL, gM, gF, g7⟩ := hGA
   replace gA : Aqk _ := gA
   replace gC : Aqk _ := gC
   replace gL : Aqk _ := gL
   replace gM : Aqk _ := gM
   replace gF : Aqk _ := gF
   clear hsA hsC
   refine Az6 (Q := only fun a' H' => ∃ e' ob, a' = act 75 e' [] /\ e' 6 = .pointer (some ⟨rb, 0, none⟩) /\ e' 14 = .pointer (some ⟨ob, 0, none⟩) /\ H' ob = some (true, .cells #[.int .i64 ga, .int .i64 gc] 33 (0, 0)) /\ H' rb = some (true, .cells #[.int .i64 0, .int .i64 0] 33 (0, 0)) /\ rb ≠ ob /\ H.le H') ?_ ?_
   ·refine Axm (fun HX => HX ab = some (true, .cells (ints A6).toArray 76 (0, 0)) /\ HX cb = some (true, .cells (ints C6).toArray 76 (0, 0))) [16] (.free 0 (.free 1 (.take 2 (.free 3 (.free 5 (.free 7 (.free 8 (.take 9 (.free 10 (.free 12 (.two 4 (.free 6 (.two 11 (.free 13 (.free 14 (.one 15 (.one 16 .nil)))) 15 (.one 11 (.free 13 (.free 14 (.one 16 .nil)))))) 15 (.one 4 (.free 6 (.one 11 (.free 13 (.free 14 (.one 16 .nil))))))))))))))))) (by kernel_rfl) (by kernel_rfl) (by decide) (by kernel_rfl) ?_; intro K hK
    have hS0 : (fun HX : Hp => HX ab = some (true, .cells (ints A6).toArray 76 (0, 0)) /\ HX cb = some (true, .cells (ints C6).toArray 76 (0, 0))) H7 := ⟨va7, vc7⟩
    (iterate 2 (refine @unH _ ?_; refine zI Aqt ?_))
    (apply Axd rfl rfl rfl ‹_›; (focus (intro HX hHX; simp -implicitDefEqProofs (disch := first | omega | (simp only [qd] <;> omega)) only [xq, ↓xp, qc, Nat.reduceAdd, List.range, List.range.loop, fine, Nat.reduceEqDiff, ↓reduceIte, yielded, reduceCtorEq, Nat.reduceLT, Nat.reduceMul, Nat.reduceSub, one, Nat.reduceLeDiff, Aqf, Aqt, aq, ↓ap, qe0, qe1, qe2, *, -hK, Aq8, hHX.1] <;> (first | exact rfl | exact ⟨rfl, rfl⟩ | exact ⟨rfl, trivial⟩))); simp -implicitDefEqProofs (disch := first | omega | (simp only [qd] <;> omega)) only [Aq3, Aqm])
    (iterate 4 (refine @unH _ ?_; refine zI (And.intro Aqt @Byr) ?_))
    (apply Axd rfl rfl rfl ‹_›; (focus (intro HX hHX; simp -implicitDefEqProofs (disch := first | omega | (simp only [qd] <;> omega)) only [xq, ↓xp, qc, Nat.reduceAdd, List.range, List.range.loop, fine, Nat.reduceEqDiff, ↓reduceIte, yielded, reduceCtorEq, Nat.reduceLT, Nat.reduceMul, Nat.reduceSub, one, Nat.reduceLeDiff, Aqf, Aqt, aq, ↓ap, qe0, qe1, qe2, *, -hK, Aq8, hHX.2] <;> (first | exact rfl | exact ⟨rfl, rfl⟩ | exact ⟨rfl, trivial⟩))); simp -implicitDefEqProofs (disch := first | omega | (simp only [qd] <;> omega)) only [Aq3, Aqm])
    (iterate 2 (refine @unH _ ?_; refine zI (And.intro Aqt @Byr) ?_))
    refine Awf ?_ ?_
    ·(refine @unH _ ?_; refine zX Aqt ?_)
     refine ((show ∀ HX, G HX -> FnX _ _ _ _ _ _ from gA) H7 g7).runs.mono ?_
     rintro _ H8 ⟨rfl, g8, f8⟩
     obtain ⟨w1, w2, w3, w4⟩ := (show ∀ HX, G HX -> _ /\ _ /\ _ /\ _ from gF) H8 g8
     (refine @unH _ ?_; refine zX Aqt ?_)
     refine ⟨.inr fun _ => (by first | trivial | exact ⟨w1, w2⟩), ?_⟩
     (refine @unH _ ?_; refine zI Aqt ?_)
     refine Awf ?_ ?_
     ·(refine @unH _ ?_; refine zX Aqt ?_)
      refine ((show ∀ HX, G HX -> FnX _ _ _ _ _ _ from gC) H8 g8).runs.mono ?_
      rintro _ H9 ⟨rfl, g9, f9⟩
      obtain ⟨w1, w2, w3, w4⟩ := (show ∀ HX, G HX -> _ /\ _ /\ _ /\ _ from gF) H9 g9
      (refine @unH _ ?_; refine zX Aqt ?_)
      refine ⟨.inr fun _ => (by first | trivial | exact ⟨w1, w2⟩), ?_⟩
      (refine @unH _ ?_; refine zI Aqt ?_)
      (refine @unH _ ?_; refine zI Aqt ?_)
      refine Aqx ?_
      (refine @unH _ ?_; refine zX Aqt ?_)
      intro ob hob
      obtain ⟨x1, x2, x3, x4⟩ := (show ∀ HX, G HX -> _ /\ _ /\ _ /\ _ from gF) H9 g9
      have y1 := Aqr x1 hob
      have y2 := Aqr x2 hob
      have nro := Aqr x3 hob
      have nmo : ob ≠ mb := fun e => (show ∀ HX, G HX -> HX mb ≠ none from gM) H9 g9 (by rw [<- e]; exact hob)
      have f0o := Hp.le_none x4 hob
      refine ⟨.inr fun _ => (by first | trivial | (simp only [y1, y2, if_false, and_self])), ?_⟩
      generalize hG : Hp.set H9 ob _ = H10
      have g10 := (show ∀ HX HY, G HX -> HX.le HY -> G HY from gL) H9 H10 g9 (Aqc hG hob)
      have vo := Aqb hG
      obtain ⟨w1, w2, w3, w4⟩ := (show ∀ HX, G HX -> _ /\ _ /\ _ /\ _ from gF) H10 g10
      clear hG hob x1 x2 x3 x4
      refine Aqx ?_
      (refine @unH _ ?_; refine zX Aqt ?_)
      refine ⟨.inl (by decide), Axr (hK _ _ ?_)⟩
      exact ⟨_, ob, rfl, e6, rfl, Axe, by rw [Aqw nro]; exact w3, nro, fun c x hx => by rw [Aqw (fun e => by rw [e, f0o] at hx; cases hx)]; exact w4 _ _ hx⟩
     ·(refine @unH _ ?_; refine zX Aqt ?_)
      intro ob hob
      obtain ⟨x1, x2, x3, x4⟩ := (show ∀ HX, G HX -> _ /\ _ /\ _ /\ _ from gF) H8 g8
      have y1 := Aqr x1 hob
      have y2 := Aqr x2 hob
      have nro := Aqr x3 hob
      have nmo : ob ≠ mb := fun e => (show ∀ HX, G HX -> HX mb ≠ none from gM) H8 g8 (by rw [<- e]; exact hob)
      have f0o := Hp.le_none x4 hob
      refine ⟨.inr fun _ => (by first | trivial | (simp only [y1, y2, if_false, and_self])), ?_⟩
      generalize hG : Hp.set H8 ob _ = H9
      have g9 := (show ∀ HX HY, G HX -> HX.le HY -> G HY from gL) H8 H9 g8 (Aqc hG hob)
      have vo := Aqb hG
      obtain ⟨w1, w2, w3, w4⟩ := (show ∀ HX, G HX -> _ /\ _ /\ _ /\ _ from gF) H9 g9
      clear hG hob x1 x2 x3 x4
      refine Aqx ?_
      (refine @unH _ ?_; refine zX Aqt ?_)
      refine ((show ∀ HX, G HX -> FnX _ _ _ _ _ _ from gC) H9 g9).runs.mono ?_
      rintro _ H10 ⟨rfl, g10, f10⟩
      obtain ⟨w1, w2, w3, w4⟩ := (show ∀ HX, G HX -> _ /\ _ /\ _ /\ _ from gF) H10 g10
      (refine @unH _ ?_; refine zX Aqt ?_)
      refine ⟨.inr fun _ => (by first | trivial | exact ⟨w1, w2⟩), ?_⟩
      have vo2 := f10 _ _ nmo vo
      (refine @unH _ ?_; refine zI Aqt ?_)
      (refine @unH _ ?_; refine zI Aqt ?_)
      refine Aqx ?_
      (refine @unH _ ?_; refine zX Aqt ?_)
      refine ⟨.inl (by decide), Axr (hK _ _ ?_)⟩
      exact ⟨_, ob, rfl, e6, rfl, Axe, by rw [Aqw nro]; exact w3, nro, fun c x hx => by rw [Aqw (fun e => by rw [e, f0o] at hx; cases hx)]; exact w4 _ _ hx⟩
    ·(refine @unH _ ?_; refine zX Aqt ?_)
     intro ob hob
     obtain ⟨x1, x2, x3, x4⟩ := (show ∀ HX, G HX -> _ /\ _ /\ _ /\ _ from gF) H7 g7
     have y1 := Aqr x1 hob
     have y2 := Aqr x2 hob
     have nro := Aqr x3 hob
     have nmo : ob ≠ mb := fun e => (show ∀ HX, G HX -> HX mb ≠ none from gM) H7 g7 (by rw [<- e]; exact hob)
     have f0o := Hp.le_none x4 hob
     refine ⟨.inr fun _ => (by first | trivial | (simp only [y1, y2, if_false, and_self])), ?_⟩
     generalize hG : Hp.set H7 ob _ = H8
     have g8 := (show ∀ HX HY, G HX -> HX.le HY -> G HY from gL) H7 H8 g7 (Aqc hG hob)
     have vo := Aqb hG
     obtain ⟨w1, w2, w3, w4⟩ := (show ∀ HX, G HX -> _ /\ _ /\ _ /\ _ from gF) H8 g8
     clear hG hob x1 x2 x3 x4
     refine Aqx ?_
     (refine @unH _ ?_; refine zX Aqt ?_)
     refine ((show ∀ HX, G HX -> FnX _ _ _ _ _ _ from gA) H8 g8).runs.mono ?_
     rintro _ H9 ⟨rfl, g9, f9⟩
     obtain ⟨w1, w2, w3, w4⟩ := (show ∀ HX, G HX -> _ /\ _ /\ _ /\ _ from gF) H9 g9
     (refine @unH _ ?_; refine zX Aqt ?_)
     refine ⟨.inr fun _ => (by first | trivial | exact ⟨w1, w2⟩), ?_⟩
     have vo2 := f9 _ _ nmo vo
     (refine @unH _ ?_; refine zI Aqt ?_)
     refine Aqx ?_
     (refine @unH _ ?_; refine zX Aqt ?_)
     refine ((show ∀ HX, G HX -> FnX _ _ _ _ _ _ from gC) H9 g9).runs.mono ?_
     rintro _ H10 ⟨rfl, g10, f10⟩
     obtain ⟨w1, w2, w3, w4⟩ := (show ∀ HX, G HX -> _ /\ _ /\ _ /\ _ from gF) H10 g10
     (refine @unH _ ?_; refine zX Aqt ?_)
     refine ⟨.inr fun _ => (by first | trivial | exact ⟨w1, w2⟩), ?_⟩
     have vo3 := f10 _ _ nmo vo2
     (refine @unH _ ?_; refine zI Aqt ?_)
     (refine @unH _ ?_; refine zI Aqt ?_)
     refine Aqx ?_
     (refine @unH _ ?_; refine zX Aqt ?_)
     refine ⟨.inl (by decide), Axr (hK _ _ ?_)⟩
     exact ⟨_, ob, rfl, e6, rfl, Axe, by rw [Aqw nro]; exact w3, nro, fun c x hx => by rw [Aqw (fun e => by rw [e, f0o] at hx; cases hx)]; exact w4 _ _ hx⟩
   ·intro e a' H' q
    cases e with
    | normal =>
     obtain ⟨e', ob, rfl, e6, e14, vo8, vr8, nro, l08⟩ := q
     clear gA gC gL gM gF g7 va7 vc7 vr7 vh7 hs7 kn7 l07 hexA hexC hga hgc
     by_cases hg : 99 <= gc
     ·replace hr : Aqk (r = (0, 0, 11)) := Eq.trans (show r = _ from hr) (if_pos hg)
      show wpX _ _ _ _ _ _ _
      (refine @unH _ (zA Aqt ?_); (repeat refine inC fun hc => ?_); try refine inK fun K hK => ?_)
      (refine Axp ?_; (try simp only [nq, ↓reduceIte, Nat.reduceEqDiff]); rw [Aq6, results_cell_tmp Tryz.results13 (by decide) (by decide) (b := rb) (o := 0) ?hcell Tryz.underlying33 rfl Tryz.sizeOf33]; (case hcell => exact e6); simp -implicitDefEqProofs (disch := first | omega | (simp only [qd] <;> omega)) only [xq, ↓xp, qc, Nat.reduceAdd, List.range, List.range.loop, fine, Nat.reduceEqDiff, ↓reduceIte, yielded, reduceCtorEq, Nat.reduceLT, Nat.reduceMul, Nat.reduceSub, one, Nat.reduceLeDiff, Aqf, Aqt, Axk, List.extract_toArray])
      exact ⟨by rw [show r = _ from hr], Az8 l08 h0rb⟩
     ·replace hr : Aqk (r = (ga, gc, 0)) := Eq.trans (show r = _ from hr) (if_neg hg)
      show wpX _ _ _ _ _ _ _
      (refine @unH _ (zA Aqt ?_); (repeat refine inC fun hc => ?_); try refine inK fun K hK => ?_)
      (refine Axp ?_; (try simp only [nq, ↓reduceIte, Nat.reduceEqDiff]); rw [Aq6, results_cell_tmp Tryz.results13 (by decide) (by decide) (b := rb) (o := 0) ?hcell Tryz.underlying33 rfl Tryz.sizeOf33]; (case hcell => exact e6); simp -implicitDefEqProofs (disch := first | omega | (simp only [qd] <;> omega)) only [xq, ↓xp, qc, Nat.reduceAdd, List.range, List.range.loop, fine, Nat.reduceEqDiff, ↓reduceIte, yielded, reduceCtorEq, Nat.reduceLT, Nat.reduceMul, Nat.reduceSub, one, Nat.reduceLeDiff, Aqf, Aqt, Axk, List.extract_toArray])
      exact ⟨by rw [show r = _ from hr], Az8 l08 h0rb⟩
    | _ => exact q.elim
def Bvr := And.intro (fun H => Aqv (H := H) (P := Tryz.prog) (h := Tryz.zeroValue49)) (And.intro @Bjg (fun H => Aqs (H := H) Tryz.sizeOf49))
def Bvs := And.intro (fun H => Aqv (H := H) (P := Tryz.prog) (h := Tryz.zeroValue33)) (And.intro @Az0 (fun H => Aqs (H := H) Tryz.sizeOf33))
def Azj := And.intro (fun H => Aqv (H := H) (P := Tryz.prog) (h := Tryz.zeroValue28)) (And.intro @Dz7 (And.intro @Bjk (And.intro @Ckr (And.intro @Bxm (fun H => Aqs (H := H) Tryz.sizeOf28)))))
def Aju := And.intro (fun H => Aqv (H := H) (P := Tryz.prog) (h := Tryz.zeroValue28)) (And.intro @Cks (And.intro (fun H => Aqs (H := H) Tryz.sizeOf28) (And.intro @Ckr (And.intro (fun H => Aqd (H := H) Tryz.underlying28 (i := 3) rfl (off := 3) rfl Tryz.sizeOf26) (And.intro (fun H => Azr (H := H) Tryz.sizeOf26) (fun H => Aqq (H := H) Tryz.underlying28 rfl Tryz.sizeOf28))))))
def Bvv := And.intro (fun H => Aqv (H := H) (P := Tryz.prog) (h := Tryz.zeroValue35)) (And.intro @Az0 (And.intro @Aw9 (fun H => Aqs (H := H) Tryz.sizeOf35)))
theorem Bq3 (m : Md) (H : Hp) (a b x y : Int) :
  FnX Tryz.prog m 71 #[.int .i64 a, .int .i64 b, .int .i64 x, .int .i64 y] H fun e H' => e = .returned (.agg #[.int .i64 a, .int .i64 b, .int .i64 x, .int .i64 y]) /\ H.le H' := by
 refine Aqn Tryz.func71 rfl Tryz.ntmps71 (by simp) ?_
 (refine @unH _ (zA Bvv ?_); (repeat refine inC fun hc => ?_); try refine inK fun K hK => ?_)
 (intro rb hrb; generalize hG : Hp.set _ rb _ = H1; have lH1 := Aqc hG hrb; have vrb := Aqb hG; clear hG)
 ((try refine @unH _ (zX Bvv ?_)); (try (refine hK _ _ ?_; clear hK K; try refine @unH _ (zQ ?_))); refine @unH _ (zA Bvv ?_); (repeat refine inC fun hc => ?_); try refine inK fun K hK => ?_)
 (refine Axp ?_; (try simp only [nq, ↓reduceIte, Nat.reduceEqDiff]); rw [Aq6, Ax2 Tryz.results71 (by decide) (b := rb) (o := 0) rfl Tryz.underlying35 rfl Tryz.sizeOf35]; simp -implicitDefEqProofs (disch := first | omega | (simp only [qd] <;> omega)) only [xq, ↓xp, qc, Nat.reduceAdd, List.range, List.range.loop, fine, Nat.reduceEqDiff, ↓reduceIte, yielded, reduceCtorEq, Nat.reduceLT, Nat.reduceMul, Nat.reduceSub, one, Nat.reduceLeDiff, Aqf, Bvv, Axk, List.extract_toArray])
 exact Az8 lH1 hrb
theorem Aw0 (m : Md) (H : Hp) (p h : Int) (s : Bool) :
  FnX Tryz.prog m 19 #[.int .i64 p, .int .i64 h, .bool s] H fun e H' => e = .returned (.agg #[.int .i64 p, .int .i64 h, .bool s]) /\ H.le H' := by
 refine Aqn Tryz.func19 rfl Tryz.ntmps19 (by simp) ?_
 (refine @unH _ (zA Bvr ?_); (repeat refine inC fun hc => ?_); try refine inK fun K hK => ?_)
 (intro rb hrb; generalize hG : Hp.set _ rb _ = H1; have lH1 := Aqc hG hrb; have vrb := Aqb hG; clear hG)
 ((try refine @unH _ (zX Bvr ?_)); (try (refine hK _ _ ?_; clear hK K; try refine @unH _ (zQ ?_))); refine @unH _ (zA Bvr ?_); (repeat refine inC fun hc => ?_); try refine inK fun K hK => ?_)
 (refine Axp ?_; (try simp only [nq, ↓reduceIte, Nat.reduceEqDiff]); rw [Aq6, Ax2 Tryz.results19 (by decide) (b := rb) (o := 0) rfl Tryz.underlying49 rfl Tryz.sizeOf49]; simp -implicitDefEqProofs (disch := first | omega | (simp only [qd] <;> omega)) only [xq, ↓xp, qc, Nat.reduceAdd, List.range, List.range.loop, fine, Nat.reduceEqDiff, ↓reduceIte, yielded, reduceCtorEq, Nat.reduceLT, Nat.reduceMul, Nat.reduceSub, one, Nat.reduceLeDiff, Aqf, Bvr, Axk, List.extract_toArray])
 exact Az8 lH1 hrb
theorem Bq2 (m : Md) (H : Hp) (a b : Int) :
  FnX Tryz.prog m 33 #[.int .i64 a, .int .i64 b] H fun e H' => e = .returned (.agg #[.int .i64 a, .int .i64 b]) /\ H.le H' := by
 refine Aqn Tryz.func33 rfl Tryz.ntmps33 (by simp) ?_
 (refine @unH _ (zA Bvs ?_); (repeat refine inC fun hc => ?_); try refine inK fun K hK => ?_)
 (intro rb hrb; generalize hG : Hp.set _ rb _ = H1; have lH1 := Aqc hG hrb; have vrb := Aqb hG; clear hG)
 ((try refine @unH _ (zX Bvs ?_)); (try (refine hK _ _ ?_; clear hK K; try refine @unH _ (zQ ?_))); refine @unH _ (zA Bvs ?_); (repeat refine inC fun hc => ?_); try refine inK fun K hK => ?_)
 (refine Axp ?_; (try simp only [nq, ↓reduceIte, Nat.reduceEqDiff]); rw [Aq6, Ax2 Tryz.results33 (by decide) (b := rb) (o := 0) rfl Tryz.underlying33 rfl Tryz.sizeOf33]; simp -implicitDefEqProofs (disch := first | omega | (simp only [qd] <;> omega)) only [xq, ↓xp, qc, Nat.reduceAdd, List.range, List.range.loop, fine, Nat.reduceEqDiff, ↓reduceIte, yielded, reduceCtorEq, Nat.reduceLT, Nat.reduceMul, Nat.reduceSub, one, Nat.reduceLeDiff, Aqf, Bvs, Axk, List.extract_toArray])
 exact Az8 lH1 hrb
theorem Dky (a b c d a' b' c' d' a2 b2 c2 d2 : Int) : Instr.fill (fun i => some (i * 4, 4)) ((Array.range (3 * 4)).map fun x => (Value.agg #[.int .i64 0, .int .i64 0, .int .i64 0, .int .i64 0]).cells[x % (Value.agg #[.int .i64 0, .int .i64 0, .int .i64 0, .int .i64 0]).cells.size]!) [(0, .agg #[.int .i64 a, .int .i64 b, .int .i64 c, .int .i64 d]), (1, .agg #[.int .i64 a', .int .i64 b', .int .i64 c', .int .i64 d']), (2, .agg #[.int .i64 a2, .int .i64 b2, .int .i64 c2, .int .i64 d2])] = some #[.int .i64 a, .int .i64 b, .int .i64 c, .int .i64 d, .int .i64 a', .int .i64 b', .int .i64 c', .int .i64 d', .int .i64 a2, .int .i64 b2, .int .i64 c2, .int .i64 d2] := by
 kernel_rfl
theorem Dkz (a b a' b' : Int) (c c' : Bool) : Instr.fill (fun i => some (i * 3, 3)) ((Array.range (2 * 3)).map fun x => (Value.agg #[.int .i64 0, .int .i64 0, .bool false]).cells[x % (Value.agg #[.int .i64 0, .int .i64 0, .bool false]).cells.size]!) [(0, .agg #[.int .i64 a, .int .i64 b, .bool c]), (1, .agg #[.int .i64 a', .int .i64 b', .bool c'])] = some #[.int .i64 a, .int .i64 b, .bool c, .int .i64 a', .int .i64 b', .bool c'] := by
 kernel_rfl
theorem Cko {H : Hp} (a b c d a' b' c' d' a2 b2 c2 d2 : Int) (K : Value -> Hp -> Prop) (E : Value -> Hp -> Prop) :
  wpS Tryz.prog (Instr.buildSlice 25 3 #[(0, .agg #[.int .i64 a, .int .i64 b, .int .i64 c, .int .i64 d]), (1, .agg #[.int .i64 a', .int .i64 b', .int .i64 c', .int .i64 d']), (2, .agg #[.int .i64 a2, .int .i64 b2, .int .i64 c2, .int .i64 d2])]) H K E = ∀ nb, H nb = none -> K (.slice (some ⟨nb, 0, none⟩) 3 3) (H.set nb (.cells #[.int .i64 a, .int .i64 b, .int .i64 c, .int .i64 d, .int .i64 a', .int .i64 b', .int .i64 c', .int .i64 d', .int .i64 a2, .int .i64 b2, .int .i64 c2, .int .i64 d2] 35 (0, 0))) := by
 unfold Instr.buildSlice
 have hn1 : ¬ 3 * 4 > 2 ^ 24 := by decide
 have hn2 : ¬ 3 * 4 = 0 := by decide
 simp only [Aqa, Aqj Tryz.underlying25, Aq0 Tryz.sizeOf35, hn1, hn2, if_false, Axf Tryz.zeroValue35, Aqe]
 rw [Dky]
 simp only [newRow, newObj, Aqa, wpS, Aqe]
theorem Bks {H : Hp} (a b a' b' : Int) (c c' : Bool) (K : Value -> Hp -> Prop) (E : Value -> Hp -> Prop) :
  wpS Tryz.prog (Instr.buildSlice 26 2 #[(0, .agg #[.int .i64 a, .int .i64 b, .bool c]), (1, .agg #[.int .i64 a', .int .i64 b', .bool c'])]) H K E = ∀ nb, H nb = none -> K (.slice (some ⟨nb, 0, none⟩) 2 2) (H.set nb (.cells #[.int .i64 a, .int .i64 b, .bool c, .int .i64 a', .int .i64 b', .bool c'] 49 (0, 0))) := by
 unfold Instr.buildSlice
 have hn1 : ¬ 2 * 3 > 2 ^ 24 := by decide
 have hn2 : ¬ 2 * 3 = 0 := by decide
 simp only [Aqa, Aqj Tryz.underlying26, Aq0 Tryz.sizeOf49, hn1, hn2, if_false, Axf Tryz.zeroValue49, Aqe]
 rw [Dkz]
 simp only [newRow, newObj, Aqa, wpS, Aqe]
def Ajv : Sm := ⟨4, [⟨0, 1, 2, 3⟩, ⟨1, 2, 1, 1⟩, ⟨0, 3, 1, 2⟩], [0, 2], [⟨1, 4, true⟩, ⟨3, 3, false⟩]⟩
def oddS : Sm := ⟨4, [⟨0, 1, 2, 3⟩, ⟨1, 2, 1, 1⟩, ⟨0, 3, 1, 2⟩], [0, 2], [⟨2, 0, true⟩, ⟨2, 1, false⟩]⟩
theorem Bzh : ∀ d ∈ Ajv.doors, DrOk 4 d := fun d hd => by
 simp only [Ajv, List.mem_cons, List.not_mem_nil, or_false] at hd
 rcases hd with rfl | rfl | rfl <;> exact ⟨by decide, by decide, by decide, by decide, by decide, by decide, by decide, by decide⟩
theorem Avo : SmOk Ajv := ⟨by decide, by decide, by decide, Bzh, by decide, by decide, by decide, by decide, by decide, fun n hn => by
 simp only [Ajv, List.mem_cons, List.not_mem_nil, or_false] at hn
 rcases hn with rfl | rfl <;> exact ⟨by decide, by decide, by decide, by decide⟩⟩
theorem Dju : SmOk oddS := ⟨by decide, by decide, by decide, Bzh, by decide, by decide, by decide, by decide, by decide, fun n hn => by
 simp only [oddS, List.mem_cons, List.not_mem_nil, or_false] at hn
 rcases hn with rfl | rfl <;> exact ⟨by decide, by decide, by decide, by decide⟩⟩
theorem Aj4 (m : Md) (H : Hp) :
  FnX Tryz.prog m 43 #[] H fun e H' => ∃ dv hv nv, e = .returned (smV 4 dv hv nv) /\ SmIn H' dv hv nv Ajv /\ H.le H' := by
 refine Aqn Tryz.func43 rfl Tryz.ntmps43 (by simp) ?_
 (refine @unH _ (zA Azj ?_); (repeat refine inC fun hc => ?_); try refine inK fun K hK => ?_)
 (intro rb hrb; generalize hG : Hp.set _ rb _ = H1; have lH1 := Aqc hG hrb; have vrb := Aqb hG; clear hG)
 ((try refine @unH _ (zX Azj ?_)); (try (refine hK _ _ ?_; clear hK K; try refine @unH _ (zQ ?_))); refine @unH _ (zA Azj ?_); (repeat refine inC fun hc => ?_); try refine inK fun K hK => ?_)
 refine (Bq3 m H1 0 1 2 3).runs.mono ?_
 rintro _ H2 ⟨rfl, l12⟩
 have l02 := Hp.le_trans lH1 l12
 have vr2 := l12 _ _ vrb
 clear l12
 ((try refine @unH _ (zX Azj ?_)); (try (refine hK _ _ ?_; clear hK K; try refine @unH _ (zQ ?_))); refine @unH _ (zA Azj ?_); (repeat refine inC fun hc => ?_); try refine inK fun K hK => ?_)
 refine (Bq3 m H2 1 2 1 1).runs.mono ?_
 rintro _ H3 ⟨rfl, l23⟩
 have l03 := Hp.le_trans l02 l23
 have vr3 := l23 _ _ vr2
 clear l23 l02 vr2 vrb
 ((try refine @unH _ (zX Azj ?_)); (try (refine hK _ _ ?_; clear hK K; try refine @unH _ (zQ ?_))); refine @unH _ (zA Azj ?_); (repeat refine inC fun hc => ?_); try refine inK fun K hK => ?_)
 refine (Bq3 m H3 0 3 1 2).runs.mono ?_
 rintro _ H4 ⟨rfl, l34⟩
 have l04 := Hp.le_trans l03 l34
 have vr4 := l34 _ _ vr3
 clear l34 l03 vr3
 ((try refine @unH _ (zX (And.intro Azj @Cko) ?_)); (try (refine hK _ _ ?_; clear hK K; try refine @unH _ (zQ ?_))); refine @unH _ (zA (And.intro Azj @Cko) ?_); (repeat refine inC fun hc => ?_); try refine inK fun K hK => ?_)
 (intro db hdb ib hib; replace hib : (Hp.set _ db _) ib = none := hib; generalize hG : Hp.set _ db _ = H5 at hib ⊢; have lH5 := Aqc hG hdb; have wdb := Aqb hG; clear hG; generalize hG : Hp.set _ ib _ = H6; have lH6 := Aqc hG hib; have vib := Aqb hG; have vdb := lH6 _ _ wdb; have ndbib := Aqr wdb hib; clear hG wdb)
 have l06 := Hp.le_trans l04 (Hp.le_trans lH5 lH6)
 have vr6 := lH6 _ _ (lH5 _ _ vr4)
 clear l04 vr4 hdb hib lH5 lH6
 ((try refine @unH _ (zX Azj ?_)); (try (refine hK _ _ ?_; clear hK K; try refine @unH _ (zQ ?_))); refine @unH _ (zA Azj ?_); (repeat refine inC fun hc => ?_); try refine inK fun K hK => ?_)
 refine (Aw0 m H6 1 4 true).runs.mono ?_
 rintro _ H7 ⟨rfl, l67⟩
 have l07 := Hp.le_trans l06 l67
 have vr7 := l67 _ _ vr6
 have vd7 := l67 _ _ vdb
 have vi7 := l67 _ _ vib
 clear l06 l67 vr6 vdb vib
 ((try refine @unH _ (zX Azj ?_)); (try (refine hK _ _ ?_; clear hK K; try refine @unH _ (zQ ?_))); refine @unH _ (zA Azj ?_); (repeat refine inC fun hc => ?_); try refine inK fun K hK => ?_)
 refine (Aw0 m H7 3 3 false).runs.mono ?_
 rintro _ H8 ⟨rfl, l78⟩
 have l08 := Hp.le_trans l07 l78
 have vr8 := l78 _ _ vr7
 have vd8 := l78 _ _ vd7
 have vi8 := l78 _ _ vi7
 clear l07 l78 vr7 vd7 vi7
 ((try refine @unH _ (zX (And.intro Azj @Bks) ?_)); (try (refine hK _ _ ?_; clear hK K; try refine @unH _ (zQ ?_))); refine @unH _ (zA (And.intro Azj @Bks) ?_); (repeat refine inC fun hc => ?_); try refine inK fun K hK => ?_)
 intro nb hnb
 have nrn := Aqr vr8 hnb
 ((try refine @unH _ (zX Azj ?_)); (try (refine hK _ _ ?_; clear hK K; try refine @unH _ (zQ ?_))); refine @unH _ (zA Azj ?_); (repeat refine inC fun hc => ?_); try refine inK fun K hK => ?_)
 generalize hG : Hp.set H8 nb _ = H9
 have l89 := Aqc hG hnb
 have vn9 := Aqb hG
 have vr9 := l89 _ _ vr8
 have vd9 := l89 _ _ vd8
 have vi9 := l89 _ _ vi8
 have l09 := Hp.le_trans l08 l89
 clear hG l89 hnb l08 vr8 vd8 vi8
 have nrd : db ≠ rb := fun e => by rw [e, vr9] at vd9; simp at vd9
 have nri : ib ≠ rb := fun e => by rw [e, vr9] at vi9; simp at vi9
 ((try refine @unH _ (zX Azj ?_)); (try (refine hK _ _ ?_; clear hK K; try refine @unH _ (zQ ?_))); refine @unH _ (zA Azj ?_); (repeat refine inC fun hc => ?_); try refine inK fun K hK => ?_)
 (refine Axp ?_; (try simp only [nq, ↓reduceIte, Nat.reduceEqDiff]); rw [Aq6, Ax2 Tryz.results43 (by decide) (b := rb) (o := 0) rfl Tryz.underlying28 rfl Tryz.sizeOf28]; simp -implicitDefEqProofs (disch := first | omega | (simp only [qd] <;> omega)) only [xq, ↓xp, qc, Nat.reduceAdd, List.range, List.range.loop, fine, Nat.reduceEqDiff, ↓reduceIte, yielded, reduceCtorEq, Nat.reduceLT, Nat.reduceMul, Nat.reduceSub, one, Nat.reduceLeDiff, Aqf, Azj, Axk, List.extract_toArray])
 have hD : SlD H9 (.slice (some ⟨db, 0, none⟩) 3 3) Ajv.doors := SlG.of (by decide) (rows := Ajv.doors.map Bjh) (N := 3) vd9 (fun r hr => by
  obtain ⟨d, _, rfl⟩ := List.mem_map.1 hr
  rfl) (fun j u h => by simp only [List.getElem?_toArray]; exact h) (by decide)
 have hN : SlN H9 (.slice (some ⟨nb, 0, none⟩) 2 2) Ajv.noses := SlG.of (by decide) (rows := Ajv.noses.map Bjm) (N := 2) vn9 (fun r hr => by
  obtain ⟨d, _, rfl⟩ := List.mem_map.1 hr
  rfl) (fun j u h => by simp only [List.getElem?_toArray]; exact h) (by decide)
 have hI : SlI H9 (.slice (some ⟨ib, 0, none⟩) 2 2) Ajv.hampers := ⟨_, 2, rfl, Nat.le_refl _, fun i x hx => ⟨ib, 0, true, _, _, rfl, vi9, by
  rcases i with _ | _ | i
  ·simp only [Ajv, List.getElem?_cons_zero, Option.some.injEq] at hx; subst hx; rfl
  ·simp only [Ajv, List.getElem?_cons_succ, List.getElem?_cons_zero, Option.some.injEq] at hx; subst hx; rfl
  ·simp [Ajv] at hx⟩⟩
 refine ⟨_, _, _, rfl, ⟨hD.move fun x p c fr hx => ⟨p, ?_⟩, hI.move fun x p c fr hx => ?_, hN.move fun x p c fr hx => ⟨p, ?_⟩⟩, Az8 l09 hrb⟩
 ·rw [Aqw (fun e => by rw [e, vr9] at hx; simp at hx)]; exact hx
 ·rw [Aqw (fun e => by rw [e, vr9] at hx; simp at hx)]; exact hx
 ·rw [Aqw (fun e => by rw [e, vr9] at hx; simp at hx)]; exact hx
theorem Dqx (m : Md) (H : Hp) :
  FnX Tryz.prog m 44 #[] H fun e H' => ∃ dv hv nv, e = .returned (smV 4 dv hv nv) /\ SmIn H' dv hv nv oddS /\ H.le H' := by
 refine Aqn Tryz.func44 rfl Tryz.ntmps44 (by simp) ?_
 (refine @unH _ (zA Aju ?_); (repeat refine inC fun hc => ?_); try refine inK fun K hK => ?_)
 (intro rb hrb; generalize hG : Hp.set _ rb _ = H1; have lH1 := Aqc hG hrb; have vrb := Aqb hG; clear hG)
 ((try refine @unH _ (zX Aju ?_)); (try (refine hK _ _ ?_; clear hK K; try refine @unH _ (zQ ?_))); refine @unH _ (zA Aju ?_); (repeat refine inC fun hc => ?_); try refine inK fun K hK => ?_)
 refine (Aj4 m H1).runs.mono ?_
 rintro _ H2 ⟨dv, hv, nv, rfl, hs2, l12⟩
 obtain ⟨da, dc, ha, kc, na, nc, rfl, rfl, rfl, l1, l2, l3⟩ := hs2.forms
 have l02 := Hp.le_trans lH1 l12
 have vr2 := l12 _ _ vrb
 clear l12
 ((try refine @unH _ (zX Aju ?_)); (try (refine hK _ _ ?_; clear hK K; try refine @unH _ (zQ ?_))); refine @unH _ (zA Aju ?_); (repeat refine inC fun hc => ?_); try refine inK fun K hK => ?_)
 (intro ob hob; generalize hG : Hp.set _ ob _ = H3; have lH3 := Aqc hG hob; have vob := Aqb hG; clear hG)
 have nro := Aqr vr2 hob
 have hs3 := hs2.le lH3
 have l03 := Hp.le_trans l02 lH3
 have f0o := Hp.le_none l02 hob
 have vr3 := lH3 _ _ vr2
 clear l02 lH3 vr2 hs2 hob vrb lH1
 ((try refine @unH _ (zX Aju ?_)); (try (refine hK _ _ ?_; clear hK K; try refine @unH _ (zQ ?_))); refine @unH _ (zA Aju ?_); (repeat refine inC fun hc => ?_); try refine inK fun K hK => ?_)
 refine (Aw0 m H3 2 0 true).runs.mono ?_
 rintro _ H4 ⟨rfl, l34⟩
 have l04 := Hp.le_trans l03 l34
 have vr4 := l34 _ _ vr3
 have vo4 := l34 _ _ vob
 have hs4 := hs3.le l34
 clear l03 l34 vr3 vob hs3
 ((try refine @unH _ (zX Aju ?_)); (try (refine hK _ _ ?_; clear hK K; try refine @unH _ (zQ ?_))); refine @unH _ (zA Aju ?_); (repeat refine inC fun hc => ?_); try refine inK fun K hK => ?_)
 refine (Aw0 m H4 2 1 false).runs.mono ?_
 rintro _ H5 ⟨rfl, l45⟩
 have l05 := Hp.le_trans l04 l45
 have vr5 := l45 _ _ vr4
 have vo5 := l45 _ _ vo4
 have hs5 := hs4.le l45
 clear l04 l45 vr4 vo4 hs4
 ((try refine @unH _ (zX (And.intro Aju @Bks) ?_)); (try (refine hK _ _ ?_; clear hK K; try refine @unH _ (zQ ?_))); refine @unH _ (zA (And.intro Aju @Bks) ?_); (repeat refine inC fun hc => ?_); try refine inK fun K hK => ?_)
 intro nb hnb
 have nrn := Aqr vr5 hnb
 have non := Aqr vo5 hnb
 ((try refine @unH _ (zX Aju ?_)); (try (refine hK _ _ ?_; clear hK K; try refine @unH _ (zQ ?_))); refine @unH _ (zA Aju ?_); (repeat refine inC fun hc => ?_); try refine inK fun K hK => ?_)
 generalize hG : Hp.set H5 nb _ = H6
 have l56 := Aqc hG hnb
 have vn6 := Aqb hG
 have vr6 := l56 _ _ vr5
 have vo6 := l56 _ _ vo5
 have hs6 := hs5.le l56
 have l06 := Hp.le_trans l05 l56
 clear hG l56 hnb l05 vr5 vo5 hs5
 (refine Axp ?_; (try simp only [nq, ↓reduceIte, Nat.reduceEqDiff]); rw [Aq6, Ax2 Tryz.results44 (by decide) (b := rb) (o := 0) rfl Tryz.underlying28 rfl Tryz.sizeOf28]; simp -implicitDefEqProofs (disch := first | omega | (simp only [qd] <;> omega)) only [xq, ↓xp, qc, Nat.reduceAdd, List.range, List.range.loop, fine, Nat.reduceEqDiff, ↓reduceIte, yielded, reduceCtorEq, Nat.reduceLT, Nat.reduceMul, Nat.reduceSub, one, Nat.reduceLeDiff, Aqf, Aju, Axk, List.extract_toArray])
 have hN : SlN H6 (.slice (some ⟨nb, 0, none⟩) 2 2) oddS.noses := SlG.of (by decide) (rows := oddS.noses.map Bjm) (N := 2) vn6 (fun r hr => by
  obtain ⟨d, _, rfl⟩ := List.mem_map.1 hr
  rfl) (fun j u h => by simp only [List.getElem?_toArray]; exact h) (by decide)
 refine ⟨_, _, _, rfl, ⟨hs6.dd.move fun x p c fr hx => ⟨p, ?_⟩, hs6.hh.move fun x p c fr hx => ?_, hN.move fun x p c fr hx => ⟨p, ?_⟩⟩, Az8 (Az8 l06 f0o) hrb⟩
 ·rw [Aqw (fun e => by rw [e, vr6] at hx; simp at hx), Aqw (fun e => by rw [e, vo6] at hx; simp at hx)]; exact hx
 ·rw [Aqw (fun e => by rw [e, vr6] at hx; simp at hx), Aqw (fun e => by rw [e, vo6] at hx; simp at hx)]; exact hx
 ·rw [Aqw (fun e => by rw [e, vr6] at hx; simp at hx), Aqw (fun e => by rw [e, vo6] at hx; simp at hx)]; exact hx
theorem Cyx : reaE Ajv 2 3 = (4, 6, 0) := by kernel_rfl
theorem Cyv : Azk Ajv = 5 := by kernel_rfl
theorem Cyy : sinE Ajv 1 = (0, 3, 0) := by kernel_rfl
theorem Dkr : begE Ajv [0] 3 = 0 := by kernel_rfl
theorem Djh : Cwy Ajv 0 3 = 3 := by kernel_rfl
theorem Cyu : comE Ajv 3 = (4, 9, 0) := by kernel_rfl
theorem Cy0 : wroF oddS = [0] := by kernel_rfl
theorem Cyz : snE Ajv 2 = (1, 3, 0) := by kernel_rfl
theorem Cyw : fstE Ajv = (0, 2, [2, 1, 2], 0) := by kernel_rfl
end Go.Proofs.YtkcomnkgdifboaaGreatDoor
end
section
namespace Go.X
open Go
section
variable {P : Program} {main : Md} {lp : Option Nat} {Q : Exit -> Act -> Hp -> Prop} {S : Hp -> Prop} {ts : List Nat} {p : PV} {a : Act} {H : Hp} {l ops : List Oper} {i : Nat}
 {d : Option Tmp} {op : Op} {ty : TypeId} {pos : String} {af : Array Edge} {v : Value} {j : Nat} {b : Bool} {t : Tmp}
structure Bqs (l ops : List Oper) : Prop where
 nth : ∀ i : Nat, ops[i]? = l[i]?
theorem Ax8 (h : ∀ ops, Bqs l ops -> Azz P main lp ops.toArray Q S ts p a H) : Azz P main lp l.toArray Q S ts p a H := h l ⟨fun _ => rfl⟩
theorem Bqs.guard (hO : Bqs l ops) {o oj : Oper} (hg : o.guard = some (j, b)) (hj : l[j]? = some oj) (hd : oj.dst = some t) (hv : a.tmps[t]? = some (.bool b)) : Region.wanted o (yielded ops.toArray a.tmps) = true := by
 unfold Region.wanted
 rw [hg]
 simp only [Bxl, hO.nth, hj, Option.bind_some, hd, hv, Bvw, beq_self_eq_true]
theorem Cjs (hO : Bqs l ops) (ho : l[i]? = some ⟨d, op, ty, pos, af, none⟩) (hf : fine lp ⟨d, op, ty, pos, af, none⟩ = true)
  (h : ∀ H' : Hp, wpS P (execOp a.eval ⟨d, op, ty, pos, af, none⟩) H' (YN P main v H') fun _ _ => False) (hk : Azz P main lp ops.toArray Q S ts p (a.put d v) H) : Azz P main lp ops.toArray Q S ts (.free i p) a H :=
 Bq1 ((hO.nth i).trans ho) rfl hf h hk
theorem Cqm {oj : Oper} (hO : Bqs l ops) (ho : l[i]? = some ⟨d, op, ty, pos, af, some (j, b)⟩) (hf : fine lp ⟨d, op, ty, pos, af, some (j, b)⟩ = true) (hj : l[j]? = some oj) (hd : oj.dst = some t) (hv : a.tmps[t]? = some (.bool b))
  (h : ∀ H' : Hp, wpS P (execOp a.eval ⟨d, op, ty, pos, af, some (j, b)⟩) H' (YN P main v H') fun _ _ => False) (hk : Azz P main lp ops.toArray Q S ts p (a.put d v) H) : Azz P main lp ops.toArray Q S ts (.free i p) a H :=
 Bq1 ((hO.nth i).trans ho) (hO.guard rfl hj hd hv) hf h hk
theorem Ayp {oj : Oper} (hO : Bqs l ops) (ho : l[i]? = some ⟨d, op, ty, pos, af, some (j, b)⟩) (hf : fine lp ⟨d, op, ty, pos, af, some (j, b)⟩ = true) (hj : l[j]? = some oj) (hd : oj.dst = some t) (hv : a.tmps[t]? = some (.bool b))
  (hS : S H) (h : ∀ H' : Hp, S H' -> wpS P (execOp a.eval ⟨d, op, ty, pos, af, some (j, b)⟩) H' (YN P main v H') fun _ _ => False) (hk : Azz P main lp ops.toArray Q S ts p (a.put d v) H) : Azz P main lp ops.toArray Q S ts (.take i p) a H :=
 Axd ((hO.nth i).trans ho) (hO.guard rfl hj hd hv) hf hS h hk
theorem Cjt {oj : Oper} (hO : Bqs l ops) (ho : l[i]? = some ⟨d, op, ty, pos, af, some (j, b)⟩) (hf : fine lp ⟨d, op, ty, pos, af, some (j, b)⟩ = true) (hj : l[j]? = some oj) (hd : oj.dst = some t) (hv : a.tmps[t]? = some (.bool b))
  (h : opX P main lp ⟨d, op, ty, pos, af, some (j, b)⟩ a H (fun a' H' => (i ∈ ts ∨ (S H -> S H')) /\ Azz P main lp ops.toArray Q S ts p a' H') Q) : Azz P main lp ops.toArray Q S ts (.one i p) a H := by
 refine Aqx ?_
 rw [Bqz]
 simp only [List.getElem?_toArray, hO.nth, ho, hO.guard (o := ⟨d, op, ty, pos, af, some (j, b)⟩) rfl hj hd hv, if_true]
 exact ⟨hf, h⟩
theorem Bj9 (hO : Bqs l ops) (ho : l[i]? = some ⟨d, op, ty, pos, af, none⟩) (hf : fine lp ⟨d, op, ty, pos, af, none⟩ = true)
  (hS : S H) (h : ∀ H' : Hp, S H' -> wpS P (execOp a.eval ⟨d, op, ty, pos, af, none⟩) H' (YN P main v H') fun _ _ => False) (hk : Azz P main lp ops.toArray Q S ts p (a.put d v) H) : Azz P main lp ops.toArray Q S ts (.take i p) a H :=
 Axd ((hO.nth i).trans ho) rfl hf hS h hk
theorem Bql (hO : Bqs l ops) (ho : l[i]? = some ⟨d, op, ty, pos, af, none⟩) (hf : fine lp ⟨d, op, ty, pos, af, none⟩ = true)
  (h : opX P main lp ⟨d, op, ty, pos, af, none⟩ a H (fun a' H' => (i ∈ ts ∨ (S H -> S H')) /\ Azz P main lp ops.toArray Q S ts p a' H') Q) : Azz P main lp ops.toArray Q S ts (.one i p) a H := by
 refine Aqx ?_
 rw [Bqz]
 simp only [List.getElem?_toArray, hO.nth, ho, Region.wanted, if_true]
 exact ⟨hf, h⟩
theorem Ajc (h : Q .normal a H) : Azz P main lp ops.toArray Q S ts .nil a H := h
end
end Go.X
end
