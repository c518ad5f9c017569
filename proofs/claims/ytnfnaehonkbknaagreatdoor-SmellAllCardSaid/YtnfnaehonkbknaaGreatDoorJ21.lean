/- Texts SmRe SmE SmEv PlanZ SmKp. -/
import Derived.Test.YtnfnaehonkbknaaGreatDoorJ20
set_option linter.defProp false
set_option linter.unusedSimpArgs false
set_option linter.unusedVariables false
set_option maxRecDepth 100000
set_option maxHeartbeats 2000000
section
namespace Go.Proofs.YtnfnaehonkbknaaGreatDoor
open Go Go.X Go.Proofs.Tryz
def Aqx := aN @Exv (aN @Eq4 (aN @Bvi (aN @Bzp (aN @Exd (aN @Dy6 (aN @Eqy (aN @Ays (aN @Exz (aN @Dy7 (aN @Eqw (aN @Dyw (aN @Exi (aN @Eq7 (aN @Exx (aN @Exf (aN @Eqj (aN @Eqa (aN @Eqb (aN @Dyu (aN @Ex2 (aN @Cqo (aN @Eq8 (aN @Akd (aN @Cqp (aN (fun H => Ckf (H := H) underlying117 underlying3 rfl sizeOf3) (aN @Ajg @Eq5))))))))))))))))))))))))))
def reaE (s : Sm) (a b : Int) : Int × Int × Int :=
 if (a < 0 ∨ s.places - 1 < a) ∨ (b < 0 ∨ s.places - 1 < b) then (0, 0, 3)
 else if 99 <= gI (Aq4 s.doors a (pad6 (s.doors.map Dr.mx))) b then (0, 0, 11)
 else (gI (Aq4 s.doors a (pad6 (s.doors.map Dr.mn))) b, gI (Aq4 s.doors a (pad6 (s.doors.map Dr.mx))) b, 0)
theorem Byl {L : List Int} (h : L.length < 6) (x : Int) : pad6 (L ++ [x]) = (pad6 L).set L.length x := by
 unfold pad6
 rw [List.length_append, List.length_singleton]
 obtain ⟨n, hn⟩ : ∃ n, 6 - L.length = n + 1 := ⟨5 - L.length, by omega⟩
 rw [hn, List.replicate_succ, List.set_append_right _ _ (Nat.le_refl _), Nat.sub_self, List.set_cons_zero, List.append_assoc, show 6 - (L.length + 1) = n by omega]
 rfl
theorem Dk1 {pl : Int} {ds : List Dr} (hd : Av8 pl ds) : ds.map Dr.mn ∈ Axw ds := (Akp hd).2 ⟨by simp, fun i d n h1 h2 => by
 rw [List.getElem?_map, h1] at h2
 simp only [Option.map_some, Option.some.injEq] at h2
 have := hd d (List.mem_of_getElem? h1)
 exact ⟨by omega, by have := this.m1; omega⟩⟩
theorem Dk2 {pl : Int} {ds : List Dr} (hd : Av8 pl ds) : ds.map Dr.mx ∈ Axw ds := (Akp hd).2 ⟨by simp, fun i d n h1 h2 => by
 rw [List.getElem?_map, h1] at h2
 simp only [Option.map_some, Option.some.injEq] at h2
 have := hd d (List.mem_of_getElem? h1)
 exact ⟨by have := this.m1; omega, by omega⟩⟩
theorem Bzf {L : List Int} (h : L.length <= 6) : (pad6 L).length = 6 := by
 unfold pad6
 rw [List.length_append, List.length_replicate]
 omega
theorem Bze {L : List Int} {k : Nat} {x : Int} : (ints L).toArray.setIfInBounds k (.int .i64 x) = (ints (L.set k x)).toArray := by
 simp [ints, List.map_set]
theorem Cxo (H : Hp) (s : Sm) (dv hv nv : Value) (hs : SmIn H dv hv nv s) (ok : SmOk s) (a b : Int) (main : Md) :
  FnX Tryz.prog main 32 #[smV s.places dv hv nv, .int .i64 a, .int .i64 b] H fun e H' => e = .returned (.tuple #[.agg #[.int .i64 (reaE s a b).1, .int .i64 (reaE s a b).2.1], .int .i64 (reaE s a b).2.2]) /\ H.le H' := by
 obtain ⟨da, dc, ha, kc, na, nc, rfl, rfl, rfl, l1, l2, l3⟩ := hs.forms
 have hr : reaE s a b = if (a < 0 ∨ s.places - 1 < a) ∨ (b < 0 ∨ s.places - 1 < b) then (0, 0, 3)
  else if 99 <= gI (Aq4 s.doors a (pad6 (s.doors.map Dr.mx))) b then (0, 0, 11)
  else (gI (Aq4 s.doors a (pad6 (s.doors.map Dr.mn))) b, gI (Aq4 s.doors a (pad6 (s.doors.map Dr.mx))) b, 0) := rfl
 generalize reaE s a b = r at *
 have q0 := ok.p0
 have q6 := ok.p1
 have hdl := ok.dl
 by_cases hab : (a < 0 ∨ s.places - 1 < a) ∨ (b < 0 ∨ s.places - 1 < b)
 ·rw [if_pos hab] at hr
  replace hr : Aqk _ := hr
  have hdc : (decide (a < 0) || decide (s.places - 1 < a)) = true ∨ ((decide (a < 0) || decide (s.places - 1 < a)) = false /\ (decide (b < 0) || decide (s.places - 1 < b)) = true) := by
   simp only [Bool.or_eq_true, Bool.or_eq_false_iff, decide_eq_true_eq, decide_eq_false_iff_not]
   omega
  clear hab
  rcases hdc with hda | ⟨hda, hdb⟩
  ·replace hda : Aqk _ := hda
   refine Aql func32 rfl ntmps32 (by simp) ?_
   (refine @unH _ (zA Aqx ?_); (try clear hK K); intro K hK hc)
   (intro sb hsb rb hrb; replace hrb : (Hp.set _ sb _) rb = none := hrb; generalize hG : Hp.set _ sb _ = H1 at hrb ⊢; have lH1 := Aqc hG hsb; have wsb := Aqb hG; clear hG; generalize hG : Hp.set _ rb _ = H2; have lH2 := Aqc hG hrb; have vrb := Aqb hG; have vsb := lH2 _ _ wsb; have nsbrb := Aqq wsb hrb; clear hG wsb)
   have l02 := Hp.le_trans lH1 lH2
   have hs2 := hs.le l02
   have h0rb := Hp.le_none lH1 hrb
   clear lH1 lH2 hsb hrb hs
   (refine @unH _ (zU Aqx ?_); (try clear hK K); intro K hK hc)
   refine (Avr _ H2 s _ _ _ hs2 ok).runs.mono ?_
   rintro _ H3 ⟨rfl, lH3⟩
   have l03 := Hp.le_trans l02 lH3
   have vr3 := lH3 _ _ vrb
   have vs3 := lH3 _ _ vsb
   have hs3 := hs2.le lH3
   clear l02 lH3 vrb vsb hs2
   (refine @unH _ (zU Aqx ?_); (try clear hK K); intro K hK hc)
   refine (Axk _ H3 a 0 _).runs.mono ?_
   rintro _ _ ⟨rfl, hQ⟩
   rw [hQ, show (decide (a < 0) || decide (s.places - 1 < a)) = true from hda]; clear hQ hda
   (refine @unH _ (zU Aqx ?_); (try clear hK K); intro K hK hc)
   (refine Axs ?_; (try simp only [nq, ↓reduceIte, Nat.reduceEqDiff]); rw [Aq8, results_cell_tmp results32 (by decide) (by decide) (b := rb) (o := 0) rfl underlying34 rfl sizeOf34]; simp -implicitDefEqProofs (disch := first | omega | (simp only [qd] <;> omega)) only [xq, ↓xp, qc, Nat.reduceAdd, List.range, List.range.loop, fine, Nat.reduceEqDiff, ↓reduceIte, yielded, reduceCtorEq, Nat.reduceLT, Nat.reduceMul, Nat.reduceSub, one, Nat.reduceLeDiff, Aqg, Aqx, Axm, List.extract_toArray])
   exact ⟨by rw [show r = _ from hr], Az8 l03 h0rb⟩
  ·replace hda : Aqk _ := hda
   replace hdb : Aqk _ := hdb
   refine Aql func32 rfl ntmps32 (by simp) ?_
   (refine @unH _ (zA Aqx ?_); (try clear hK K); intro K hK hc)
   (intro sb hsb rb hrb; replace hrb : (Hp.set _ sb _) rb = none := hrb; generalize hG : Hp.set _ sb _ = H1 at hrb ⊢; have lH1 := Aqc hG hsb; have wsb := Aqb hG; clear hG; generalize hG : Hp.set _ rb _ = H2; have lH2 := Aqc hG hrb; have vrb := Aqb hG; have vsb := lH2 _ _ wsb; have nsbrb := Aqq wsb hrb; clear hG wsb)
   have l02 := Hp.le_trans lH1 lH2
   have hs2 := hs.le l02
   have h0rb := Hp.le_none lH1 hrb
   clear lH1 lH2 hsb hrb hs
   (refine @unH _ (zU Aqx ?_); (try clear hK K); intro K hK hc)
   refine (Avr _ H2 s _ _ _ hs2 ok).runs.mono ?_
   rintro _ H3 ⟨rfl, lH3⟩
   have l03 := Hp.le_trans l02 lH3
   have vr3 := lH3 _ _ vrb
   have vs3 := lH3 _ _ vsb
   have hs3 := hs2.le lH3
   clear l02 lH3 vrb vsb hs2
   (refine @unH _ (zU Aqx ?_); (try clear hK K); intro K hK hc)
   refine (Axk _ H3 a 0 _).runs.mono ?_
   rintro _ _ ⟨rfl, hQ⟩
   rw [hQ, show (decide (a < 0) || decide (s.places - 1 < a)) = false from hda]; clear hQ hda
   (refine @unH _ (zU Aqx ?_); intro _ _ hc)
   refine (Axk _ H3 b 0 _).runs.mono ?_
   rintro _ _ ⟨rfl, hQ⟩
   rw [hQ, show (decide (b < 0) || decide (s.places - 1 < b)) = true from hdb]; clear hQ hdb
   (refine @unH _ (zU Aqx ?_); (try clear hK K); intro K hK hc)
   (refine Axs ?_; (try simp only [nq, ↓reduceIte, Nat.reduceEqDiff]); rw [Aq8, results_cell_tmp results32 (by decide) (by decide) (b := rb) (o := 0) rfl underlying34 rfl sizeOf34]; simp -implicitDefEqProofs (disch := first | omega | (simp only [qd] <;> omega)) only [xq, ↓xp, qc, Nat.reduceAdd, List.range, List.range.loop, fine, Nat.reduceEqDiff, ↓reduceIte, yielded, reduceCtorEq, Nat.reduceLT, Nat.reduceMul, Nat.reduceSub, one, Nat.reduceLeDiff, Aqg, Aqx, Axm, List.extract_toArray])
   exact ⟨by rw [show r = _ from hr], Az8 l03 h0rb⟩
 ·rw [if_neg hab] at hr
  replace hr : Aqk _ := hr
  have hda : (decide (a < 0) || decide (s.places - 1 < a)) = false := by simp; omega
  have hdb : (decide (b < 0) || decide (s.places - 1 < b)) = false := by simp; omega
  replace hda : Aqk _ := hda
  replace hdb : Aqk _ := hdb
  have ha0 : 0 <= a := by omega
  have ha1 : a < s.places := by omega
  have hb0 : 0 <= b := by omega
  have hb1 : b < s.places := by omega
  clear hab
  refine Aql func32 rfl ntmps32 (by simp) ?_
  (refine @unH _ (zA Aqx ?_); (try clear hK K); intro K hK hc)
  (intro sb hsb rb hrb; replace hrb : (Hp.set _ sb _) rb = none := hrb; generalize hG : Hp.set _ sb _ = H1 at hrb ⊢; have lH1 := Aqc hG hsb; have wsb := Aqb hG; clear hG; generalize hG : Hp.set _ rb _ = H2; have lH2 := Aqc hG hrb; have vrb := Aqb hG; have vsb := lH2 _ _ wsb; have nsbrb := Aqq wsb hrb; clear hG wsb)
  have l02 := Hp.le_trans lH1 lH2
  have hs2 := hs.le l02
  have h0rb := Hp.le_none lH1 hrb
  clear lH1 lH2 hsb hrb hs
  (refine @unH _ (zU Aqx ?_); (try clear hK K); intro K hK hc)
  refine (Avr _ H2 s _ _ _ hs2 ok).runs.mono ?_
  rintro _ H3 ⟨rfl, lH3⟩
  have l03 := Hp.le_trans l02 lH3
  have vr3 := lH3 _ _ vrb
  have vs3 := lH3 _ _ vsb
  have hs3 := hs2.le lH3
  clear l02 lH3 vrb vsb hs2
  (refine @unH _ (zU Aqx ?_); (try clear hK K); intro K hK hc)
  refine (Axk _ H3 a 0 _).runs.mono ?_
  rintro _ _ ⟨rfl, hQ⟩
  rw [hQ, show (decide (a < 0) || decide (s.places - 1 < a)) = false from hda]; clear hQ hda
  (refine @unH _ (zU Aqx ?_); intro _ _ hc)
  refine (Axk _ H3 b 0 _).runs.mono ?_
  rintro _ _ ⟨rfl, hQ⟩
  rw [hQ, show (decide (b < 0) || decide (s.places - 1 < b)) = false from hdb]; clear hQ hdb
  (refine @unH _ (zU Aqx ?_); (try clear hK K); intro K hK hc)
  (intro ab hab cb hcb; replace hcb : (Hp.set _ ab _) cb = none := hcb; generalize hG : Hp.set _ ab _ = H4 at hcb ⊢; have lH4 := Aqc hG hab; have wab := Aqb hG; clear hG; generalize hG : Hp.set _ cb _ = H5; have lH5 := Aqc hG hcb; have vcb := Aqb hG; have vab := lH5 _ _ wab; have nabcb := Aqq wab hcb; clear hG wab)
  have l35 := Hp.le_trans lH4 lH5
  have l05 := Hp.le_trans l03 l35
  have vr5 := l35 _ _ vr3
  have vs5 := l35 _ _ vs3
  have hs5 := hs3.le l35
  have f0a := Hp.le_none l03 hab
  have f0c := Hp.le_none (Hp.le_trans l03 lH4) hcb
  have nra := Aqq vr3 hab
  have nrc := Aqq (lH4 _ _ vr3) hcb
  have nsa := Aqq vs3 hab
  have nsc := Aqq (lH4 _ _ vs3) hcb
  have va5 : H5 ab = some (true, .cells (ints (pad6 ((s.doors.take 0).map Dr.mn))).toArray 91 (0, 0)) := by rw [vab]; rfl
  have vc5 : H5 cb = some (true, .cells (ints (pad6 ((s.doors.take 0).map Dr.mx))).toArray 91 (0, 0)) := by rw [vcb]; rfl
  clear l03 vr3 vs3 hs3 hab hcb lH4 lH5 l35 vab vcb
  (refine @unH _ (zU Aqx ?_); (try clear hK K); intro K hK hc)
  refine Axc (fun w a' H' => ∃ e, ∃ k : Nat, w = s.doors.length - k /\ k <= s.doors.length /\ a' = act 75 e [] /\ e 1 = .int .i64 a /\ e 2 = .int .i64 b /\ e 3 = .pointer (some ⟨sb, 0, none⟩) /\ e 6 = .pointer (some ⟨rb, 0, none⟩) /\ e 9 = .pointer (some ⟨ab, 0, none⟩) /\ e 10 = .pointer (some ⟨cb, 0, none⟩) /\ e 35 = .slice da s.doors.length dc /\ e 36 = .int .i64 (s.doors.length : Nat) /\ e 37 = .int .i64 (k : Nat) /\ (∀ c x, c ≠ ab -> c ≠ cb -> H5 c = some x -> H' c = some x) /\ H' ab = some (true, .cells (ints (pad6 ((s.doors.take k).map Dr.mn))).toArray 91 (0, 0)) /\ H' cb = some (true, .cells (ints (pad6 ((s.doors.take k).map Dr.mx))).toArray 91 (0, 0))) (n := s.doors.length) ?_ ?_
  ·exact ⟨_, 0, by omega, by omega, rfl, rfl, rfl, rfl, rfl, rfl, rfl, rfl, rfl, rfl, fun _ _ _ _ hx => hx, va5, vc5⟩
  rintro w a' H6 ⟨e, k, rfl, hk, rfl, e1, e2, e3, e6, e9, e10, e35, e36, e37, hf6, va6, vc6⟩
  have hcell : ∀ {x : Nat} {p : Bool} {c : Array Value} {t : TypeId} {fr : Nat × Nat}, t ≠ 91 -> H5 x = some (p, .cells c t fr) -> H6 x = some (p, .cells c t fr) := fun ht hx => hf6 _ _ (fun e => by rw [e, va5] at hx; simp only [Option.some.injEq, Prod.mk.injEq, Obj.cells.injEq] at hx; exact ht hx.2.2.1.symm) (fun e => by rw [e, vc5] at hx; simp only [Option.some.injEq, Prod.mk.injEq, Obj.cells.injEq] at hx; exact ht hx.2.2.1.symm) hx
  have hs6 : SmIn H6 (.slice da s.doors.length dc) (.slice ha s.hampers.length kc) (.slice na s.noses.length nc) s := ⟨hs5.dd.move fun x p c fr hx => ⟨p, hcell (by decide) hx⟩, hs5.hh.move fun x p c fr hx => hcell (by decide) hx, hs5.nn.move fun x p c fr hx => ⟨p, hcell (by decide) hx⟩⟩
  have vr6 := hcell (by decide) vr5
  have vs6 := hcell (by decide) vs5
  replace hf6 : Aqk _ := hf6
  clear hcell
  by_cases hlt : k < s.doors.length
  ·have hkd := List.getElem?_eq_getElem hlt
   have hmn : pad6 ((s.doors.take (k + 1)).map Dr.mn) = (pad6 ((s.doors.take k).map Dr.mn)).set k s.doors[k].mn := by
    rw [List.take_add_one, hkd, Option.toList_some, List.map_append]
    have hl : ((s.doors.take k).map Dr.mn).length = k := by rw [List.length_map, List.length_take]; omega
    have := Byl (L := (s.doors.take k).map Dr.mn) (by omega) s.doors[k].mn
    rw [hl] at this
    exact this
   have hmx : pad6 ((s.doors.take (k + 1)).map Dr.mx) = (pad6 ((s.doors.take k).map Dr.mx)).set k s.doors[k].mx := by
    rw [List.take_add_one, hkd, Option.toList_some, List.map_append]
    have hl : ((s.doors.take k).map Dr.mx).length = k := by rw [List.length_map, List.length_take]; omega
    have := Byl (L := (s.doors.take k).map Dr.mx) (by omega) s.doors[k].mx
    rw [hl] at this
    exact this
   have hla : (pad6 ((s.doors.take k).map Dr.mn)).length = 6 := Bzf (by rw [List.length_map, List.length_take]; omega)
   have hlc : (pad6 ((s.doors.take k).map Dr.mx)).length = 6 := Bzf (by rw [List.length_map, List.length_take]; omega)
   obtain ⟨db, dof, dp, dcl, dfr, rfl, hdb2, hdsz, hdrl, hdext⟩ := SlG.get hs6.dd (i := k) (r := Bj1 s.doors[k]) (by rw [List.getElem?_map, hkd]; rfl)
   generalize s.doors[k] = d at *
   generalize pad6 ((s.doors.take k).map Dr.mn) = A6 at *
   generalize pad6 ((s.doors.take k).map Dr.mx) = C6 at *
   unfold Bj1 at hdext
   replace hmn : Aqk _ := hmn
   replace hmx : Aqk _ := hmx
   clear hdrl vr6 vs6
   (refine @unH _ (zA Aqx ?_); (try clear hK K); intro K hK hc)
   (intro tb htb; generalize hG : Hp.set _ tb _ = H7; have lH7 := Aqc hG htb; have vtb := Aqb hG; clear hG)
   have va7 := lH7 _ _ va6
   have vc7 := lH7 _ _ vc6
   have nat_ := Aqq va6 htb
   have nct := Aqq vc6 htb
   have nta := Ne.symm nat_
   have ntc := Ne.symm nct
   have ncab := Ne.symm nabcb
   have hf7 : Aqk (∀ c x, c ≠ ab -> c ≠ cb -> H5 c = some x -> H7 c = some x) := fun c x h1 h2 hx => lH7 _ _ ((show ∀ c x, c ≠ ab -> c ≠ cb -> H5 c = some x -> H6 c = some x from hf6) c x h1 h2 hx)
   clear lH7 va6 vc6 htb hs6 hdb2 hdsz hdext hf6
   have hia : (ints A6).toArray.size = 6 := by rw [List.size_toArray, Aqz, hla]
   have hic : (ints C6).toArray.size = 6 := by rw [List.size_toArray, Aqz, hlc]
   have hpa : (ints A6).toArray.setIfInBounds k (.int .i64 d.mn) = (ints (A6.set k d.mn)).toArray := Bze
   have hpc : (ints C6).toArray.setIfInBounds k (.int .i64 d.mx) = (ints (C6.set k d.mx)).toArray := Bze
   generalize (ints A6).toArray = AA at *
   generalize (ints C6).toArray = CC at *
   refine hK _ _ ?_
   clear hK K
   (try refine @unH _ (zQ ?_))
   refine Axn (fun HX => HX tb = some (true, .cells #[.int .i64 d.a, .int .i64 d.b, .int .i64 d.mn, .int .i64 d.mx] 66 (0, 0))) [11] (.free 0 (.free 1 (.free 2 (.free 3 (.take 4 (.free 5 (.free 6 (.take 7 (.free 8 (.one 9 (.free 10 (.one 11 .nil)))))))))))) (by kernel_rfl) (by kernel_rfl) (by decide) (by kernel_rfl) ?_; intro K hK
   (iterate 4 (refine @unH _ ?_; refine zI Aqx ?_))
   (refine @unH _ ?_; refine zJ Aqx ?_)
   (iterate 2 (refine @unH _ ?_; refine zI Aqx ?_))
   (refine @unH _ ?_; refine zJ Aqx ?_)
   (refine @unH _ ?_; refine zI Aqx ?_)
   refine Aqv ?_
   (refine @unH _ ?_; refine zX Aqx ?_)
   refine ⟨.inr fun _ => trivial, ?_⟩
   (refine @unH _ ?_; refine zI Aqx ?_)
   refine Aqv ?_
   (refine @unH _ ?_; refine zX Aqx ?_)
   refine ⟨.inl (by decide), Axr (hK _ _ ?_)⟩
   clear hK K
   generalize hG : Hp.set (Hp.set H7 ab _) cb _ = H8
   have va8 : H8 ab = some (true, .cells (ints (A6.set k d.mn)).toArray 91 (0, 0)) := by rw [<- hG]; simp [Hp.set, nabcb]
   have vc8 : H8 cb = some (true, .cells (ints (C6.set k d.mx)).toArray 91 (0, 0)) := by rw [<- hG]; simp [Hp.set]
   have hf8 : ∀ c x, c ≠ ab -> c ≠ cb -> H5 c = some x -> H8 c = some x := fun c x h1 h2 hx => by
    rw [<- hG, Aqu h2, Aqu h1]
    exact (show ∀ c x, c ≠ ab -> c ≠ cb -> H5 c = some x -> H7 c = some x from hf7) c x h1 h2 hx
   clear hG va7 vc7 hf7 hpa hpc hia hic
   show wpX _ _ _ _ _ _ _
   (refine @unH _ (zA Aqx ?_); (try clear hK K); intro K hK hc)
   exact ⟨_, by omega, _, k + 1, rfl, hlt, rfl, e1, e2, e3, e6, e9, e10, e35, e36, rfl, hf8, by rw [show pad6 _ = _ from hmn]; exact va8, by rw [show pad6 _ = _ from hmx]; exact vc8⟩
  ·obtain rfl : k = s.doors.length := by omega
   rw [List.take_length] at va6 vc6
   have l06 : H.le H6 := fun c x hx => (show ∀ c x, c ≠ ab -> c ≠ cb -> H5 c = some x -> H6 c = some x from hf6) c x (fun e => by rw [e, f0a] at hx; cases hx) (fun e => by rw [e, f0c] at hx; cases hx) (l05 _ _ hx)
   have hta : TsOk s.doors (pad6 (s.doors.map Dr.mn)) := Aj3 ok.dk (Dk1 ok.dk)
   have htc : TsOk s.doors (pad6 (s.doors.map Dr.mx)) := Aj3 ok.dk (Dk2 ok.dk)
   have hla : (pad6 (s.doors.map Dr.mn)).length = 6 := Bzf (by rw [List.length_map]; exact hdl)
   have hlc : (pad6 (s.doors.map Dr.mx)).length = 6 := Bzf (by rw [List.length_map]; exact hdl)
   clear hf6 vr5 vs5 hs5 va5 vc5 l05
   generalize pad6 (s.doors.map Dr.mn) = A6 at *
   generalize pad6 (s.doors.map Dr.mx) = C6 at *
   (refine @unH _ (zA Aqx ?_); (try clear hK K); intro K hK hc)
   refine (Ako _ H6 s.places _ _ _ _ _ _ _ _ _).runs.mono ?_
   rintro _ H7 ⟨hb, mb, rfl, vh7, vm7, h6h, h6m, lH7⟩
   have l07 := Hp.le_trans l06 lH7
   have va7 := lH7 _ _ va6
   have vc7 := lH7 _ _ vc6
   have vr7 := lH7 _ _ vr6
   have hs7 := hs6.le lH7
   have kn7 : Ajf s.doors mb H7 := ⟨_, _, vm7, by simp [MapG]⟩
   have nha := Aqq va6 h6h
   have nma := Aqq va6 h6m
   have nhc := Aqq vc6 h6h
   have nmc := Aqq vc6 h6m
   have nmr := Aqq vr6 h6m
   have f0m := Hp.le_none l06 h6m
   have nhm : hb ≠ mb := fun e => by rw [e, vm7] at vh7; simp at vh7
   clear l06 lH7 va6 vc6 vr6 vs6 hs6 vm7 h6h h6m
   (refine @unH _ (zU Aqx ?_); (try clear hK K); intro K hK hc)
   have hsp := fun (HX : Hp) (c6 : List Int) (hl : c6.length = 6) (ht : TsOk s.doors c6) vh kn dd => Bji main HX hb mb true s.places da dc (.slice ha s.hampers.length kc) (.slice na s.noses.length nc) a c6 s.doors vh kn dd ok.p1 ha0 ha1 ok.dk ok.dl hl ht
   have hla2 : (Aq4 s.doors a A6).length = 6 := Avx _ _ _
   have hlc2 : (Aq4 s.doors a C6).length = 6 := Avx _ _ _
   have hga := Awi hla2 hb0 (show b < 6 by omega)
   have hgc := Awi hlc2 hb0 (show b < 6 by omega)
   have hsA := fun HX vh kn dd => hsp HX A6 hla hta vh kn dd
   have hsC := fun HX vh kn dd => hsp HX C6 hlc htc vh kn dd
   clear hsp hta htc
   generalize Aq4 s.doors a A6 = SA at *
   generalize Aq4 s.doors a C6 = SC at *
   generalize gI SA b = ga at *
   generalize gI SC b = gc at *
   replace hsA : Aqk _ := hsA
   replace hsC : Aqk _ := hsC
   have hiA : 6 <= (ints A6).length := by rw [Aqz, hla]; exact Nat.le_refl _
   have hiC : 6 <= (ints C6).length := by rw [Aqz, hlc]; exact Nat.le_refl _
   have hexA := Ajn hla
   have hexC := Ajn hlc
   have hGA : ∃ G : Hp -> Prop, (∀ HX, G HX -> FnX Tryz.prog main 68 #[.pointer (some ⟨hb, 0, none⟩), .agg (.int .i64 a :: ints A6).toArray] HX fun e H' => e = .returned (.agg (ints SA).toArray) /\ G H' /\ ∀ b x, b ≠ mb -> HX b = some x -> H' b = some x) /\
     (∀ HX, G HX -> FnX Tryz.prog main 68 #[.pointer (some ⟨hb, 0, none⟩), .agg (.int .i64 a :: ints C6).toArray] HX fun e H' => e = .returned (.agg (ints SC).toArray) /\ G H' /\ ∀ b x, b ≠ mb -> HX b = some x -> H' b = some x) /\
     (∀ HX HY, G HX -> HX.le HY -> G HY) /\ (∀ HX, G HX -> HX mb ≠ none) /\ (∀ HX, G HX -> HX ab = some (true, .cells (ints A6).toArray 91 (0, 0)) /\ HX cb = some (true, .cells (ints C6).toArray 91 (0, 0)) /\ HX rb = some (true, .cells #[.int .i64 0, .int .i64 0] 34 (0, 0)) /\ H.le HX) /\ G H7 := by
    have key : ∀ (HX H' : Hp), (HX ab = some (true, .cells (ints A6).toArray 91 (0, 0)) /\ HX cb = some (true, .cells (ints C6).toArray 91 (0, 0)) /\ HX rb = some (true, .cells #[.int .i64 0, .int .i64 0] 34 (0, 0)) /\ H.le HX /\ HX hb = some (true, hsO s.places (.slice da s.doors.length dc) (.slice ha s.hampers.length kc) (.slice na s.noses.length nc) mb) /\ Ajf s.doors mb HX /\ SlD HX (.slice da s.doors.length dc) s.doors) -> (∀ b x, b ≠ mb -> HX b = some x -> H' b = some x) -> Ajf s.doors mb H' -> (H' ab = some (true, .cells (ints A6).toArray 91 (0, 0)) /\ H' cb = some (true, .cells (ints C6).toArray 91 (0, 0)) /\ H' rb = some (true, .cells #[.int .i64 0, .int .i64 0] 34 (0, 0)) /\ H.le H' /\ H' hb = some (true, hsO s.places (.slice da s.doors.length dc) (.slice ha s.hampers.length kc) (.slice na s.noses.length nc) mb) /\ Ajf s.doors mb H' /\ SlD H' (.slice da s.doors.length dc) s.doors) := by
     rintro HX H' ⟨g1, g2, g3, g4, g5, ⟨es, cl, g6, _⟩, g7⟩ hf kn
     refine ⟨hf _ _ nma g1, hf _ _ nmc g2, hf _ _ nmr g3, fun c x hx => hf _ _ (fun e => by rw [e, f0m] at hx; cases hx) (g4 _ _ hx), hf _ _ nhm g5, kn, g7.move fun x p c fr hx => ⟨p, hf _ _ (fun e => by rw [e, g6] at hx; simp at hx) hx⟩⟩
    refine ⟨fun HX => HX ab = some (true, .cells (ints A6).toArray 91 (0, 0)) /\ HX cb = some (true, .cells (ints C6).toArray 91 (0, 0)) /\ HX rb = some (true, .cells #[.int .i64 0, .int .i64 0] 34 (0, 0)) /\ H.le HX /\ HX hb = some (true, hsO s.places (.slice da s.doors.length dc) (.slice ha s.hampers.length kc) (.slice na s.noses.length nc) mb) /\ Ajf s.doors mb HX /\ SlD HX (.slice da s.doors.length dc) s.doors, ?_, ?_, ?_, ?_, ?_, ?_⟩
    ·intro HX g
     refine ((show ∀ HX _ _ _, FnX _ _ _ _ _ _ from hsA) HX g.2.2.2.2.1 g.2.2.2.2.2.1 g.2.2.2.2.2.2).mono ?_
     rintro _ H' ⟨rfl, h1, h2⟩
     exact ⟨rfl, key HX H' g h1 h2, h1⟩
    ·intro HX g
     refine ((show ∀ HX _ _ _, FnX _ _ _ _ _ _ from hsC) HX g.2.2.2.2.1 g.2.2.2.2.2.1 g.2.2.2.2.2.2).mono ?_
     rintro _ H' ⟨rfl, h1, h2⟩
     exact ⟨rfl, key HX H' g h1 h2, h1⟩
    ·rintro HX HY ⟨g1, g2, g3, g4, g5, g6, g7⟩ hl
     exact ⟨hl _ _ g1, hl _ _ g2, hl _ _ g3, Hp.le_trans g4 hl, hl _ _ g5, g6.le hl, g7.le hl⟩
    ·rintro HX ⟨g1, g2, g3, g4, g5, ⟨es, cl, g6, _⟩, g7⟩
     rw [g6]; simp
    ·rintro HX ⟨g1, g2, g3, g4, _⟩
     exact ⟨g1, g2, g3, g4⟩
    ·exact ⟨va7, vc7, vr7, l07, vh7, kn7, hs7.dd⟩
   obtain ⟨G, gA, gC, gL, gM, gF, g7⟩ := hGA
   replace gA : Aqk _ := gA
   replace gC : Aqk _ := gC
   replace gL : Aqk _ := gL
   replace gM : Aqk _ := gM
   replace gF : Aqk _ := gF
   clear hsA hsC
   refine Az7 (Q := only fun a' H' => ∃ e' ob, a' = act 75 e' [] /\ e' 6 = .pointer (some ⟨rb, 0, none⟩) /\ e' 14 = .pointer (some ⟨ob, 0, none⟩) /\ H' ob = some (true, .cells #[.int .i64 ga, .int .i64 gc] 34 (0, 0)) /\ H' rb = some (true, .cells #[.int .i64 0, .int .i64 0] 34 (0, 0)) /\ rb ≠ ob /\ H.le H') ?_ ?_
   ·refine Axn (fun HX => HX ab = some (true, .cells (ints A6).toArray 91 (0, 0)) /\ HX cb = some (true, .cells (ints C6).toArray 91 (0, 0))) [16] (.free 0 (.free 1 (.take 2 (.free 3 (.free 5 (.free 7 (.free 8 (.take 9 (.free 10 (.free 12 (.two 4 (.free 6 (.two 11 (.free 13 (.free 14 (.one 15 (.one 16 .nil)))) 15 (.one 11 (.free 13 (.free 14 (.one 16 .nil)))))) 15 (.one 4 (.free 6 (.one 11 (.free 13 (.free 14 (.one 16 .nil))))))))))))))))) (by kernel_rfl) (by kernel_rfl) (by decide) (by kernel_rfl) ?_; intro K hK
    have hS0 : (fun HX : Hp => HX ab = some (true, .cells (ints A6).toArray 91 (0, 0)) /\ HX cb = some (true, .cells (ints C6).toArray 91 (0, 0))) H7 := ⟨va7, vc7⟩
    (iterate 2 (refine @unH _ ?_; refine zI Aqx ?_))
    (apply Axe rfl rfl rfl ‹_›; (focus (intro HX hHX; simp -implicitDefEqProofs (disch := first | omega | (simp only [qd] <;> omega)) only [xq, ↓xp, qc, Nat.reduceAdd, List.range, List.range.loop, fine, Nat.reduceEqDiff, ↓reduceIte, yielded, reduceCtorEq, Nat.reduceLT, Nat.reduceMul, Nat.reduceSub, one, Nat.reduceLeDiff, Aqg, Aqx, aq, ↓ap, qe0, qe1, qe2, *, -hK, Axa, hHX.1] <;> (first | exact rfl | exact ⟨rfl, rfl⟩ | exact ⟨rfl, trivial⟩))); simp -implicitDefEqProofs (disch := first | omega | (simp only [qd] <;> omega)) only [Aq3, Aqm])
    (iterate 4 (refine @unH _ ?_; refine zI (aN Aqx @Cqk) ?_))
    (apply Axe rfl rfl rfl ‹_›; (focus (intro HX hHX; simp -implicitDefEqProofs (disch := first | omega | (simp only [qd] <;> omega)) only [xq, ↓xp, qc, Nat.reduceAdd, List.range, List.range.loop, fine, Nat.reduceEqDiff, ↓reduceIte, yielded, reduceCtorEq, Nat.reduceLT, Nat.reduceMul, Nat.reduceSub, one, Nat.reduceLeDiff, Aqg, Aqx, aq, ↓ap, qe0, qe1, qe2, *, -hK, Axa, hHX.2] <;> (first | exact rfl | exact ⟨rfl, rfl⟩ | exact ⟨rfl, trivial⟩))); simp -implicitDefEqProofs (disch := first | omega | (simp only [qd] <;> omega)) only [Aq3, Aqm])
    (iterate 2 (refine @unH _ ?_; refine zI (aN Aqx @Cqk) ?_))
    refine Awn ?_ ?_
    ·(refine @unH _ ?_; refine zX Aqx ?_)
     refine ((show ∀ HX, G HX -> FnX _ _ _ _ _ _ from gA) H7 g7).runs.mono ?_
     rintro _ H8 ⟨rfl, g8, f8⟩
     obtain ⟨w1, w2, w3, w4⟩ := (show ∀ HX, G HX -> _ /\ _ /\ _ /\ _ from gF) H8 g8
     (refine @unH _ ?_; refine zX Aqx ?_)
     refine ⟨.inr fun _ => (by first | trivial | exact ⟨w1, w2⟩), ?_⟩
     (refine @unH _ ?_; refine zI Aqx ?_)
     refine Awn ?_ ?_
     ·(refine @unH _ ?_; refine zX Aqx ?_)
      refine ((show ∀ HX, G HX -> FnX _ _ _ _ _ _ from gC) H8 g8).runs.mono ?_
      rintro _ H9 ⟨rfl, g9, f9⟩
      obtain ⟨w1, w2, w3, w4⟩ := (show ∀ HX, G HX -> _ /\ _ /\ _ /\ _ from gF) H9 g9
      (refine @unH _ ?_; refine zX Aqx ?_)
      refine ⟨.inr fun _ => (by first | trivial | exact ⟨w1, w2⟩), ?_⟩
      (refine @unH _ ?_; refine zI Aqx ?_)
      (refine @unH _ ?_; refine zI Aqx ?_)
      refine Aqv ?_
      (refine @unH _ ?_; refine zX Aqx ?_)
      intro ob hob
      obtain ⟨x1, x2, x3, x4⟩ := (show ∀ HX, G HX -> _ /\ _ /\ _ /\ _ from gF) H9 g9
      have y1 := Aqq x1 hob
      have y2 := Aqq x2 hob
      have nro := Aqq x3 hob
      have nmo : ob ≠ mb := fun e => (show ∀ HX, G HX -> HX mb ≠ none from gM) H9 g9 (by rw [<- e]; exact hob)
      have f0o := Hp.le_none x4 hob
      refine ⟨.inr fun _ => (by first | trivial | (simp only [y1, y2, if_false, and_self])), ?_⟩
      generalize hG : Hp.set H9 ob _ = H10
      have g10 := (show ∀ HX HY, G HX -> HX.le HY -> G HY from gL) H9 H10 g9 (Aqc hG hob)
      have vo := Aqb hG
      obtain ⟨w1, w2, w3, w4⟩ := (show ∀ HX, G HX -> _ /\ _ /\ _ /\ _ from gF) H10 g10
      clear hG hob x1 x2 x3 x4
      refine Aqv ?_
      (refine @unH _ ?_; refine zX Aqx ?_)
      refine ⟨.inl (by decide), Axr (hK _ _ ?_)⟩
      exact ⟨_, ob, rfl, e6, rfl, Axf, by rw [Aqu nro]; exact w3, nro, fun c x hx => by rw [Aqu (fun e => by rw [e, f0o] at hx; cases hx)]; exact w4 _ _ hx⟩
     ·(refine @unH _ ?_; refine zX Aqx ?_)
      intro ob hob
      obtain ⟨x1, x2, x3, x4⟩ := (show ∀ HX, G HX -> _ /\ _ /\ _ /\ _ from gF) H8 g8
      have y1 := Aqq x1 hob
      have y2 := Aqq x2 hob
      have nro := Aqq x3 hob
      have nmo : ob ≠ mb := fun e => (show ∀ HX, G HX -> HX mb ≠ none from gM) H8 g8 (by rw [<- e]; exact hob)
      have f0o := Hp.le_none x4 hob
      refine ⟨.inr fun _ => (by first | trivial | (simp only [y1, y2, if_false, and_self])), ?_⟩
      generalize hG : Hp.set H8 ob _ = H9
      have g9 := (show ∀ HX HY, G HX -> HX.le HY -> G HY from gL) H8 H9 g8 (Aqc hG hob)
      have vo := Aqb hG
      obtain ⟨w1, w2, w3, w4⟩ := (show ∀ HX, G HX -> _ /\ _ /\ _ /\ _ from gF) H9 g9
      clear hG hob x1 x2 x3 x4
      refine Aqv ?_
      (refine @unH _ ?_; refine zX Aqx ?_)
      refine ((show ∀ HX, G HX -> FnX _ _ _ _ _ _ from gC) H9 g9).runs.mono ?_
      rintro _ H10 ⟨rfl, g10, f10⟩
      obtain ⟨w1, w2, w3, w4⟩ := (show ∀ HX, G HX -> _ /\ _ /\ _ /\ _ from gF) H10 g10
      (refine @unH _ ?_; refine zX Aqx ?_)
      refine ⟨.inr fun _ => (by first | trivial | exact ⟨w1, w2⟩), ?_⟩
      have vo2 := f10 _ _ nmo vo
      (refine @unH _ ?_; refine zI Aqx ?_)
      (refine @unH _ ?_; refine zI Aqx ?_)
      refine Aqv ?_
      (refine @unH _ ?_; refine zX Aqx ?_)
      refine ⟨.inl (by decide), Axr (hK _ _ ?_)⟩
      exact ⟨_, ob, rfl, e6, rfl, Axf, by rw [Aqu nro]; exact w3, nro, fun c x hx => by rw [Aqu (fun e => by rw [e, f0o] at hx; cases hx)]; exact w4 _ _ hx⟩
    ·(refine @unH _ ?_; refine zX Aqx ?_)
     intro ob hob
     obtain ⟨x1, x2, x3, x4⟩ := (show ∀ HX, G HX -> _ /\ _ /\ _ /\ _ from gF) H7 g7
     have y1 := Aqq x1 hob
     have y2 := Aqq x2 hob
     have nro := Aqq x3 hob
     have nmo : ob ≠ mb := fun e => (show ∀ HX, G HX -> HX mb ≠ none from gM) H7 g7 (by rw [<- e]; exact hob)
     have f0o := Hp.le_none x4 hob
     refine ⟨.inr fun _ => (by first | trivial | (simp only [y1, y2, if_false, and_self])), ?_⟩
     generalize hG : Hp.set H7 ob _ = H8
     have g8 := (show ∀ HX HY, G HX -> HX.le HY -> G HY from gL) H7 H8 g7 (Aqc hG hob)
     have vo := Aqb hG
     obtain ⟨w1, w2, w3, w4⟩ := (show ∀ HX, G HX -> _ /\ _ /\ _ /\ _ from gF) H8 g8
     clear hG hob x1 x2 x3 x4
     refine Aqv ?_
     (refine @unH _ ?_; refine zX Aqx ?_)
     refine ((show ∀ HX, G HX -> FnX _ _ _ _ _ _ from gA) H8 g8).runs.mono ?_
     rintro _ H9 ⟨rfl, g9, f9⟩
     obtain ⟨w1, w2, w3, w4⟩ := (show ∀ HX, G HX -> _ /\ _ /\ _ /\ _ from gF) H9 g9
     (refine @unH _ ?_; refine zX Aqx ?_)
     refine ⟨.inr fun _ => (by first | trivial | exact ⟨w1, w2⟩), ?_⟩
     have vo2 := f9 _ _ nmo vo
     (refine @unH _ ?_; refine zI Aqx ?_)
     refine Aqv ?_
     (refine @unH _ ?_; refine zX Aqx ?_)
     refine ((show ∀ HX, G HX -> FnX _ _ _ _ _ _ from gC) H9 g9).runs.mono ?_
     rintro _ H10 ⟨rfl, g10, f10⟩
     obtain ⟨w1, w2, w3, w4⟩ := (show ∀ HX, G HX -> _ /\ _ /\ _ /\ _ from gF) H10 g10
     (refine @unH _ ?_; refine zX Aqx ?_)
     refine ⟨.inr fun _ => (by first | trivial | exact ⟨w1, w2⟩), ?_⟩
     have vo3 := f10 _ _ nmo vo2
     (refine @unH _ ?_; refine zI Aqx ?_)
     (refine @unH _ ?_; refine zI Aqx ?_)
     refine Aqv ?_
     (refine @unH _ ?_; refine zX Aqx ?_)
     refine ⟨.inl (by decide), Axr (hK _ _ ?_)⟩
     exact ⟨_, ob, rfl, e6, rfl, Axf, by rw [Aqu nro]; exact w3, nro, fun c x hx => by rw [Aqu (fun e => by rw [e, f0o] at hx; cases hx)]; exact w4 _ _ hx⟩
   ·intro e a' H' q
    cases e with
    | normal =>
     obtain ⟨e', ob, rfl, e6, e14, vo8, vr8, nro, l08⟩ := q
     clear gA gC gL gM gF g7 va7 vc7 vr7 vh7 hs7 kn7 l07 hexA hexC hga hgc
     by_cases hg : 99 <= gc
     ·replace hr : Aqk (r = (0, 0, 11)) := Eq.trans (show r = _ from hr) (if_pos hg)
      show wpX _ _ _ _ _ _ _
      (refine @unH _ (zA Aqx ?_); (try clear hK K); intro K hK hc)
      (refine Axs ?_; (try simp only [nq, ↓reduceIte, Nat.reduceEqDiff]); rw [Aq8, results_cell_tmp results32 (by decide) (by decide) (b := rb) (o := 0) ?hcell underlying34 rfl sizeOf34]; (case hcell => exact e6); simp -implicitDefEqProofs (disch := first | omega | (simp only [qd] <;> omega)) only [xq, ↓xp, qc, Nat.reduceAdd, List.range, List.range.loop, fine, Nat.reduceEqDiff, ↓reduceIte, yielded, reduceCtorEq, Nat.reduceLT, Nat.reduceMul, Nat.reduceSub, one, Nat.reduceLeDiff, Aqg, Aqx, Axm, List.extract_toArray])
      exact ⟨by rw [show r = _ from hr], Az8 l08 h0rb⟩
     ·replace hr : Aqk (r = (ga, gc, 0)) := Eq.trans (show r = _ from hr) (if_neg hg)
      show wpX _ _ _ _ _ _ _
      (refine @unH _ (zA Aqx ?_); (try clear hK K); intro K hK hc)
      (refine Axs ?_; (try simp only [nq, ↓reduceIte, Nat.reduceEqDiff]); rw [Aq8, results_cell_tmp results32 (by decide) (by decide) (b := rb) (o := 0) ?hcell underlying34 rfl sizeOf34]; (case hcell => exact e6); simp -implicitDefEqProofs (disch := first | omega | (simp only [qd] <;> omega)) only [xq, ↓xp, qc, Nat.reduceAdd, List.range, List.range.loop, fine, Nat.reduceEqDiff, ↓reduceIte, yielded, reduceCtorEq, Nat.reduceLT, Nat.reduceMul, Nat.reduceSub, one, Nat.reduceLeDiff, Aqg, Aqx, Axm, List.extract_toArray])
      exact ⟨by rw [show r = _ from hr], Az8 l08 h0rb⟩
    | _ => exact q.elim
def Cx7 := aN @Exw (aN @Bj0 @Exe)
def Cx8 := aN @Exv (aN @Ajg @Exd)
def Ak3 := aN @Exs (aN @Djt (aN @Bj3 (aN @Cvt (aN @Bx1 @Exc))))
def Cx9 := aN @Exx (aN @Ajg (aN @Ayl @Exf))
def Awx := aN @Exs (aN @Cvu (aN @Exc (aN @Cvt (aN @Dy9 (aN @Ex4 @Eq4)))))
theorem Bxd (m : Md) (H : Hp) (a b x y : Int) :
  FnX Tryz.prog m 30 #[.int .i64 a, .int .i64 b, .int .i64 x, .int .i64 y] H fun e H' => e = .returned (.agg #[.int .i64 a, .int .i64 b, .int .i64 x, .int .i64 y]) /\ H.le H' := by
 refine Aql func30 rfl ntmps30 (by simp) ?_
 (refine @unH _ (zA Cx9 ?_); (try clear hK K); intro K hK hc)
 (intro rb hrb; generalize hG : Hp.set _ rb _ = H1; have lH1 := Aqc hG hrb; have vrb := Aqb hG; clear hG)
 (refine @unH _ (zU Cx9 ?_); (try clear hK K); intro K hK hc)
 (refine Axs ?_; (try simp only [nq, ↓reduceIte, Nat.reduceEqDiff]); rw [Aq8, Ax3 results30 (by decide) (b := rb) (o := 0) rfl underlying66 rfl sizeOf66]; simp -implicitDefEqProofs (disch := first | omega | (simp only [qd] <;> omega)) only [xq, ↓xp, qc, Nat.reduceAdd, List.range, List.range.loop, fine, Nat.reduceEqDiff, ↓reduceIte, yielded, reduceCtorEq, Nat.reduceLT, Nat.reduceMul, Nat.reduceSub, one, Nat.reduceLeDiff, Aqg, Cx9, Axm, List.extract_toArray])
 exact Az8 lH1 hrb
theorem Ayb (m : Md) (H : Hp) (p h : Int) (s : Bool) :
  FnX Tryz.prog m 14 #[.int .i64 p, .int .i64 h, .bool s] H fun e H' => e = .returned (.agg #[.int .i64 p, .int .i64 h, .bool s]) /\ H.le H' := by
 refine Aql func14 rfl ntmps14 (by simp) ?_
 (refine @unH _ (zA Cx7 ?_); (try clear hK K); intro K hK hc)
 (intro rb hrb; generalize hG : Hp.set _ rb _ = H1; have lH1 := Aqc hG hrb; have vrb := Aqb hG; clear hG)
 (refine @unH _ (zU Cx7 ?_); (try clear hK K); intro K hK hc)
 (refine Axs ?_; (try simp only [nq, ↓reduceIte, Nat.reduceEqDiff]); rw [Aq8, Ax3 results14 (by decide) (b := rb) (o := 0) rfl underlying46 rfl sizeOf46]; simp -implicitDefEqProofs (disch := first | omega | (simp only [qd] <;> omega)) only [xq, ↓xp, qc, Nat.reduceAdd, List.range, List.range.loop, fine, Nat.reduceEqDiff, ↓reduceIte, yielded, reduceCtorEq, Nat.reduceLT, Nat.reduceMul, Nat.reduceSub, one, Nat.reduceLeDiff, Aqg, Cx7, Axm, List.extract_toArray])
 exact Az8 lH1 hrb
theorem Bxc (m : Md) (H : Hp) (a b : Int) :
  FnX Tryz.prog m 24 #[.int .i64 a, .int .i64 b] H fun e H' => e = .returned (.agg #[.int .i64 a, .int .i64 b]) /\ H.le H' := by
 refine Aql func24 rfl ntmps24 (by simp) ?_
 (refine @unH _ (zA Cx8 ?_); (try clear hK K); intro K hK hc)
 (intro rb hrb; generalize hG : Hp.set _ rb _ = H1; have lH1 := Aqc hG hrb; have vrb := Aqb hG; clear hG)
 (refine @unH _ (zU Cx8 ?_); (try clear hK K); intro K hK hc)
 (refine Axs ?_; (try simp only [nq, ↓reduceIte, Nat.reduceEqDiff]); rw [Aq8, Ax3 results24 (by decide) (b := rb) (o := 0) rfl underlying34 rfl sizeOf34]; simp -implicitDefEqProofs (disch := first | omega | (simp only [qd] <;> omega)) only [xq, ↓xp, qc, Nat.reduceAdd, List.range, List.range.loop, fine, Nat.reduceEqDiff, ↓reduceIte, yielded, reduceCtorEq, Nat.reduceLT, Nat.reduceMul, Nat.reduceSub, one, Nat.reduceLeDiff, Aqg, Cx8, Axm, List.extract_toArray])
 exact Az8 lH1 hrb
theorem Dv6 (a b c d a' b' c' d' a2 b2 c2 d2 : Int) : Instr.fill (fun i => some (i * 4, 4)) ((Array.range (3 * 4)).map fun x => (Value.agg #[.int .i64 0, .int .i64 0, .int .i64 0, .int .i64 0]).cells[x % (Value.agg #[.int .i64 0, .int .i64 0, .int .i64 0, .int .i64 0]).cells.size]!) [(0, .agg #[.int .i64 a, .int .i64 b, .int .i64 c, .int .i64 d]), (1, .agg #[.int .i64 a', .int .i64 b', .int .i64 c', .int .i64 d']), (2, .agg #[.int .i64 a2, .int .i64 b2, .int .i64 c2, .int .i64 d2])] = some #[.int .i64 a, .int .i64 b, .int .i64 c, .int .i64 d, .int .i64 a', .int .i64 b', .int .i64 c', .int .i64 d', .int .i64 a2, .int .i64 b2, .int .i64 c2, .int .i64 d2] := by
 kernel_rfl
theorem Dv7 (a b a' b' : Int) (c c' : Bool) : Instr.fill (fun i => some (i * 3, 3)) ((Array.range (2 * 3)).map fun x => (Value.agg #[.int .i64 0, .int .i64 0, .bool false]).cells[x % (Value.agg #[.int .i64 0, .int .i64 0, .bool false]).cells.size]!) [(0, .agg #[.int .i64 a, .int .i64 b, .bool c]), (1, .agg #[.int .i64 a', .int .i64 b', .bool c'])] = some #[.int .i64 a, .int .i64 b, .bool c, .int .i64 a', .int .i64 b', .bool c'] := by
 kernel_rfl
theorem Djk {H : Hp} (a b c d a' b' c' d' a2 b2 c2 d2 : Int) (K : Value -> Hp -> Prop) (E : Value -> Hp -> Prop) :
  wpS Tryz.prog (Instr.buildSlice 23 3 #[(0, .agg #[.int .i64 a, .int .i64 b, .int .i64 c, .int .i64 d]), (1, .agg #[.int .i64 a', .int .i64 b', .int .i64 c', .int .i64 d']), (2, .agg #[.int .i64 a2, .int .i64 b2, .int .i64 c2, .int .i64 d2])]) H K E = ∀ nb, H nb = none -> K (.slice (some ⟨nb, 0, none⟩) 3 3) (H.set nb (.cells #[.int .i64 a, .int .i64 b, .int .i64 c, .int .i64 d, .int .i64 a', .int .i64 b', .int .i64 c', .int .i64 d', .int .i64 a2, .int .i64 b2, .int .i64 c2, .int .i64 d2] 66 (0, 0))) := by
 unfold Instr.buildSlice
 have hn1 : ¬ 3 * 4 > 2 ^ 24 := by decide
 have hn2 : ¬ 3 * 4 = 0 := by decide
 simp only [Aqa, Aqj underlying23, Aq0 sizeOf66, hn1, hn2, if_false, Axg zeroValue66, Aqe]
 rw [Dv6]
 simp only [newRow, newObj, Aqa, wpS, Aqe]
theorem Cvq {H : Hp} (a b a' b' : Int) (c c' : Bool) (K : Value -> Hp -> Prop) (E : Value -> Hp -> Prop) :
  wpS Tryz.prog (Instr.buildSlice 24 2 #[(0, .agg #[.int .i64 a, .int .i64 b, .bool c]), (1, .agg #[.int .i64 a', .int .i64 b', .bool c'])]) H K E = ∀ nb, H nb = none -> K (.slice (some ⟨nb, 0, none⟩) 2 2) (H.set nb (.cells #[.int .i64 a, .int .i64 b, .bool c, .int .i64 a', .int .i64 b', .bool c'] 46 (0, 0))) := by
 unfold Instr.buildSlice
 have hn1 : ¬ 2 * 3 > 2 ^ 24 := by decide
 have hn2 : ¬ 2 * 3 = 0 := by decide
 simp only [Aqa, Aqj underlying24, Aq0 sizeOf46, hn1, hn2, if_false, Axg zeroValue46, Aqe]
 rw [Dv7]
 simp only [newRow, newObj, Aqa, wpS, Aqe]
def Ajq : Sm := ⟨4, [⟨0, 1, 2, 3⟩, ⟨1, 2, 1, 1⟩, ⟨0, 3, 1, 2⟩], [0, 2], [⟨1, 4, true⟩, ⟨3, 3, false⟩]⟩
def oddS : Sm := ⟨4, [⟨0, 1, 2, 3⟩, ⟨1, 2, 1, 1⟩, ⟨0, 3, 1, 2⟩], [0, 2], [⟨2, 0, true⟩, ⟨2, 1, false⟩]⟩
theorem Bzy : ∀ d ∈ Ajq.doors, DrOk 4 d := fun d hd => by
 simp only [Ajq, List.mem_cons, List.not_mem_nil, or_false] at hd
 rcases hd with rfl | rfl | rfl <;> exact ⟨by decide, by decide, by decide, by decide, by decide, by decide, by decide, by decide⟩
theorem Avt : SmOk Ajq := ⟨by decide, by decide, by decide, Bzy, by decide, by decide, by decide, by decide, by decide, fun n hn => by
 simp only [Ajq, List.mem_cons, List.not_mem_nil, or_false] at hn
 rcases hn with rfl | rfl <;> exact ⟨by decide, by decide, by decide, by decide⟩⟩
theorem Dk3 : SmOk oddS := ⟨by decide, by decide, by decide, Bzy, by decide, by decide, by decide, by decide, by decide, fun n hn => by
 simp only [oddS, List.mem_cons, List.not_mem_nil, or_false] at hn
 rcases hn with rfl | rfl <;> exact ⟨by decide, by decide, by decide, by decide⟩⟩
theorem Aj2 (m : Md) (H : Hp) :
  FnX Tryz.prog m 29 #[] H fun e H' => ∃ dv hv nv, e = .returned (smV 4 dv hv nv) /\ SmIn H' dv hv nv Ajq /\ H.le H' := by
 refine Aql func29 rfl ntmps29 (by simp) ?_
 (refine @unH _ (zA Ak3 ?_); (try clear hK K); intro K hK hc)
 (intro rb hrb; generalize hG : Hp.set _ rb _ = H1; have lH1 := Aqc hG hrb; have vrb := Aqb hG; clear hG)
 (refine @unH _ (zU Ak3 ?_); (try clear hK K); intro K hK hc)
 refine (Bxd m H1 0 1 2 3).runs.mono ?_
 rintro _ H2 ⟨rfl, l12⟩
 have l02 := Hp.le_trans lH1 l12
 have vr2 := l12 _ _ vrb
 clear l12
 (refine @unH _ (zU Ak3 ?_); intro _ _ hc)
 refine (Bxd m H2 1 2 1 1).runs.mono ?_
 rintro _ H3 ⟨rfl, l23⟩
 have l03 := Hp.le_trans l02 l23
 have vr3 := l23 _ _ vr2
 clear l23 l02 vr2 vrb
 (refine @unH _ (zU Ak3 ?_); intro _ _ hc)
 refine (Bxd m H3 0 3 1 2).runs.mono ?_
 rintro _ H4 ⟨rfl, l34⟩
 have l04 := Hp.le_trans l03 l34
 have vr4 := l34 _ _ vr3
 clear l34 l03 vr3
 (refine @unH _ (zU (aN Ak3 @Djk) ?_); intro _ _ hc)
 (intro db hdb ib hib; replace hib : (Hp.set _ db _) ib = none := hib; generalize hG : Hp.set _ db _ = H5 at hib ⊢; have lH5 := Aqc hG hdb; have wdb := Aqb hG; clear hG; generalize hG : Hp.set _ ib _ = H6; have lH6 := Aqc hG hib; have vib := Aqb hG; have vdb := lH6 _ _ wdb; have ndbib := Aqq wdb hib; clear hG wdb)
 have l06 := Hp.le_trans l04 (Hp.le_trans lH5 lH6)
 have vr6 := lH6 _ _ (lH5 _ _ vr4)
 clear l04 vr4 hdb hib lH5 lH6
 (refine @unH _ (zU Ak3 ?_); intro _ _ hc)
 refine (Ayb m H6 1 4 true).runs.mono ?_
 rintro _ H7 ⟨rfl, l67⟩
 have l07 := Hp.le_trans l06 l67
 have vr7 := l67 _ _ vr6
 have vd7 := l67 _ _ vdb
 have vi7 := l67 _ _ vib
 clear l06 l67 vr6 vdb vib
 (refine @unH _ (zU Ak3 ?_); intro _ _ hc)
 refine (Ayb m H7 3 3 false).runs.mono ?_
 rintro _ H8 ⟨rfl, l78⟩
 have l08 := Hp.le_trans l07 l78
 have vr8 := l78 _ _ vr7
 have vd8 := l78 _ _ vd7
 have vi8 := l78 _ _ vi7
 clear l07 l78 vr7 vd7 vi7
 (refine @unH _ (zU (aN Ak3 @Cvq) ?_); intro _ _ hc)
 intro nb hnb
 have nrn := Aqq vr8 hnb
 (refine @unH _ (zU Ak3 ?_); (try clear hK K); intro K hK hc)
 generalize hG : Hp.set H8 nb _ = H9
 have l89 := Aqc hG hnb
 have vn9 := Aqb hG
 have vr9 := l89 _ _ vr8
 have vd9 := l89 _ _ vd8
 have vi9 := l89 _ _ vi8
 have l09 := Hp.le_trans l08 l89
 clear hG l89 hnb l08 vr8 vd8 vi8
 have nrd : db ≠ rb := fun e => by rw [e, vr9] at vd9; simp at vd9
 have nri : ib ≠ rb := fun e => by rw [e, vr9] at vi9; simp at vi9
 (refine @unH _ (zU Ak3 ?_); (try clear hK K); intro K hK hc)
 (refine Axs ?_; (try simp only [nq, ↓reduceIte, Nat.reduceEqDiff]); rw [Aq8, Ax3 results29 (by decide) (b := rb) (o := 0) rfl underlying26 rfl sizeOf26]; simp -implicitDefEqProofs (disch := first | omega | (simp only [qd] <;> omega)) only [xq, ↓xp, qc, Nat.reduceAdd, List.range, List.range.loop, fine, Nat.reduceEqDiff, ↓reduceIte, yielded, reduceCtorEq, Nat.reduceLT, Nat.reduceMul, Nat.reduceSub, one, Nat.reduceLeDiff, Aqg, Ak3, Axm, List.extract_toArray])
 have hD : SlD H9 (.slice (some ⟨db, 0, none⟩) 3 3) Ajq.doors := SlG.of (by decide) (rows := Ajq.doors.map Bj1) (N := 3) vd9 (fun r hr => by
  obtain ⟨d, _, rfl⟩ := List.mem_map.1 hr
  rfl) (fun j u h => by simp only [List.getElem?_toArray]; exact h) (by decide)
 have hN : SlN H9 (.slice (some ⟨nb, 0, none⟩) 2 2) Ajq.noses := SlG.of (by decide) (rows := Ajq.noses.map Bj5) (N := 2) vn9 (fun r hr => by
  obtain ⟨d, _, rfl⟩ := List.mem_map.1 hr
  rfl) (fun j u h => by simp only [List.getElem?_toArray]; exact h) (by decide)
 have hI : SlI H9 (.slice (some ⟨ib, 0, none⟩) 2 2) Ajq.hampers := ⟨_, 2, rfl, Nat.le_refl _, fun i x hx => ⟨ib, 0, true, _, _, rfl, vi9, by
  rcases i with _ | _ | i
  ·simp only [Ajq, List.getElem?_cons_zero, Option.some.injEq] at hx; subst hx; rfl
  ·simp only [Ajq, List.getElem?_cons_succ, List.getElem?_cons_zero, Option.some.injEq] at hx; subst hx; rfl
  ·simp [Ajq] at hx⟩⟩
 refine ⟨_, _, _, rfl, ⟨hD.move fun x p c fr hx => ⟨p, ?_⟩, hI.move fun x p c fr hx => ?_, hN.move fun x p c fr hx => ⟨p, ?_⟩⟩, Az8 l09 hrb⟩
 ·rw [Aqu (fun e => by rw [e, vr9] at hx; simp at hx)]; exact hx
 ·rw [Aqu (fun e => by rw [e, vr9] at hx; simp at hx)]; exact hx
 ·rw [Aqu (fun e => by rw [e, vr9] at hx; simp at hx)]; exact hx
theorem Dx3 (m : Md) (H : Hp) :
  FnX Tryz.prog m 33 #[] H fun e H' => ∃ dv hv nv, e = .returned (smV 4 dv hv nv) /\ SmIn H' dv hv nv oddS /\ H.le H' := by
 refine Aql func33 rfl ntmps33 (by simp) ?_
 (refine @unH _ (zA Awx ?_); (try clear hK K); intro K hK hc)
 (intro rb hrb; generalize hG : Hp.set _ rb _ = H1; have lH1 := Aqc hG hrb; have vrb := Aqb hG; clear hG)
 (refine @unH _ (zU Awx ?_); (try clear hK K); intro K hK hc)
 refine (Aj2 m H1).runs.mono ?_
 rintro _ H2 ⟨dv, hv, nv, rfl, hs2, l12⟩
 obtain ⟨da, dc, ha, kc, na, nc, rfl, rfl, rfl, l1, l2, l3⟩ := hs2.forms
 have l02 := Hp.le_trans lH1 l12
 have vr2 := l12 _ _ vrb
 clear l12
 (refine @unH _ (zU Awx ?_); intro _ _ hc)
 (intro ob hob; generalize hG : Hp.set _ ob _ = H3; have lH3 := Aqc hG hob; have vob := Aqb hG; clear hG)
 have nro := Aqq vr2 hob
 have hs3 := hs2.le lH3
 have l03 := Hp.le_trans l02 lH3
 have f0o := Hp.le_none l02 hob
 have vr3 := lH3 _ _ vr2
 clear l02 lH3 vr2 hs2 hob vrb lH1
 (refine @unH _ (zU Awx ?_); (try clear hK K); intro K hK hc)
 refine (Ayb m H3 2 0 true).runs.mono ?_
 rintro _ H4 ⟨rfl, l34⟩
 have l04 := Hp.le_trans l03 l34
 have vr4 := l34 _ _ vr3
 have vo4 := l34 _ _ vob
 have hs4 := hs3.le l34
 clear l03 l34 vr3 vob hs3
 (refine @unH _ (zU Awx ?_); intro _ _ hc)
 refine (Ayb m H4 2 1 false).runs.mono ?_
 rintro _ H5 ⟨rfl, l45⟩
 have l05 := Hp.le_trans l04 l45
 have vr5 := l45 _ _ vr4
 have vo5 := l45 _ _ vo4
 have hs5 := hs4.le l45
 clear l04 l45 vr4 vo4 hs4
 (refine @unH _ (zU (aN Awx @Cvq) ?_); intro _ _ hc)
 intro nb hnb
 have nrn := Aqq vr5 hnb
 have non := Aqq vo5 hnb
 (refine @unH _ (zU Awx ?_); (try clear hK K); intro K hK hc)
 generalize hG : Hp.set H5 nb _ = H6
 have l56 := Aqc hG hnb
 have vn6 := Aqb hG
 have vr6 := l56 _ _ vr5
 have vo6 := l56 _ _ vo5
 have hs6 := hs5.le l56
 have l06 := Hp.le_trans l05 l56
 clear hG l56 hnb l05 vr5 vo5 hs5
 (refine Axs ?_; (try simp only [nq, ↓reduceIte, Nat.reduceEqDiff]); rw [Aq8, Ax3 results33 (by decide) (b := rb) (o := 0) rfl underlying26 rfl sizeOf26]; simp -implicitDefEqProofs (disch := first | omega | (simp only [qd] <;> omega)) only [xq, ↓xp, qc, Nat.reduceAdd, List.range, List.range.loop, fine, Nat.reduceEqDiff, ↓reduceIte, yielded, reduceCtorEq, Nat.reduceLT, Nat.reduceMul, Nat.reduceSub, one, Nat.reduceLeDiff, Aqg, Awx, Axm, List.extract_toArray])
 have hN : SlN H6 (.slice (some ⟨nb, 0, none⟩) 2 2) oddS.noses := SlG.of (by decide) (rows := oddS.noses.map Bj5) (N := 2) vn6 (fun r hr => by
  obtain ⟨d, _, rfl⟩ := List.mem_map.1 hr
  rfl) (fun j u h => by simp only [List.getElem?_toArray]; exact h) (by decide)
 refine ⟨_, _, _, rfl, ⟨hs6.dd.move fun x p c fr hx => ⟨p, ?_⟩, hs6.hh.move fun x p c fr hx => ?_, hN.move fun x p c fr hx => ⟨p, ?_⟩⟩, Az8 (Az8 l06 f0o) hrb⟩
 ·rw [Aqu (fun e => by rw [e, vr6] at hx; simp at hx), Aqu (fun e => by rw [e, vo6] at hx; simp at hx)]; exact hx
 ·rw [Aqu (fun e => by rw [e, vr6] at hx; simp at hx), Aqu (fun e => by rw [e, vo6] at hx; simp at hx)]; exact hx
 ·rw [Aqu (fun e => by rw [e, vr6] at hx; simp at hx), Aqu (fun e => by rw [e, vo6] at hx; simp at hx)]; exact hx
end Go.Proofs.YtnfnaehonkbknaaGreatDoor
end
section
namespace Go.Proofs.YtnfnaehonkbknaaGreatDoor
open Go Go.X
theorem Dqz : reaE Ajq 2 3 = (4, 6, 0) := by kernel_rfl
theorem Dqx : Azi Ajq = 5 := by kernel_rfl
theorem Dq0 : sinE Ajq 1 = (0, 3, 0) := by kernel_rfl
theorem Dvz : begE Ajq [0] 3 = 0 := by kernel_rfl
theorem Dkp : Cy0 Ajq 0 3 = 3 := by kernel_rfl
theorem Dqw : comE Ajq 3 = (4, 9, 0) := by kernel_rfl
theorem Dq2 : wroF oddS = [0] := by kernel_rfl
theorem Dq1 : snE Ajq 2 = (1, 3, 0) := by kernel_rfl
theorem Dqy : fstE Ajq = (0, 2, [2, 1, 2], 0) := by kernel_rfl
end Go.Proofs.YtnfnaehonkbknaaGreatDoor
end
section
namespace Go.X
open Go
section
variable {P : Program} {main : Md} {lp : Option Nat} {Q : Exit -> Act -> Hp -> Prop} {S : Hp -> Prop} {ts : List Nat} {p : PV} {a : Act} {H : Hp} {l ops : List Oper} {i : Nat}
 {d : Option Tmp} {op : Op} {ty : TypeId} {pos : String} {af : Array Edge} {v : Value} {j : Nat} {b : Bool} {t : Tmp}
structure Ay9 (l ops : List Oper) : Prop where
 nth : ∀ i : Nat, ops[i]? = l[i]?
theorem Ax5 (h : ∀ ops, Ay9 l ops -> Azu P main lp ops.toArray Q S ts p a H) : Azu P main lp l.toArray Q S ts p a H := h l ⟨fun _ => rfl⟩
theorem Ay9.guard (hO : Ay9 l ops) {o oj : Oper} (hg : o.guard = some (j, b)) (hj : l[j]? = some oj) (hd : oj.dst = some t) (hv : a.tmps[t]? = some (.bool b)) : Region.wanted o (yielded ops.toArray a.tmps) = true := by
 unfold Region.wanted
 rw [hg]
 simp only [Awz, hO.nth, hj, Option.bind_some, hd, hv, Bwm, beq_self_eq_true]
theorem Cks (hO : Ay9 l ops) (ho : l[i]? = some ⟨d, op, ty, pos, af, none⟩) (hf : fine lp ⟨d, op, ty, pos, af, none⟩ = true)
  (h : ∀ H' : Hp, wpS P (execOp a.eval ⟨d, op, ty, pos, af, none⟩) H' (YN P main v H') fun _ _ => False) (hk : Azu P main lp ops.toArray Q S ts p (a.put d v) H) : Azu P main lp ops.toArray Q S ts (.free i p) a H :=
 Bq9 ((hO.nth i).trans ho) rfl hf h hk
theorem Cxf {oj : Oper} (hO : Ay9 l ops) (ho : l[i]? = some ⟨d, op, ty, pos, af, some (j, b)⟩) (hf : fine lp ⟨d, op, ty, pos, af, some (j, b)⟩ = true) (hj : l[j]? = some oj) (hd : oj.dst = some t) (hv : a.tmps[t]? = some (.bool b))
  (h : ∀ H' : Hp, wpS P (execOp a.eval ⟨d, op, ty, pos, af, some (j, b)⟩) H' (YN P main v H') fun _ _ => False) (hk : Azu P main lp ops.toArray Q S ts p (a.put d v) H) : Azu P main lp ops.toArray Q S ts (.free i p) a H :=
 Bq9 ((hO.nth i).trans ho) (hO.guard rfl hj hd hv) hf h hk
theorem Ay1 {oj : Oper} (hO : Ay9 l ops) (ho : l[i]? = some ⟨d, op, ty, pos, af, some (j, b)⟩) (hf : fine lp ⟨d, op, ty, pos, af, some (j, b)⟩ = true) (hj : l[j]? = some oj) (hd : oj.dst = some t) (hv : a.tmps[t]? = some (.bool b))
  (hS : S H) (h : ∀ H' : Hp, S H' -> wpS P (execOp a.eval ⟨d, op, ty, pos, af, some (j, b)⟩) H' (YN P main v H') fun _ _ => False) (hk : Azu P main lp ops.toArray Q S ts p (a.put d v) H) : Azu P main lp ops.toArray Q S ts (.take i p) a H :=
 Axe ((hO.nth i).trans ho) (hO.guard rfl hj hd hv) hf hS h hk
theorem Cku {oj : Oper} (hO : Ay9 l ops) (ho : l[i]? = some ⟨d, op, ty, pos, af, some (j, b)⟩) (hf : fine lp ⟨d, op, ty, pos, af, some (j, b)⟩ = true) (hj : l[j]? = some oj) (hd : oj.dst = some t) (hv : a.tmps[t]? = some (.bool b))
  (h : opX P main lp ⟨d, op, ty, pos, af, some (j, b)⟩ a H (fun a' H' => (i ∈ ts ∨ (S H -> S H')) /\ Azu P main lp ops.toArray Q S ts p a' H') Q) : Azu P main lp ops.toArray Q S ts (.one i p) a H := by
 refine Aqv ?_
 rw [Bq7]
 simp only [List.getElem?_toArray, hO.nth, ho, hO.guard (o := ⟨d, op, ty, pos, af, some (j, b)⟩) rfl hj hd hv, if_true]
 exact ⟨hf, h⟩
theorem Bku (hO : Ay9 l ops) (ho : l[i]? = some ⟨d, op, ty, pos, af, none⟩) (hf : fine lp ⟨d, op, ty, pos, af, none⟩ = true)
  (hS : S H) (h : ∀ H' : Hp, S H' -> wpS P (execOp a.eval ⟨d, op, ty, pos, af, none⟩) H' (YN P main v H') fun _ _ => False) (hk : Azu P main lp ops.toArray Q S ts p (a.put d v) H) : Azu P main lp ops.toArray Q S ts (.take i p) a H :=
 Axe ((hO.nth i).trans ho) rfl hf hS h hk
theorem Bqs (hO : Ay9 l ops) (ho : l[i]? = some ⟨d, op, ty, pos, af, none⟩) (hf : fine lp ⟨d, op, ty, pos, af, none⟩ = true)
  (h : opX P main lp ⟨d, op, ty, pos, af, none⟩ a H (fun a' H' => (i ∈ ts ∨ (S H -> S H')) /\ Azu P main lp ops.toArray Q S ts p a' H') Q) : Azu P main lp ops.toArray Q S ts (.one i p) a H := by
 refine Aqv ?_
 rw [Bq7]
 simp only [List.getElem?_toArray, hO.nth, ho, Region.wanted, if_true]
 exact ⟨hf, h⟩
theorem planZ_skip {oj : Oper} {w : Value} (hO : Ay9 l ops) (ho : l[i]? = some ⟨d, op, ty, pos, af, some (j, b)⟩) (hj : l[j]? = some oj) (hd : oj.dst = some t) (hv : a.tmps[t]? = some w) (hw : (ylK (some w) == some b) = false)
  (hk : Azu P main lp ops.toArray Q S ts p (a.put d undef) H) : Azu P main lp ops.toArray Q S ts (.free i p) a H := by
 refine ⟨_, by simpa using (hO.nth i).trans ho, undef, .inr ⟨?_, rfl⟩, hk⟩
 unfold Region.wanted
 simp only [Awz, hO.nth, hj, Option.bind_some, hd, hv, hw]
theorem Aja (h : Q .normal a H) : Azu P main lp ops.toArray Q S ts .nil a H := h
end
end Go.X
end
section
namespace Go.X
open Go
theorem Cyi {P : Program} {H : Hp} {t : TypeId} (h : P.eqGuardType P.depth t = false) (op : BinOp) (x y : Operand) (p q : Array Value) (K : Unit -> Hp -> Prop) (E : Value -> Hp -> Prop) : wpS P (eqGuard op t x y (.agg p) (.agg q)) H K E = K () H := by
 unfold eqGuard
 cases op <;> first | rfl | (simp only [Aqa, Ajy, h, Bool.not_false, if_true]; first | rfl | (simp [Aqa, Ajy, h, Aqe]; done))
theorem Cyf {P : Program} {H : Hp} {ks : TypeId} (h : Key2 P ks .i64 .i64) (a b c d : Int) (K : Value -> Hp -> Prop) (E : Value -> Hp -> Prop) :
  wpS P (binOp .eql ks (.agg #[.int .i64 a, .int .i64 b]) (.agg #[.int .i64 c, .int .i64 d])) H K E = K (.bool (a == c && b == d)) H := by
 simp only [binOp]
 rw [Aqa, Bw6 h]
 rfl
theorem sbin_neq2 {P : Program} {H : Hp} {ks : TypeId} (h : Key2 P ks .i64 .i64) (a b c d : Int) (K : Value -> Hp -> Prop) (E : Value -> Hp -> Prop) :
  wpS P (binOp .neq ks (.agg #[.int .i64 a, .int .i64 b]) (.agg #[.int .i64 c, .int .i64 d])) H K E = K (.bool !(a == c && b == d)) H := by
 simp only [binOp]
 rw [Aqa, Bw6 h]
 rfl
end Go.X
namespace Go.Proofs.YtnfnaehonkbknaaGreatDoor
open Go Go.X Go.Proofs.Tryz
def Aqp := aN @Cvu (aN @Dju (aN @Exv (aN @Exd (aN @Djo (aN @Djs (aN @Djm (aN @Djl (aN @Djv (aN @Djw (aN @Djx (aN @Djp (aN @Eq5 (aN @Djr (aN @Aza (aN @Djq @Av7)))))))))))))))
theorem Dzg : Key2 Tryz.prog 34 .i64 .i64 := ⟨⟨_, _, underlying34, by decide, by decide, rfl, rfl, ⟨_, underlying3⟩, ⟨_, underlying3⟩⟩, by kernel_rfl⟩
theorem Ck0 : Program.eqGuardType Tryz.prog (Program.depth Tryz.prog) 34 = false := by kernel_rfl
theorem Aq2 {H : Hp} (op : BinOp) (x y : Operand) (p q : Array Value) (K : Unit -> Hp -> Prop) (E : Value -> Hp -> Prop) : wpS Tryz.prog (eqGuard op 34 x y (.agg p) (.agg q)) H K E = K () H := Cyi Ck0 op x y p q K E
theorem Aq1 {H : Hp} (a b c d : Int) (K : Value -> Hp -> Prop) (E : Value -> Hp -> Prop) :
 wpS Tryz.prog (binOp .eql 34 (.agg #[.int .i64 a, .int .i64 b]) (.agg #[.int .i64 c, .int .i64 d])) H K E = K (.bool (a == c && b == d)) H := Cyf Dzg a b c d K E
theorem Bzi {H : Hp} {b n : Nat} {xs : List Int} {c : Array Value} (h : H b = some (true, .cells c 3 (0, 0))) (hc : c = (ints xs).toArray) (hn : n = xs.length := by rfl) : SlI H (.slice (some ⟨b, 0, none⟩) n n) xs := by
 subst hc hn
 refine ⟨_, _, rfl, Nat.le_refl _, fun i x hx => ⟨b, 0, true, _, _, rfl, h, ?_⟩⟩
 rw [Nat.zero_add, List.getElem?_toArray]
 exact Akg hx
theorem smelled_spec (H : Hp) : FnX Tryz.prog (.wg Tryz.prog) 13 #[] H fun e H' => e = .returned (.bool true) /\ H.le H' := by
 refine Aql (args := []) func13 rfl ntmps13 (by simp) ?_
 (refine @unH _ (zA Aqp ?_); (try clear hK K); intro K hK hc)
 refine (Aj2 _ H).runs.mono ?_
 rintro _ A1 ⟨dv1, hv1, nv1, rfl, hs1, lA1⟩
 have tA1 := lA1
 clear lA1
 (refine @unH _ (zU Aqp ?_); intro _ _ hc)
 refine (Cxo A1 Ajq _ _ _ hs1 Avt 2 3 _).runs.mono ?_
 rintro _ C1 ⟨rfl, lC1⟩
 rw [Dqz]
 clear hs1
 have tC1 := Hp.le_trans tA1 lC1
 clear lC1 tA1
 (refine @unH _ (zU Aqp ?_); intro _ _ hc)
 (intro ba hba; generalize hG : Hp.set _ ba _ = D1; have lD1 := Aqc hG hba; have vba := Aqb hG; clear hG)
 have vba_D1 := vba
 clear vba hba
 have tD1 := Hp.le_trans tC1 lD1
 clear lD1 tC1
 (refine @unH _ (zU Aqp ?_); (try clear hK K); intro K hK hc)
 refine (Aj2 _ D1).runs.mono ?_
 rintro _ A2 ⟨dv2, hv2, nv2, rfl, hs2, lA2⟩
 have vba_A2 := lA2 _ _ vba_D1
 clear vba_D1
 have tA2 := Hp.le_trans tD1 lA2
 clear lA2 tD1
 (refine @unH _ (zU Aqp ?_); intro _ _ hc)
 refine (Cxk A2 Ajq _ _ _ hs2 Avt).runs.mono ?_
 rintro _ C2 ⟨rfl, lC2⟩
 have vba_C2 := lC2 _ _ vba_A2
 clear vba_A2
 rw [Dqx]
 clear hs2
 have tC2 := Hp.le_trans tA2 lC2
 clear lC2 tA2
 (refine @unH _ (zU Aqp ?_); (try clear hK K); intro K hK hc)
 refine (Aj2 _ C2).runs.mono ?_
 rintro _ A3 ⟨dv3, hv3, nv3, rfl, hs3, lA3⟩
 have vba_A3 := lA3 _ _ vba_C2
 clear vba_C2
 have tA3 := Hp.le_trans tC2 lA3
 clear lA3 tC2
 (refine @unH _ (zU Aqp ?_); intro _ _ hc)
 refine (Cxp A3 Ajq _ _ _ hs3 Avt 1).runs.mono ?_
 rintro _ C3 ⟨rfl, lC3⟩
 have vba_C3 := lC3 _ _ vba_A3
 clear vba_A3
 rw [Dq0]
 clear hs3
 have tC3 := Hp.le_trans tA3 lC3
 clear lC3 tA3
 (refine @unH _ (zU Aqp ?_); intro _ _ hc)
 (intro bb hbb; generalize hG : Hp.set _ bb _ = D3; have lD3 := Aqc hG hbb; have vbb := Aqb hG; clear hG)
 have vba_D3 := lD3 _ _ vba_C3
 clear vba_C3
 have vbb_D3 := vbb
 clear vbb hbb
 have tD3 := Hp.le_trans tC3 lD3
 clear lD3 tC3
 (refine @unH _ (zU Aqp ?_); (try clear hK K); intro K hK hc)
 refine (Aj2 _ D3).runs.mono ?_
 rintro _ A4 ⟨dv4, hv4, nv4, rfl, hs4, lA4⟩
 have vba_A4 := lA4 _ _ vba_D3
 have vbb_A4 := lA4 _ _ vbb_D3
 clear vba_D3 vbb_D3
 have tA4 := Hp.le_trans tD3 lA4
 clear lA4 tD3
 (refine @unH _ (zU Aqp ?_); intro _ _ hc)
 refine (Bv6 A4 Ajq _ _ _ hs4 Avt 0 3).runs.mono ?_
 rintro _ C4 ⟨rfl, lC4⟩
 have vba_C4 := lC4 _ _ vba_A4
 have vbb_C4 := lC4 _ _ vbb_A4
 clear vba_A4 vbb_A4
 rw [Dkp, Dvz]
 clear hs4
 have tC4 := Hp.le_trans tA4 lC4
 clear lC4 tA4
 (refine @unH _ (zU Aqp ?_); (try clear hK K); intro K hK hc)
 refine (Aj2 _ C4).runs.mono ?_
 rintro _ A5 ⟨dv5, hv5, nv5, rfl, hs5, lA5⟩
 have vba_A5 := lA5 _ _ vba_C4
 have vbb_A5 := lA5 _ _ vbb_C4
 clear vba_C4 vbb_C4
 have tA5 := Hp.le_trans tC4 lA5
 clear lA5 tC4
 (refine @unH _ (zU Aqp ?_); intro _ _ hc)
 refine (Cxj A5 Ajq _ _ _ hs5 Avt 3).runs.mono ?_
 rintro _ C5 ⟨rfl, lC5⟩
 have vba_C5 := lC5 _ _ vba_A5
 have vbb_C5 := lC5 _ _ vbb_A5
 clear vba_A5 vbb_A5
 rw [Dqw]
 clear hs5
 have tC5 := Hp.le_trans tA5 lC5
 clear lC5 tA5
 (refine @unH _ (zU Aqp ?_); intro _ _ hc)
 (intro bc hbc; generalize hG : Hp.set _ bc _ = D5; have lD5 := Aqc hG hbc; have vbc := Aqb hG; clear hG)
 have vba_D5 := lD5 _ _ vba_C5
 have vbb_D5 := lD5 _ _ vbb_C5
 clear vba_C5 vbb_C5
 have vbc_D5 := vbc
 clear vbc hbc
 have tD5 := Hp.le_trans tC5 lD5
 clear lD5 tC5
 (refine @unH _ (zU Aqp ?_); (try clear hK K); intro K hK hc)
 refine (Dx3 _ D5).runs.mono ?_
 rintro _ A6 ⟨dv6, hv6, nv6, rfl, hs6, lA6⟩
 have vba_A6 := lA6 _ _ vba_D5
 have vbb_A6 := lA6 _ _ vbb_D5
 have vbc_A6 := lA6 _ _ vbc_D5
 clear vba_D5 vbb_D5 vbc_D5
 have tA6 := Hp.le_trans tD5 lA6
 clear lA6 tD5
 (refine @unH _ (zU Aqp ?_); intro _ _ hc)
 refine (Cxr A6 oddS _ _ _ hs6 Dk3).runs.mono ?_
 rintro _ C6 ⟨wv, rfl, hw, lC6⟩
 have vba_C6 := lC6 _ _ vba_A6
 have vbb_C6 := lC6 _ _ vbb_A6
 have vbc_C6 := lC6 _ _ vbc_A6
 clear vba_A6 vbb_A6 vbc_A6
 rw [Dq2] at hw
 have hw_C6 := hw
 clear hw
 clear hs6
 have tC6 := Hp.le_trans tA6 lC6
 clear lC6 tA6
 (refine @unH _ (zU Aqp ?_); (try clear hK K); intro K hK hc)
 refine (Aj2 _ C6).runs.mono ?_
 rintro _ A7 ⟨dv7, hv7, nv7, rfl, hs7, lA7⟩
 have vba_A7 := lA7 _ _ vba_C6
 have vbb_A7 := lA7 _ _ vbb_C6
 have vbc_A7 := lA7 _ _ vbc_C6
 have hw_A7 := hw_C6.le lA7
 clear vba_C6 vbb_C6 vbc_C6 hw_C6
 have tA7 := Hp.le_trans tC6 lA7
 clear lA7 tC6
 (refine @unH _ (zU Aqp ?_); intro _ _ hc)
 refine (Cxq A7 Ajq _ _ _ hs7 Avt 2).runs.mono ?_
 rintro _ C7 ⟨rfl, lC7⟩
 have vba_C7 := lC7 _ _ vba_A7
 have vbb_C7 := lC7 _ _ vbb_A7
 have vbc_C7 := lC7 _ _ vbc_A7
 have hw_C7 := hw_A7.le lC7
 clear vba_A7 vbb_A7 vbc_A7 hw_A7
 rw [Dq1]
 clear hs7
 have tC7 := Hp.le_trans tA7 lC7
 clear lC7 tA7
 (refine @unH _ (zU Aqp ?_); (try clear hK K); intro K hK hc)
 refine (Aj2 _ C7).runs.mono ?_
 rintro _ A8 ⟨dv8, hv8, nv8, rfl, hs8, lA8⟩
 have vba_A8 := lA8 _ _ vba_C7
 have vbb_A8 := lA8 _ _ vbb_C7
 have vbc_A8 := lA8 _ _ vbc_C7
 have hw_A8 := hw_C7.le lA8
 clear vba_C7 vbb_C7 vbc_C7 hw_C7
 have tA8 := Hp.le_trans tC7 lA8
 clear lA8 tC7
 (refine @unH _ (zU Aqp ?_); intro _ _ hc)
 refine (Cxl A8 Ajq _ _ _ hs8 Avt).runs.mono ?_
 rintro _ C8 ⟨fv, rfl, hf, lC8⟩
 have vba_C8 := lC8 _ _ vba_A8
 have vbb_C8 := lC8 _ _ vbb_A8
 have vbc_C8 := lC8 _ _ vbc_A8
 have hw_C8 := hw_A8.le lC8
 clear vba_A8 vbb_A8 vbc_A8 hw_A8
 rw [Dqy] at hf ⊢
 have hf_C8 := hf
 clear hf
 clear hs8
 have tC8 := Hp.le_trans tA8 lC8
 clear lC8 tA8
 (refine @unH _ (zU Aqp ?_); (try clear hK K); intro K hK hc)
 replace hf_C8 : SlI C8 fv [2, 1, 2] := hf_C8
 refine Bk6 (fun e => e 1 = .pointer (some ⟨ba, 0, none⟩) /\ e 2 = .int .i64 0 /\ e 3 = .int .i64 5 /\ e 4 = .int .i64 0 /\ e 5 = .pointer (some ⟨bb, 0, none⟩) /\ e 6 = .int .i64 0 /\ e 7 = .int .i64 3 /\ e 8 = .int .i64 0 /\ e 9 = .pointer (some ⟨bc, 0, none⟩) /\ e 10 = .int .i64 0 /\ e 11 = wv /\ e 12 = .int .i64 0 /\ e 13 = .int .i64 1 /\ e 14 = .int .i64 3 /\ e 15 = .int .i64 0 /\ e 16 = .int .i64 0 /\ e 17 = .int .i64 2 /\ e 18 = fv /\ e 19 = .int .i64 0) ⟨rfl, rfl, rfl, rfl, rfl, rfl, rfl, rfl, rfl, rfl, rfl, rfl, rfl, rfl, rfl, rfl, rfl, rfl, rfl⟩ ?_
 rintro e ⟨e1, e2, e3, e4, e5, e6, e7, e8, e9, e10, e11, e12, e13, e14, e15, e16, e17, e18, e19⟩
 simp only [List.append]
 refine Axn (fun HX => C8.le HX) [] (.free 0 (.free 1 (.free 2 (.free 3 (.free 4 (.free 5 (.free 6 (.free 7 (.free 8 (.free 9 (.free 10 (.free 11 (.free 12 (.free 13 (.free 14 (.free 15 (.free 16 (.free 17 (.free 18 (.free 19 (.free 20 (.free 21 (.free 22 (.free 23 (.free 24 (.free 25 (.free 26 (.free 27 (.free 28 (.free 29 (.free 30 (.take 31 (.one 32 (.free 33 (.free 34 (.free 35 (.free 36 (.free 37 (.free 38 (.free 39 (.take 40 (.one 41 (.free 42 (.free 43 (.free 44 (.free 45 (.free 46 (.free 47 (.free 48 (.take 49 (.one 50 (.free 51 (.free 52 (.free 53 (.free 54 (.free 55 (.free 56 (.free 57 (.free 58 (.free 59 (.free 60 (.free 61 (.free 62 (.free 63 (.free 64 (.free 65 (.free 66 (.free 67 (.free 68 (.free 69 (.free 70 (.one 71 (.one 72 (.free 73 (.free 74 (.free 75 (.one 76 (.one 77 (.free 78 (.free 79 .nil)))))))))))))))))))))))))))))))))))))))))))))))))))))))))))))))))))))))))))))))) (by kernel_rfl) (by kernel_rfl) (by decide) (by kernel_rfl) ?_; intro K hK
 have hS0 : C8.le C8 := Hp.le_refl _
 refine Ax5 fun ops hOz => ?_
 (refine @unH _ ?_; refine zF (aN Aqp (aN @Aq2 @Aq1)) ?_)
 (refine @unH _ ?_; refine zF (aN Aqp (aN @Aq2 @Aq1)) ?_)
 (refine @unH _ ?_; refine zF (aN Aqp (aN @Aq2 @Aq1)) ?_)
 (refine @unH _ ?_; refine zG (aN Aqp (aN @Aq2 @Aq1)) ?_)
 (refine @unH _ ?_; refine zG (aN Aqp (aN @Aq2 @Aq1)) ?_)
 (refine @unH _ ?_; refine zF (aN Aqp (aN @Aq2 @Aq1)) ?_)
 (refine @unH _ ?_; refine zF (aN Aqp (aN @Aq2 @Aq1)) ?_)
 (refine @unH _ ?_; refine zG (aN Aqp (aN @Aq2 @Aq1)) ?_)
 (refine @unH _ ?_; refine zG (aN Aqp (aN @Aq2 @Aq1)) ?_)
 (refine @unH _ ?_; refine zF (aN Aqp (aN @Aq2 @Aq1)) ?_)
 (refine @unH _ ?_; refine zF (aN Aqp (aN @Aq2 @Aq1)) ?_)
 (refine @unH _ ?_; refine zG (aN Aqp (aN @Aq2 @Aq1)) ?_)
 (refine @unH _ ?_; refine zG (aN Aqp (aN @Aq2 @Aq1)) ?_)
 (refine @unH _ ?_; refine zF (aN Aqp (aN @Aq2 @Aq1)) ?_)
 (refine @unH _ ?_; refine zF (aN Aqp (aN @Aq2 @Aq1)) ?_)
 (refine @unH _ ?_; refine zG (aN Aqp (aN @Aq2 @Aq1)) ?_)
 (refine @unH _ ?_; refine zG (aN Aqp (aN @Aq2 @Aq1)) ?_)
 (refine @unH _ ?_; refine zF (aN Aqp (aN @Aq2 @Aq1)) ?_)
 (refine @unH _ ?_; refine zF (aN Aqp (aN @Aq2 @Aq1)) ?_)
 (refine @unH _ ?_; refine zG (aN Aqp (aN @Aq2 @Aq1)) ?_)
 (refine @unH _ ?_; refine zG (aN Aqp (aN @Aq2 @Aq1)) ?_)
 (refine @unH _ ?_; refine zF (aN Aqp (aN @Aq2 @Aq1)) ?_)
 (refine @unH _ ?_; refine zF (aN Aqp (aN @Aq2 @Aq1)) ?_)
 (refine @unH _ ?_; refine zG (aN Aqp (aN @Aq2 @Aq1)) ?_)
 (refine @unH _ ?_; refine zG (aN Aqp (aN @Aq2 @Aq1)) ?_)
 (refine @unH _ ?_; refine zF (aN Aqp (aN @Aq2 @Aq1)) ?_)
 (refine @unH _ ?_; refine zF (aN Aqp (aN @Aq2 @Aq1)) ?_)
 (refine @unH _ ?_; refine zG (aN Aqp (aN @Aq2 @Aq1)) ?_)
 (refine @unH _ ?_; refine zG (aN Aqp (aN @Aq2 @Aq1)) ?_)
 (refine @unH _ ?_; refine zF (aN Aqp (aN @Aq2 @Aq1)) ?_)
 (refine @unH _ ?_; refine zF (aN Aqp (aN @Aq2 @Aq1)) ?_)
 (apply Ay1 hOz rfl rfl rfl rfl (by simp -implicitDefEqProofs (disch := omega) only [act_get?, Axh, Nat.reduceEqDiff, ↓reduceIte, beq_self_eq_true, Bool.and_self, *]) ‹_›; (focus (intro HX hHX; simp -implicitDefEqProofs (disch := first | omega | (simp only [qd] <;> omega)) only [xq, ↓xp, qc, Nat.reduceAdd, List.range, List.range.loop, fine, Nat.reduceEqDiff, ↓reduceIte, yielded, reduceCtorEq, Nat.reduceLT, Nat.reduceMul, Nat.reduceSub, one, Nat.reduceLeDiff, Aqg, Aqp, aq, ↓ap, qe0, qe1, qe2, *, -hK, Axa, hHX _ _ vba_C8, Aw6] <;> (first | exact rfl | exact ⟨rfl, rfl⟩ | exact ⟨rfl, trivial⟩))); simp -implicitDefEqProofs (disch := first | omega | (simp only [qd] <;> omega)) only [Aq3, Aqm])
 (refine @unH _ ?_; refine zN (aN Aqp (aN @Aq2 @Aq1)) ?_)
 refine (Bxc _ C8 4 6).runs.mono ?_
 rintro _ E32 ⟨rfl, lE32⟩
 have mE32 : C8.le E32 := lE32
 simp -implicitDefEqProofs (disch := omega) only [Azs, Aq3, Aqm]
 refine ⟨.inr fun _ => (by first | trivial | exact mE32 | exact lE32), ?_⟩
 (refine @unH _ ?_; refine zG (aN Aqp (aN @Aq2 @Aq1)) ?_)
 (refine @unH _ ?_; refine zF (aN Aqp (aN @Aq2 @Aq1)) ?_)
 (refine @unH _ ?_; refine zF (aN Aqp (aN @Aq2 @Aq1)) ?_)
 (refine @unH _ ?_; refine zG (aN Aqp (aN @Aq2 @Aq1)) ?_)
 (refine @unH _ ?_; refine zG (aN Aqp (aN @Aq2 @Aq1)) ?_)
 (refine @unH _ ?_; refine zF (aN Aqp (aN @Aq2 @Aq1)) ?_)
 (refine @unH _ ?_; refine zF (aN Aqp (aN @Aq2 @Aq1)) ?_)
 (apply Ay1 hOz rfl rfl rfl rfl (by simp -implicitDefEqProofs (disch := omega) only [act_get?, Axh, Nat.reduceEqDiff, ↓reduceIte, beq_self_eq_true, Bool.and_self, *]) ‹_›; (focus (intro HX hHX; simp -implicitDefEqProofs (disch := first | omega | (simp only [qd] <;> omega)) only [xq, ↓xp, qc, Nat.reduceAdd, List.range, List.range.loop, fine, Nat.reduceEqDiff, ↓reduceIte, yielded, reduceCtorEq, Nat.reduceLT, Nat.reduceMul, Nat.reduceSub, one, Nat.reduceLeDiff, Aqg, Aqp, aq, ↓ap, qe0, qe1, qe2, *, -hK, Axa, hHX _ _ vbb_C8, Aw6] <;> (first | exact rfl | exact ⟨rfl, rfl⟩ | exact ⟨rfl, trivial⟩))); simp -implicitDefEqProofs (disch := first | omega | (simp only [qd] <;> omega)) only [Aq3, Aqm])
 (refine @unH _ ?_; refine zN (aN Aqp (aN @Aq2 @Aq1)) ?_)
 refine (Bxc _ E32 0 3).runs.mono ?_
 rintro _ E41 ⟨rfl, lE41⟩
 have mE41 : C8.le E41 := Hp.le_trans mE32 lE41
 simp -implicitDefEqProofs (disch := omega) only [Azs, Aq3, Aqm]
 refine ⟨.inr fun _ => (by first | trivial | exact mE41 | exact lE41), ?_⟩
 (refine @unH _ ?_; refine zG (aN Aqp (aN @Aq2 @Aq1)) ?_)
 (refine @unH _ ?_; refine zF (aN Aqp (aN @Aq2 @Aq1)) ?_)
 (refine @unH _ ?_; refine zF (aN Aqp (aN @Aq2 @Aq1)) ?_)
 (refine @unH _ ?_; refine zG (aN Aqp (aN @Aq2 @Aq1)) ?_)
 (refine @unH _ ?_; refine zG (aN Aqp (aN @Aq2 @Aq1)) ?_)
 (refine @unH _ ?_; refine zF (aN Aqp (aN @Aq2 @Aq1)) ?_)
 (refine @unH _ ?_; refine zF (aN Aqp (aN @Aq2 @Aq1)) ?_)
 (apply Ay1 hOz rfl rfl rfl rfl (by simp -implicitDefEqProofs (disch := omega) only [act_get?, Axh, Nat.reduceEqDiff, ↓reduceIte, beq_self_eq_true, Bool.and_self, *]) ‹_›; (focus (intro HX hHX; simp -implicitDefEqProofs (disch := first | omega | (simp only [qd] <;> omega)) only [xq, ↓xp, qc, Nat.reduceAdd, List.range, List.range.loop, fine, Nat.reduceEqDiff, ↓reduceIte, yielded, reduceCtorEq, Nat.reduceLT, Nat.reduceMul, Nat.reduceSub, one, Nat.reduceLeDiff, Aqg, Aqp, aq, ↓ap, qe0, qe1, qe2, *, -hK, Axa, hHX _ _ vbc_C8, Aw6] <;> (first | exact rfl | exact ⟨rfl, rfl⟩ | exact ⟨rfl, trivial⟩))); simp -implicitDefEqProofs (disch := first | omega | (simp only [qd] <;> omega)) only [Aq3, Aqm])
 (refine @unH _ ?_; refine zN (aN Aqp (aN @Aq2 @Aq1)) ?_)
 refine (Bxc _ E41 4 9).runs.mono ?_
 rintro _ E50 ⟨rfl, lE50⟩
 have mE50 : C8.le E50 := Hp.le_trans mE41 lE50
 simp -implicitDefEqProofs (disch := omega) only [Azs, Aq3, Aqm]
 refine ⟨.inr fun _ => (by first | trivial | exact mE50 | exact lE50), ?_⟩
 (refine @unH _ ?_; refine zG (aN Aqp (aN @Aq2 @Aq1)) ?_)
 (refine @unH _ ?_; refine zF (aN Aqp (aN @Aq2 @Aq1)) ?_)
 (refine @unH _ ?_; refine zF (aN Aqp (aN @Aq2 @Aq1)) ?_)
 (refine @unH _ ?_; refine zG (aN Aqp (aN @Aq2 @Aq1)) ?_)
 (refine @unH _ ?_; refine zG (aN Aqp (aN @Aq2 @Aq1)) ?_)
 (refine @unH _ ?_; refine zF (aN Aqp (aN @Aq2 @Aq1)) ?_)
 (refine @unH _ ?_; refine zF (aN Aqp (aN @Aq2 @Aq1)) ?_)
 (refine @unH _ ?_; refine zG (aN Aqp (aN @Aq2 @Aq1)) ?_)
 (refine @unH _ ?_; refine zG (aN Aqp (aN @Aq2 @Aq1)) ?_)
 (refine @unH _ ?_; refine zF (aN Aqp (aN @Aq2 @Aq1)) ?_)
 (refine @unH _ ?_; refine zF (aN Aqp (aN @Aq2 @Aq1)) ?_)
 (refine @unH _ ?_; refine zG (aN Aqp (aN @Aq2 @Aq1)) ?_)
 (refine @unH _ ?_; refine zG (aN Aqp (aN @Aq2 @Aq1)) ?_)
 (refine @unH _ ?_; refine zF (aN Aqp (aN @Aq2 @Aq1)) ?_)
 (refine @unH _ ?_; refine zF (aN Aqp (aN @Aq2 @Aq1)) ?_)
 (refine @unH _ ?_; refine zG (aN Aqp (aN @Aq2 @Aq1)) ?_)
 (refine @unH _ ?_; refine zG (aN Aqp (aN @Aq2 @Aq1)) ?_)
 (refine @unH _ ?_; refine zF (aN Aqp (aN @Aq2 @Aq1)) ?_)
 (refine @unH _ ?_; refine zF (aN Aqp (aN @Aq2 @Aq1)) ?_)
 (refine @unH _ ?_; refine zG (aN Aqp (aN @Aq2 @Aq1)) ?_)
 (refine @unH _ ?_; refine zN (aN Aqp (aN @Aq2 @Aq1)) ?_)
 intro g71 hg71
 generalize hG : Hp.set E50 g71 _ = E71
 have lE71 := Aqc hG hg71
 have vg71 := Aqb hG
 clear hG
 have mE71 : C8.le E71 := Hp.le_trans mE50 lE71
 refine ⟨.inr fun _ => mE71, ?_⟩
 have sl71 : SlI E71 (.slice (some ⟨g71, 0, none⟩) 1 1) [0] := Bzi (xs := [0]) vg71 rfl
 have sw71 : SlI E71 wv [0] := SlI.le hw_C8 mE71
 clear hg71 vg71
 (refine @unH _ ?_; refine zN (aN Aqp (aN @Aq2 @Aq1)) ?_)
 refine (Bql _ E71 wv _ [0] [0] sw71 sl71 (by decide) (by decide)).runs.mono ?_
 rintro _ HQ ⟨rfl, hHQ⟩
 rw [hHQ]
 clear hHQ HQ
 rw [decide_eq_true rfl]
 clear sl71 sw71
 simp -implicitDefEqProofs (disch := omega) only [Azs, Aq3, Aqm]
 refine ⟨.inr fun _ => mE71, ?_⟩
 (refine @unH _ ?_; refine zF (aN Aqp (aN @Aq2 @Aq1)) ?_)
 (refine @unH _ ?_; refine zF (aN Aqp (aN @Aq2 @Aq1)) ?_)
 (refine @unH _ ?_; refine zG (aN Aqp (aN @Aq2 @Aq1)) ?_)
 (refine @unH _ ?_; refine zN (aN Aqp (aN @Aq2 @Aq1)) ?_)
 intro g76 hg76
 generalize hG : Hp.set E71 g76 _ = E76
 have lE76 := Aqc hG hg76
 have vg76 := Aqb hG
 clear hG
 have mE76 : C8.le E76 := Hp.le_trans mE71 lE76
 refine ⟨.inr fun _ => mE76, ?_⟩
 have sl76 : SlI E76 (.slice (some ⟨g76, 0, none⟩) 3 3) [2, 1, 2] := Bzi (xs := [2, 1, 2]) vg76 rfl
 have sw76 : SlI E76 fv [2, 1, 2] := SlI.le hf_C8 mE76
 clear hg76 vg76
 (refine @unH _ ?_; refine zN (aN Aqp (aN @Aq2 @Aq1)) ?_)
 refine (Bql _ E76 fv _ [2, 1, 2] [2, 1, 2] sw76 sl76 (by decide) (by decide)).runs.mono ?_
 rintro _ HQ ⟨rfl, hHQ⟩
 rw [hHQ]
 clear hHQ HQ
 rw [decide_eq_true rfl]
 clear sl76 sw76
 simp -implicitDefEqProofs (disch := omega) only [Azs, Aq3, Aqm]
 refine ⟨.inr fun _ => mE76, ?_⟩
 (refine @unH _ ?_; refine zF (aN Aqp (aN @Aq2 @Aq1)) ?_)
 (refine @unH _ ?_; refine zF (aN Aqp (aN @Aq2 @Aq1)) ?_)
 refine Axr (hK _ _ ?_)
 clear hK K
 (try refine @unH _ (zQ ?_))
 (refine @unH _ ?_; refine z9 results13 ?_)
 exact ⟨by trivial, Hp.le_trans tC8 mE76⟩
end Go.Proofs.YtnfnaehonkbknaaGreatDoor
end
