/- Texts LSOwn PSmellOwn SSmellOwn. -/
import Derived.Test.YtkcomnkgdifboaaGreatDoorJ25
import Derived.Test.YtkcomnkgdifboaaGreatDoorAFactA
import Derived.Test.YtkcomnkgdifboaaGreatDoorAFactSB
import Derived.Test.YtkcomnkgdifboaaGreatDoorAFactSC
set_option linter.defProp false
set_option linter.unusedSimpArgs false
set_option linter.unusedVariables false
set_option maxRecDepth 100000
set_option maxHeartbeats 2000000
section
namespace Go.Proofs.YtkcomnkgdifboaaGreatDoor
open Go Go.X
def y8_153 := And.intro @callF9 (And.intro @callF10 (And.intro (fun H => Aqv (H := H) (P := Tryz.prog) (h := Tryz.zeroValue28)) (And.intro (fun H => Aqs (H := H) Tryz.sizeOf28) (And.intro (fun H => Aqd (H := H) Tryz.underlying28 (i := 3) rfl (off := 3) rfl Tryz.sizeOf26) (And.intro (fun H => Azu (H := H) Tryz.sizeOf26) (And.intro (fun H => Aqd (H := H) Tryz.underlying28 (i := 0) rfl (off := 0) rfl Tryz.sizeOf3) (And.intro (fun H => Aqg (H := H) Tryz.underlying3 rfl) (And.intro @Azb (And.intro (fun H => Aqd (H := H) Tryz.underlying28 (i := 2) rfl (off := 2) rfl Tryz.sizeOf22) (And.intro (fun H => Aqg (H := H) Tryz.underlying22 rfl) (And.intro (fun H => Aq6 (H := H) Tryz.underlying22) (And.intro @Ay5 (And.intro (fun H => Bwc (H := H) Tryz.underlying22 Tryz.sizeOf3) (And.intro (fun H => Bwd (H := H) Tryz.underlying22 Tryz.sizeOf3) (And.intro (fun H => Bxn (H := H) Tryz.underlying22 Tryz.sizeOf3) (And.intro (fun H => Azu (H := H) Tryz.sizeOf22) (And.intro (fun H => Axc (H := H) Tryz.sizeOf3) (And.intro @Bxe (And.intro @Cv1 (And.intro (fun H => Awm (H := H) Tryz.underlying26 Tryz.sizeOf49 Tryz.zeroValue49 rfl (by decide) (by decide)) (And.intro (fun H => Aqp (H := H) Tryz.underlying28 rfl Tryz.sizeOf28) (And.intro @callF26 (And.intro @Djs (And.intro (fun H => Aqv (H := H) (P := Tryz.prog) (h := Tryz.zeroValue33)) (And.intro (fun H => Aqs (H := H) Tryz.sizeOf33) (And.intro @Djp (And.intro @Djw (And.intro (fun H => Aqp (H := H) Tryz.underlying33 rfl Tryz.sizeOf33) (And.intro @Djx (And.intro @Djr (And.intro @Djv (And.intro @callF25 @callF14))))))))))))))))))))))))))))))))
theorem lsown_spec (H : Hp) (sa : Option Addr) (sl sc : Nat) (hs : ∀ i : Nat, i < sl -> ∃ sb so c e fr x, sa = some ⟨sb, so, none⟩ /\ H sb = some (false, .cells c e fr) /\ c[so + i]? = some (.int .i64 x)) :
  FnX Tryz.prog (.wg Tryz.prog) 8 #[.slice sa sl sc] H fun e _ => e = .returned (.bool true) := by
 refine Aqm Tryz.func8 rfl Tryz.ntmps8 (by simp) ?_
 (refine @unH _ ?_; refine zA y8_153 ?_; (repeat (refine inC ?_; intro hc)); try (refine inK ?_; intro K hK))
 refine (newTin_spec _ H sa sl sc hs 240 (by omega)).runs.mono ?_
 rintro _ H1 ⟨tb, rfl, l1, hT⟩
 ((try (refine @unH _ ?_; refine zX y8_153 ?_)); (try (refine hK _ _ ?_; clear hK K; (try simp only [nq, ↓reduceIte, Nat.reduceEqDiff]))); refine @unH _ ?_; refine zA y8_153 ?_; (repeat (refine inC ?_; intro hc)); try (refine inK ?_; intro K hK))
 refine (smellOf_spec _ H1 tb 180 4 true (by omega) (by omega) hT).runs.mono ?_
 rintro _ H2 ⟨s, dv, hv, nv, cv, i, hr, ts, rfl, hs2, ok, hp5, hdl, hnl, hil, hr12, htk, hcv, htr, lex2, hT2⟩
 clear hT hs l1 lex2
 obtain ⟨da, dc, ha, kc, na, nc, rfl, rfl, rfl, l1, l2, l3⟩ := hs2.forms
 ((try (refine @unH _ ?_; refine zX y8_153 ?_)); (try (refine hK _ _ ?_; clear hK K; (try simp only [nq, ↓reduceIte, Nat.reduceEqDiff]))); refine @unH _ ?_; refine zA y8_153 ?_; (repeat (refine inC ?_; intro hc)); try (refine inK ?_; intro K hK))
 (intro sb hsb; generalize hG : Hp.set _ sb _ = H3; have lH3 := Aqc hG hsb; have vsb := Aqb hG; clear hG)
 have hs3 := hs2.le lH3
 have hT3 := hT2.le lH3
 have hsn := hT2.ne hsb
 clear hs2 lH3 hsb hT2 hcv htk hdl htr
 ((try (refine @unH _ ?_; refine zX y8_153 ?_)); (try (refine hK _ _ ?_; clear hK K; (try simp only [nq, ↓reduceIte, Nat.reduceEqDiff]))); refine @unH _ ?_; refine zA y8_153 ?_; (repeat (refine inC ?_; intro hc)); try (refine inK ?_; intro K hK))
 generalize hG : Hp.set H3 sb _ = H4
 have vsb4 := Aqb hG
 have hs4 : SmIn H4 _ _ _ s := hG ▸ hs3.put vsb _
 have hT4 : TinI H4 tb 180 := hG ▸ hT3.own vsb (Ne.symm hsn)
 clear hG vsb hs3 hT3
 have hh1 := ok.h1
 have hp0 := ok.p0
 obtain ⟨hb, ho, hcap, hp, hc, hfr, hvf, hcl, hhb, hcell⟩ := hs4.hh.cons (fun e => by have := ok.h0; rw [e] at this; exact absurd this (by simp))
 cases hvf
 obtain ⟨k, hk, hk2, hk3⟩ : ∃ k : Nat, (if (2 : Int) < s.hampers.length then (2 : Int) else s.hampers.length) = (k : Nat) /\ k <= 2 /\ s.hampers.take k = s.hampers.take 2 := ⟨min s.hampers.length 2, by split <;> omega, by omega, by rw [List.take_eq_take_iff]; omega⟩
 refine Axn (fun HX => HX sb = some (true, smO s.places (.slice da s.doors.length dc) (.slice (some ⟨hb, ho, none⟩) s.hampers.length kc) (.slice none 0 0))) [12] (.free 0 (.take 1 (.free 3 (.take 4 (.free 5 (.take 6 (.free 7 (.free 8 (.free 9 (.one 2 (.one 10 (.free 11 (.one 12 .nil))))))))))))) (by kernel_rfl) (by kernel_rfl) (by decide) (by kernel_rfl) ?_; intro K hK
 refine Ax9 fun ops hOz => ?_
 (refine @unH _ ?_; refine zF y8_153 ?_)
 (apply Bk0 hOz rfl rfl ‹_›; (focus (intro HX hHX; simp -implicitDefEqProofs (disch := first | omega | (simp only [qd] <;> omega)) only [xq, ↓xp, qc, Nat.reduceAdd, List.range, List.range.loop, fine, Nat.reduceEqDiff, ↓reduceIte, yielded, reduceCtorEq, Nat.reduceLT, Nat.reduceMul, Nat.reduceSub, one, Nat.reduceLeDiff, Aqj, y8_153, aq, ↓ap, qe0, qe1, qe2, *, -hK, Aq8, hHX, exists_eq_left'] <;> (first | exact rfl | exact ⟨rfl, rfl⟩ | exact ⟨rfl, trivial⟩))); simp -implicitDefEqProofs (disch := first | omega | (simp only [qd] <;> omega)) only [Aq3, Aqn])
 (refine @unH _ ?_; refine zF y8_153 ?_)
 (apply Bk0 hOz rfl rfl ‹_›; (focus (intro HX hHX; simp -implicitDefEqProofs (disch := first | omega | (simp only [qd] <;> omega)) only [xq, ↓xp, qc, Nat.reduceAdd, List.range, List.range.loop, fine, Nat.reduceEqDiff, ↓reduceIte, yielded, reduceCtorEq, Nat.reduceLT, Nat.reduceMul, Nat.reduceSub, one, Nat.reduceLeDiff, Aqj, y8_153, aq, ↓ap, qe0, qe1, qe2, *, -hK, Aq8, hHX, exists_eq_left'] <;> (first | exact rfl | exact ⟨rfl, rfl⟩ | exact ⟨rfl, trivial⟩))); simp -implicitDefEqProofs (disch := first | omega | (simp only [qd] <;> omega)) only [Aq3, Aqn])
 (refine @unH _ ?_; refine zF y8_153 ?_)
 (apply Bk0 hOz rfl rfl ‹_›; (focus (intro HX hHX; simp -implicitDefEqProofs (disch := first | omega | (simp only [qd] <;> omega)) only [xq, ↓xp, qc, Nat.reduceAdd, List.range, List.range.loop, fine, Nat.reduceEqDiff, ↓reduceIte, yielded, reduceCtorEq, Nat.reduceLT, Nat.reduceMul, Nat.reduceSub, one, Nat.reduceLeDiff, Aqj, y8_153, aq, ↓ap, qe0, qe1, qe2, *, -hK, Aq8, hHX, exists_eq_left'] <;> (first | exact rfl | exact ⟨rfl, rfl⟩ | exact ⟨rfl, trivial⟩))); simp -implicitDefEqProofs (disch := first | omega | (simp only [qd] <;> omega)) only [Aq3, Aqn])
 (iterate 2 (refine @unH _ ?_; refine zF y8_153 ?_))
 have hkl : k <= s.hampers.length := by split at hk <;> omega
 clear hk
 (refine @unH _ ?_; refine zF y8_153 ?_)
 (refine @unH _ ?_; refine zM y8_153 ?_)
 intro b0 hb0
 generalize hG : Hp.set H4 b0 _ = H5
 have l45 := Aqc hG hb0
 have vb5 := Aqb hG
 have hrow : Aki H4 H5 (.slice (some ⟨b0, 0, none⟩) 1 1) 3 1 1 (ints [s.places]) := .inr ⟨b0, _, 1, hb0, hG.symm, rfl, rfl, rfl, Nat.le_refl _, fun i u hi => by simpa [ints] using hi⟩
 clear hG
 have vsb5 := l45 _ _ vsb4
 refine ⟨.inr fun _ => (by rw [if_neg (Aqr vsb4 hb0)]), ?_⟩
 (refine @unH _ ?_; refine zM y8_153 ?_)
 refine Bzt hrow (Hp.le_refl _) (ys := s.hampers.take k) (by rw [List.length_take]; omega) (fun h => absurd h (by rw [hhb]; simp)) (fun j y hj => ?_) (by omega) _ _ _ _ (fun v' H6 H7 hr hl2 => ?_)
 ·rw [cell_of (l45 _ _ hhb)]
  rw [List.getElem?_take] at hj
  split at hj
  ·exact hcell j y hj
  ·cases hj
 have hv7 : SlI H7 v' (s.places :: s.hampers.take 2) := hk3 ▸ SlI.le (SlI.row hr) hl2
 have l47 := Hp.le_trans hr.le hl2
 have vsb7 := l47 _ _ vsb4
 have hd7 := (hs4.le l47).dd
 have hT7 := hT4.le l47
 obtain ⟨va, hn, vc, rfl, hv7⟩ : ∃ va hn vc, v' = .slice va hn vc /\ SlI H7 (.slice va hn vc) (s.places :: s.hampers.take 2) := by
  obtain ⟨va, hn, vc, rfl⟩ := hv7.isSlice
  exact ⟨va, hn, vc, rfl, hv7⟩
 clear hr hl2 hrow vb5 vsb5 l45 vsb4 hs4 hT4 hhb hcell hcl l47 hk2 hk3 hkl
 replace hv7 : Aqk _ := hv7
 replace hd7 : Aqk _ := hd7
 (refine @unH _ ?_; refine zX y8_153 ?_)
 refine ⟨.inr fun _ => trivial, ?_⟩
 (refine @unH _ ?_; refine zF y8_153 ?_)
 (refine @unH _ ?_; refine zM y8_153 ?_)
 refine ⟨.inl (by decide), ?_⟩
 (refine Ajh (hK _ _ ?_); clear hK K; (try simp only [nq, ↓reduceIte, Nat.reduceEqDiff]))
 refine Bvb (fun e => e 3 = .pointer (some ⟨tb, 0, none⟩) /\ e 4 = .pointer (some ⟨sb, 0, none⟩)) ⟨rfl, rfl⟩ ?_
 clear hOz hb0
 rintro e ⟨e3, e4⟩
 (refine @unH _ ?_; refine zA y8_153 ?_; (repeat (refine inC ?_; intro hc)); try (refine inK ?_; intro K hK))
 generalize hG : Hp.set H7 sb _ = H8
 have vsb8 := Aqb hG
 have hd8 : SlD H8 _ s.doors := hG ▸ SlG.put hd7 vsb7 (by decide) _
 have hv8 : SlI H8 _ (s.places :: s.hampers.take 2) := hG ▸ SlI.put hv7 vsb7 (by decide) _
 have hT8 : TinI H8 tb 180 := hG ▸ hT7.own vsb7 (Ne.symm hsn)
 clear hG vsb7 hd7 hv7 hT7
 refine (Bke _ H8 tb 179 12 (by omega) hT8).runs.mono ?_
 rintro _ H9 ⟨h, h0, h12, rfl, x9, hT9⟩
 have vsb9 := x9.keeps vsb8 hsn
 have hd9 : SlD H9 _ s.doors := SlG.lexT hd8 hT8 (by decide) x9
 have hv9 := hv8.lex x9 hT8
 clear vsb8 hd8 hv8 hT8 x9 hT9
 replace hv9 : Aqk _ := hv9
 replace hd9 : Aqk _ := hd9
 ((try (refine @unH _ ?_; refine zX y8_153 ?_)); (try (refine hK _ _ ?_; clear hK K; (try simp only [nq, ↓reduceIte, Nat.reduceEqDiff]))); refine @unH _ ?_; refine zA y8_153 ?_; (repeat (refine inC ?_; intro hc)); try (refine inK ?_; intro K hK))
 rw [show s.places + 1 - 1 = s.places by omega]
 refine (Ayg _ H9 s.places h true).runs.mono ?_
 rintro _ H10 ⟨rfl, l10⟩
 have vsb10 := l10 _ _ vsb9
 ((try (refine @unH _ ?_; refine zX y8_153 ?_)); (try (refine hK _ _ ?_; clear hK K; (try simp only [nq, ↓reduceIte, Nat.reduceEqDiff]))); refine @unH _ ?_; refine zA y8_153 ?_; (repeat (refine inC ?_; intro hc)); try (refine inK ?_; intro K hK))
 intro nb hnb
 rw [if_neg (Aqr vsb10 hnb)]
 generalize hG : Hp.set H10 nb _ = H11
 have l11 := Aqc hG hnb
 have vnb := Aqb hG
 clear hG hnb
 have vsb11 := l11 _ _ vsb10
 have hd11 : SlD H11 _ s.doors := SlG.le hd9 (Hp.le_trans l10 l11)
 have hv11 := SlI.le hv9 (Hp.le_trans l10 l11)
 have hn11 := slG_one (sz := 3) rfl vnb
 clear l10 l11 vsb10 vsb9 hv9 hd9 vnb
 replace hv11 : Aqk _ := hv11
 replace hd11 : Aqk _ := hd11
 replace hn11 : Aqk _ := hn11
 (refine @unH _ ?_; refine zX y8_153 ?_)
 refine hK _ _ ?_
 clear hK K
 generalize hG : Hp.set H11 sb _ = H12
 have vsb12 := Aqb hG
 have hs12 : SmIn H12 (.slice da s.doors.length dc) (.slice va hn vc) (.slice (some ⟨nb, 0, none⟩) 1 1) (ownS s h) := ⟨hG ▸ SlG.put hd11 vsb11 (by decide) _, hG ▸ SlI.put hv11 vsb11 (by decide) _, hG ▸ SlG.put hn11 vsb11 (by decide) _⟩
 clear hG vsb11 hd11 hv11 hn11 hv7 hsn
 have hh12 : h <= 12 := by omega
 have okO := ownS_ok ok hp5 h0 hh12
 have hns : Azn (ownS s h) ≠ 0 := fun e => by have := own_count ok hp5 h0 hh12; rw [e] at this; omega
 have hsus := own_suspects ok hp5 h0 hh12
 have hsin := own_since ok hp5 h0 hh12
 have hcnt := own_count ok hp5 h0 hh12
 have hvd := fun p p0 p1 => own_verd (p := p) ok hp5 h0 hh12 p0 p1
 have hcm := fun p p0 p1 => own_comes (p := p) ok hp5 h0 hh12 p0 p1
 have hsf := fun p p0 p1 => own_safe (p := p) ok hp5 h0 hh12 p0 p1
 have hSus := sSuspects_spec H12 (ownS s h) _ _ _ hs12 okO
 rw [if_neg hns, if_neg hns, hsus] at hSus
 have hSin := fun H (l : H12.le H) => Cxs H (ownS s h) _ _ _ (hs12.le l) okO 0
 have hCnt := fun H (l : H12.le H) => Cxo H (ownS s h) _ _ _ (hs12.le l) okO
 rw [hsin] at hSin
 rw [hcnt] at hCnt
 have hVer := fun H (l : H12.le H) p => Bwa H (ownS s h) _ _ _ (hs12.le l) okO p 12
 have hCom := fun H (l : H12.le H) p => Cxn H (ownS s h) _ _ _ (hs12.le l) okO p
 have hSaf := fun H (l : H12.le H) p => sSafe_spec H (ownS s h) _ _ _ (hs12.le l) okO p
 clear hs12 okO hns hsus hsin hcnt
 replace hSus : Aqk _ := hSus
 replace hSin : Aqk _ := hSin
 replace hCnt : Aqk _ := hCnt
 replace hVer : Aqk _ := hVer
 replace hCom : Aqk _ := hCom
 replace hSaf : Aqk _ := hSaf
 replace hvd : Aqk _ := hvd
 replace hcm : Aqk _ := hcm
 replace hsf : Aqk _ := hsf
 (try simp only [nq, ↓reduceIte, Nat.reduceEqDiff])
 refine Bvb (fun e => e 4 = .pointer (some ⟨sb, 0, none⟩) /\ e 8 = .int .i64 h) ⟨e4, rfl⟩ ?_
 clear e3 e4 e
 rintro e ⟨e4, e8⟩
 (refine @unH _ ?_; refine zA y8_153 ?_; (repeat (refine inC ?_; intro hc)); try (refine inK ?_; intro K hK))
 refine (show FnX _ _ _ _ _ _ from hSus).runs.mono ?_
 rintro _ H13 ⟨lv, rfl, hlv, l13⟩
 have vsb13 := l13 _ _ vsb12
 replace hlv : Aqk _ := hlv
 ((try (refine @unH _ ?_; refine zX y8_153 ?_)); (try (refine hK _ _ ?_; clear hK K; (try simp only [nq, ↓reduceIte, Nat.reduceEqDiff]))); refine @unH _ ?_; refine zA y8_153 ?_; (repeat (refine inC ?_; intro hc)); try (refine inK ?_; intro K hK))
 refine ((show ∀ H, _ -> _ from hSin) H13 l13).runs.mono ?_
 rintro _ H14 ⟨rfl, l14⟩
 ((try (refine @unH _ ?_; refine zX y8_153 ?_)); (try (refine hK _ _ ?_; clear hK K; (try simp only [nq, ↓reduceIte, Nat.reduceEqDiff]))); refine @unH _ ?_; refine zA y8_153 ?_; (repeat (refine inC ?_; intro hc)); try (refine inK ?_; intro K hK))
 (intro bb hbb; generalize hG : Hp.set _ bb _ = H15; have lH15 := Aqc hG hbb; have vbb := Aqb hG; clear hG)
 have l15 := Hp.le_trans (Hp.le_trans l13 l14) lH15
 have vsb15 := l15 _ _ vsb12
 have hlv15 : SlI H15 lv [0] := SlI.le hlv (Hp.le_trans l14 lH15)
 clear vsb13 l13 l14 lH15 hlv hbb hSus hSin
 replace hlv15 : Aqk _ := hlv15
 ((try (refine @unH _ ?_; refine zX y8_153 ?_)); (try (refine hK _ _ ?_; clear hK K; (try simp only [nq, ↓reduceIte, Nat.reduceEqDiff]))); refine @unH _ ?_; refine zA y8_153 ?_; (repeat (refine inC ?_; intro hc)); try (refine inK ?_; intro K hK))
 refine ((show ∀ H, _ -> _ from hCnt) H15 l15).runs.mono ?_
 rintro _ H16 ⟨rfl, l16⟩
 have l26 := Hp.le_trans l15 l16
 have vbb16 := l16 _ _ vbb
 have hlv16 : SlI H16 lv [0] := SlI.le hlv15 l16
 clear vsb15 l15 l16 hlv15 vbb hCnt
 replace hlv16 : Aqk _ := hlv16
 ((try (refine @unH _ ?_; refine zX y8_153 ?_)); (try (refine hK _ _ ?_; clear hK K; (try simp only [nq, ↓reduceIte, Nat.reduceEqDiff]))); refine @unH _ ?_; refine zA y8_153 ?_; (repeat (refine inC ?_; intro hc)); try (refine inK ?_; intro K hK))
 refine Bvb (fun e => e 4 = .pointer (some ⟨sb, 0, none⟩) /\ e 8 = .int .i64 h /\ e 9 = lv /\ e 10 = .int .i64 0 /\ e 11 = .pointer (some ⟨bb, 0, none⟩) /\ e 12 = .int .i64 0 /\ e 13 = .int .i64 (h + 1) /\ e 14 = .int .i64 0) ⟨e4, e8, rfl, rfl, rfl, rfl, rfl, rfl⟩ ?_
 clear e4 e8 e
 rintro e ⟨e4, e8, e9, e10, e11, e12, e13, e14⟩
 refine Axn (fun HX => HX bb = some (true, .cells #[.int .i64 0, .int .i64 h] 33 (0, 0))) [] (.free 0 (.free 1 (.free 2 (.free 3 (.free 4 (.free 5 (.free 6 (.free 7 (.free 8 (.free 9 (.free 10 (.free 11 (.one 12 (.one 13 (.free 14 (.free 15 (.free 16 (.take 17 (.free 18 (.one 19 (.free 20 (.free 21 (.free 22 (.free 23 (.free 24 (.free 25 (.free 26 (.free 27 .nil)))))))))))))))))))))))))))) (by kernel_rfl) (by kernel_rfl) (by decide) (by kernel_rfl) ?_; intro K hK
 refine Ax9 fun ops hOz => ?_
 (iterate 3 (refine @unH _ ?_; refine zF y8_153 ?_))
 (refine @unH _ ?_; refine zG y8_153 ?_)
 (refine @unH _ ?_; refine zG y8_153 ?_)
 (iterate 2 (refine @unH _ ?_; refine zF y8_153 ?_))
 (refine @unH _ ?_; refine zG y8_153 ?_)
 (refine @unH _ ?_; refine zG y8_153 ?_)
 (iterate 2 (refine @unH _ ?_; refine zF y8_153 ?_))
 (refine @unH _ ?_; refine zG y8_153 ?_)
 (refine @unH _ ?_; refine zN y8_153 ?_)
 intro gb hgb
 generalize hG : Hp.set H16 gb _ = H17
 have hgl : SlI H17 (.slice (some ⟨gb, 0, none⟩) 1 1) [0] := hG ▸ SlI.lit [0] rfl rfl
 have l17 := Aqc hG hgb
 clear hG
 have vbb17 := l17 _ _ vbb16
 refine ⟨.inr fun _ => (by rw [if_neg (Aqr vbb16 hgb)]), ?_⟩
 have hLik := Bqx (.wg Tryz.prog) H17 _ _ _ _ (SlI.le hlv16 l17) hgl (by decide) (by decide)
 have l27 := Hp.le_trans l26 l17
 clear hlv16 l17 hgb hgl vbb16 l26
 replace hLik : Aqk _ := hLik
 (refine @unH _ ?_; refine zN y8_153 ?_)
 refine (show FnX _ _ _ _ _ _ from hLik).runs.mono ?_
 rintro _ HQ ⟨rfl, hHQ⟩
 rw [hHQ, show decide (([0] : List Int) = [0]) = true from rfl]
 clear hHQ HQ
 simp -implicitDefEqProofs (disch := omega) only [Azx, Aq3, Aqn]
 refine ⟨.inr fun _ => vbb17, ?_⟩
 (refine @unH _ ?_; refine zG y8_153 ?_)
 (iterate 2 (refine @unH _ ?_; refine zF y8_153 ?_))
 (apply Ay9 hOz rfl rfl rfl rfl (by simp -implicitDefEqProofs (disch := omega) only [act_get?, Axk, Nat.reduceEqDiff, ↓reduceIte, beq_self_eq_true, Bool.and_self, *]) ‹_›; (focus (intro HX hHX; simp -implicitDefEqProofs (disch := first | omega | (simp only [qd] <;> omega)) only [xq, ↓xp, qc, Nat.reduceAdd, List.range, List.range.loop, fine, Nat.reduceEqDiff, ↓reduceIte, yielded, reduceCtorEq, Nat.reduceLT, Nat.reduceMul, Nat.reduceSub, one, Nat.reduceLeDiff, Aqj, y8_153, aq, ↓ap, qe0, qe1, qe2, *, -hK, Aq8, Ayb hHX] <;> (first | exact rfl | exact ⟨rfl, rfl⟩ | exact ⟨rfl, trivial⟩))); simp -implicitDefEqProofs (disch := first | omega | (simp only [qd] <;> omega)) only [Aq3, Aqn])
 (refine @unH _ ?_; refine zG y8_153 ?_)
 (refine @unH _ ?_; refine zN y8_153 ?_)
 refine (Bxl _ H17 0 h).runs.mono ?_
 rintro _ H18 ⟨rfl, l18⟩
 have l28 := Hp.le_trans l27 l18
 simp -implicitDefEqProofs (disch := omega) only [Azx, Aq3, Aqn]
 refine ⟨.inr fun _ => (by first | exact l18 _ _ vbb17 | trivial), ?_⟩
 (refine @unH _ ?_; refine zG (And.intro y8_153 (And.intro @Aq2 @snBandE)) ?_)
 (iterate 2 (refine @unH _ ?_; refine zF y8_153 ?_))
 (refine @unH _ ?_; refine zG y8_153 ?_)
 (refine @unH _ ?_; refine zG y8_153 ?_)
 (refine @unH _ ?_; refine zG y8_153 ?_)
 (refine @unH _ ?_; refine zG y8_153 ?_)
 (refine @unH _ ?_; refine zF y8_153 ?_)
 (refine Ajh (hK _ _ ?_); clear hK K; (try simp only [nq, ↓reduceIte, Nat.reduceEqDiff]))
 (refine @unH _ ?_; refine zA y8_153 ?_; (repeat (refine inC ?_; intro hc)); try (refine inK ?_; intro K hK))
 clear hc hOz hLik vbb17 l27 l18
 refine Axe (fun w a' H' => ∃ e, ∃ p : Nat, w = s.places.toNat - p /\ (p : Int) <= s.places /\ a' = act 144 e [] /\ e 4 = .pointer (some ⟨sb, 0, none⟩) /\ e 15 = .int .i64 (p : Nat) /\ H12.le H') (n := s.places.toNat) ?_ ?_
 ·exact ⟨_, 0, by omega, by omega, rfl, e4, rfl, l28⟩
 clear e4 e8 e9 e10 e11 e12 e13 e14 e l28
 rintro w a' H19 ⟨e, p, rfl, hp, rfl, e4, e15, lb⟩
 have vsb := lb _ _ vsb12
 by_cases hlt : (p : Int) < s.places
 ·obtain ⟨hv1, hv2⟩ := (show ∀ p : Int, _ from hvd) p (by omega) hlt
  have hc1 := (show ∀ p : Int, _ from hcm) p (by omega) hlt
  obtain ⟨hf1, hf2⟩ := (show ∀ p : Int, _ from hsf) p (by omega) hlt
  have hV := (show ∀ H, _ -> ∀ p, _ from hVer) H19 lb p
  rw [hv1, hv2] at hV
  replace hV : Aqk _ := hV
  have hC := fun H l => (show ∀ H, _ -> ∀ p, _ from hCom) H l p
  rw [hc1] at hC
  replace hC : Aqk _ := hC
  have hS := fun H l => (show ∀ H, _ -> ∀ p, _ from hSaf) H l p
  rw [hf1, hf2] at hS
  replace hS : Aqk _ := hS
  clear hv1 hv2 hc1 hf1 hf2
  (refine @unH _ ?_; refine zA y8_153 ?_; (repeat (refine inC ?_; intro hc)); try (refine inK ?_; intro K hK))
  refine (show FnX _ _ _ _ _ _ from hV).runs.mono ?_
  rintro _ H20 ⟨rfl, l20⟩
  have lb20 := Hp.le_trans lb l20
  have vsb20 := l20 _ _ vsb
  clear hV lb l20 vsb
  ((try (refine @unH _ ?_; refine zX y8_153 ?_)); (try (refine hK _ _ ?_; clear hK K; (try simp only [nq, ↓reduceIte, Nat.reduceEqDiff]))); refine @unH _ ?_; refine zA y8_153 ?_; (repeat (refine inC ?_; intro hc)); try (refine inK ?_; intro K hK))
  refine ((show ∀ H, _ -> _ from hC) H20 lb20).runs.mono ?_
  rintro _ H21 ⟨rfl, l21⟩
  ((try (refine @unH _ ?_; refine zX y8_153 ?_)); (try (refine hK _ _ ?_; clear hK K; (try simp only [nq, ↓reduceIte, Nat.reduceEqDiff]))); refine @unH _ ?_; refine zA y8_153 ?_; (repeat (refine inC ?_; intro hc)); try (refine inK ?_; intro K hK))
  (intro cb hcb; generalize hG : Hp.set _ cb _ = H22; have lH22 := Aqc hG hcb; have vcb := Aqb hG; clear hG)
  have lb22 := Hp.le_trans lb20 (Hp.le_trans l21 lH22)
  have vsb22 := lH22 _ _ (l21 _ _ vsb20)
  clear hC lb20 l21 lH22 vsb20 hcb
  ((try (refine @unH _ ?_; refine zX y8_153 ?_)); (try (refine hK _ _ ?_; clear hK K; (try simp only [nq, ↓reduceIte, Nat.reduceEqDiff]))); refine @unH _ ?_; refine zA y8_153 ?_; (repeat (refine inC ?_; intro hc)); try (refine inK ?_; intro K hK))
  refine ((show ∀ H, _ -> _ from hS) H22 lb22).runs.mono ?_
  rintro _ H23 ⟨rfl, l23⟩
  have lb23 := Hp.le_trans lb22 l23
  clear hS lb22 l23 vsb22 vcb
  ((try (refine @unH _ ?_; refine zX y8_153 ?_)); (try (refine hK _ _ ?_; clear hK K; (try simp only [nq, ↓reduceIte, Nat.reduceEqDiff]))); refine @unH _ ?_; refine zA y8_153 ?_; (repeat (refine inC ?_; intro hc)); try (refine inK ?_; intro K hK))
  exact ⟨s.places.toNat - (p + 1), by omega, _, p + 1, rfl, by omega, rfl, e4, rfl, lb23⟩
 ·(refine @unH _ ?_; refine zA y8_153 ?_; (repeat (refine inC ?_; intro hc)); try (refine inK ?_; intro K hK))
  refine (smelled_spec H19).runs.mono ?_
  rintro _ H20 ⟨rfl, l20⟩
  ((try (refine @unH _ ?_; refine zX y8_153 ?_)); (try (refine hK _ _ ?_; clear hK K; (try simp only [nq, ↓reduceIte, Nat.reduceEqDiff]))); refine @unH _ ?_; refine zA y8_153 ?_; (repeat (refine inC ?_; intro hc)); try (refine inK ?_; intro K hK))
  (refine Axt ?_; (try simp only [nq, ↓reduceIte, Nat.reduceEqDiff]); rw [Aq7, Bqa Tryz.results8 (by decide)]; simp only [Axk, Nat.reduceEqDiff, ↓reduceIte])
end Go.Proofs.YtkcomnkgdifboaaGreatDoor
end
section
namespace Go.Proofs.YtkcomnkgdifboaaGreatDoor
open Go Go.X Go.ChangeShapes Go.WideShapes Go.RowKit
set_option maxRecDepth 100000 in
theorem law_lifted (os : Os) (started : os.Started) (H : Type) (enc : TypeId × Value -> H) :
  ReturnsInLeavingWide {} Tryz.checked os 8 .any (fun w args => (Rows.smellOwnSpec.pre enc Tryz.prog Tryz.f8 [] false w args /\ laidMetH Tryz.prog [("errors.errorType", Rows.laid_errors_errorType)] w) /\ sizedMet enc Tryz.prog Tryz.f8 (OpenSpec.ofChange Rows.smellOwnSpec) false w args)
   (Rows.smellOwnSpec.post enc Tryz.prog Tryz.f8 false true false false) := by
 refine leaving_of_change_and (C := Tryz.checked) (X := fun w _ => laidMetH Tryz.prog [("errors.errorType", Rows.laid_errors_errorType)] w) (fun _ _ _ hh h => h.of_heap hh) ownK started Tryz.func8
  (ChangeSpec.witness_at (enc := enc) (C := Tryz.checked) (os := os) (X := fun w _ => laidMetH Tryz.prog [("errors.errorType", Rows.laid_errors_errorType)] w) false (laidWorld os) #[.slice none 0 0] 8 rfl (by kernel_rfl) (by kernel_rfl) (by kernel_rfl) (by kernel_rfl) (by kernel_rfl) (laidWorld_met os _)) ?_
 intro W base args ds gs before hval0 hW hL
 have hval : ∀ (j : Nat) t v, Tryz.f8.params[j]? = some t -> args[j]? = some v -> Value.okWide Tryz.prog W .any base t v := hval0
 have hW' := hW
 obtain ⟨p, q, hA0, hV0, rfl, hfz, hnd⟩ := hW
 have hA : DataW.TrodAll enc Tryz.prog W 0 (fun _ => true) true Tryz.f8.params.toList args.toList ds p := hA0
 have hV : DataW.TrodVars enc Tryz.prog W (fun _ => true) [] gs q := hV0
 rw [Tryz.params8] at hA hval
 obtain ⟨v0, d0, rfl, rfl, h0⟩ := trodAll_one hA
 obtain ⟨a0, len, cap, rfl⟩ := okWide_slice Tryz.underlying22 (hval 0 22 v0 rfl rfl)
 have h0k := h0
 obtain ⟨fuel, hf⟩ := h0
 obtain ⟨rfl, rfl⟩ : gs = [] /\ q = [] := by
  cases gs with
  | nil => exact ⟨rfl, hV⟩
  | cons g r => exact absurd hV (by intro h; cases h)
 have e1 : Rows.smellOwnSpec.fn H ([d0] ++ []) = { results := [.lit (.bool true)], args := [d0] } := by simp [Rows.smellOwnSpec]
 have hcells : ∀ i : Nat, i < len -> ∃ sb so c e fr x, a0 = some ⟨sb, so, none⟩ /\ Bqm W sb = some (false, .cells c e fr) /\ c[so + i]? = some (.int .i64 x) := by
  rcases open_ints Tryz.underlying22 Tryz.underlying3 cellsK hf with ⟨hcs, _⟩ | ⟨a, len', cap', zs, hcs, _, hl, hm, hz, hx, hcell, hwz⟩
  ·simp [Value.cells] at hcs
   intro i hi
   omega
  ·simp [Value.cells] at hcs
   obtain ⟨rfl, rfl, rfl⟩ := hcs
   intro i hi
   simp only [if_true] at hz
   have hc := hcell i (by omega)
   obtain ⟨b, off, spot⟩ := a
   have hspot : spot = none := by simpa [Addr.add] using World.cell?_spot (hcell 0 (by omega))
   subst hspot
   rw [add_plain] at hc
   unfold World.cell? at hc
   split at hc
   ·rename_i c e fr hb
    exact ⟨b, off, c, e, fr, _, rfl, by simp [Bqm, hb], by simpa using hc⟩
   ·cases hc
 have hlt : ∀ x ∈ p, x.block < W.heap.size := fun x hx => by simpa using hW'.lt x (by simpa using hx)
 obtain ⟨N, last, o, w', t', r1, r2, r3, v, hv, ⟨rfl, hB⟩, r4⟩ := (lsown_spec (Bqm W) a0 len cap hcells).goodW Tryz.func8 (results_tmp Tryz.results8 _) (by kernel_rfl)
 refine ⟨N, last, o, w', t', r1, r2, r3, _, hv, ?_, r4⟩
 have hb := hB.below
 refine ⟨_, _, _, [], p, [], hW', ?_, ?_, ?_, hB.kept _, fun h => by cases h⟩
 ·rw [e1]; exact trodAll_mk1 (shut_bool Tryz.underlying4 true)
 ·rw [e1]
  have t := trodAll_mk1 (DataW.Trod.of_heap (w := { w' with tape := W.tape }) (w' := w') rfl (Below.trod laidOutK (by kernel_rfl) (of_decide_eq_true (by kernel_rfl)) h0k hb hlt))
  exact t
 ·rw [e1]; rfl
end Go.Proofs.YtkcomnkgdifboaaGreatDoor
end
section
namespace Go.Proofs.YtkcomnkgdifboaaGreatDoor
open Go Go.X Go.ChangeShapes Go.WideShapes Go.RowKit
theorem jEnter : Program.mayEnter Tryz.pinned.checked.prog = true := factEnter
theorem jLift : (Rows.smellOwnRow.lifted == Program.liftsFinal Tryz.pinned.checked.prog) = true := by rw [show Program.liftsFinal Tryz.pinned.checked.prog = Rows.smellOwnRow.lifted from factLift]; exact beq_self_eq_true _
theorem jMake : (Program.make Tryz.pinned.checked.prog == some Rows.smellOwnRow.make) = true := by rw [show Program.make Tryz.pinned.checked.prog = some Rows.smellOwnRow.make from factMake]; exact beq_self_eq_true _
set_option maxRecDepth 100000 in
theorem jf : joinedFacts Tryz.pinned.checked.prog 8 Tryz.f8 Rows.smellOwnSpec Rows.smellOwnRow = true := by
 unfold joinedFacts
 simp only [jEnter, jLift, jMake, Bool.and_true]
 kernel_rfl
set_option maxRecDepth 100000 in
theorem smellOwn_said : Rows.SmellOwnSaid :=
 OpenClaim.holds_of_wide_leaving 8 Tryz.f8 rfl rfl rfl rfl rfl rfl rfl ⟨rfl, rfl, rfl, rfl, rfl⟩ rfl rfl rfl rfl rfl (by kernel_rfl) Tryz.func8 jf
  (of_decide_eq_true (by kernel_rfl)) (by unfold Func.isWrapper; rw [if_neg (of_decide_eq_false (by kernel_rfl))]; exact ⟨rfl, rfl⟩)
  (fun os started H enc _ => law_lifted os started H enc)
end Go.Proofs.YtkcomnkgdifboaaGreatDoor
end
