/- Texts SmK6 SmK5 SmK4 SmK3 SmK2. -/
import Derived.Test.YtnfnaehonkbknaaGreatDoorJ23
set_option linter.defProp false
set_option linter.unusedSimpArgs false
set_option linter.unusedVariables false
set_option maxRecDepth 100000
set_option maxHeartbeats 2000000
section
namespace Go.Proofs.YtnfnaehonkbknaaGreatDoor
open Go Go.X Go.Proofs.Tryz
def y6_183 := aN @Cj0 (aN @Dw1 (aN @Dwr (aN @Dvo (aN @Dwa (aN @Dvq (aN @Dwb (aN @Dxk (aN @Bzo (aN @Cjz (aN @Dvn (aN @Dyi (aN @Dw9 (aN @Dwu (aN @Dvp (aN @Dk8 (aN @Dya (aN @Dwt (aN @Dk9 (aN @callF13 (aN @Bjx (aN @Dwj (aN @Dxl (aN @Dw3 (aN @Dws (aN @Dxm (aN @Dxf (aN @callF27 (aN @Dwk (aN @Dxi (aN @Dxh (aN @Dxj (aN @Dxe (aN @callF28 (aN @Ax1 (aN @Dxd (aN @callF11 (aN @Dxn (aN @Dxo (aN @Dyd (aN @callF19 (aN @callF17 @callF20)))))))))))))))))))))))))))))))))))))))))
def y19_183 := aN @Dw1 (aN @Dwj (aN @Bjx (aN @bld_26__0 (aN @Dwr (aN @Dvq (aN @Dwb (aN @Dyf (aN @Dwl (aN @Dxr (aN @Cke (aN @Dza (aN (fun H => Bwu (H := H) underlying103) (aN (fun H => Bjs (H := H) underlying103) (aN (fun H => Bwv (H := H) underlying103) (aN (fun H => Bju (H := H) underlying103) (aN @Dxs (aN @Dvn (aN @Dwc (aN @Dvo (aN @Dwa (aN @callF55 (aN @Dvp (aN @Dv9 (aN @Dxt (aN @Dyl (aN @Dym (aN @Dyj (aN (fun H => Bqj (H := H) underlying24 sizeOf46) (aN (fun H => buildSlice_agg1 (H := H) underlying24 sizeOf46 zeroValue46 rfl (by decide) (by decide)) (aN @Bqr @Dxu))))))))))))))))))))))))))))))
def dropS : Nat -> Code -> Code
 | 0, c => c
 | n + 1, .seq _ y => dropS n y
 | _ + 1, c => c
theorem ev_add1 : Azh (withS Aje ⟨0, 3, false⟩) = 4 := by kernel_rfl
theorem ev_add2 : Azh (withS Aje ⟨0, 1, true⟩) = 0 := by kernel_rfl
theorem sAdd_bad (H : Hp) (s : Sm) (dv hv nv : Value) (hs : SmIn H dv hv nv s) (ok : SmOk s) (he : ErrS H) (n : Ns) (hn : snoseC s.places n ≠ 0) (hl : s.noses.length < 4) :
  FnX Tryz.prog (.wg Tryz.prog) 19 #[smV s.places dv hv nv, .agg #[.int .i64 n.pl, .int .i64 n.hr, .bool n.sm]] H fun e H' => e = .returned (.tuple #[smV 0 (.slice none 0 0) (.slice none 0 0) (.slice none 0 0), .int .i64 (snoseC s.places n)]) /\ H.le H' := by
 obtain ⟨da, dc, ha, kc, na, nc, rfl, rfl, rfl, l1, l2, l3⟩ := hs.forms
 have hdl := ok.dl
 have hh1 := ok.h1
 have hp0 := ok.p0
 refine Aql func19 rfl ntmps19 (by simp) ?_
 (refine @unH _ (zA y19_183 ?_); (try clear hK K); intro K hK hc)
 (intro sb hsb nb hnb rb hrb; replace hrb : (Hp.set (Hp.set _ sb _) nb _) rb = none := hrb; replace hnb : (Hp.set _ sb _) nb = none := hnb; generalize hG : Hp.set _ sb _ = H1 at hnb hrb ⊢; have lH1 := Aqc hG hsb; have wsb := Aqb hG; clear hG; generalize hG : Hp.set _ nb _ = H2 at hrb ⊢; have lH2 := Aqc hG hnb; have wnb := Aqb hG; have nsbnb := Aqq wsb hnb; replace wsb := lH2 _ _ wsb; clear hG; generalize hG : Hp.set _ rb _ = H3; have lH3 := Aqc hG hrb; have vrb := Aqb hG; have vsb := lH3 _ _ wsb; have vnb := lH3 _ _ wnb; have nsbrb := Aqq wsb hrb; have nnbrb := Aqq wnb hrb; clear hG wsb wnb)
 have lb := Hp.le_trans lH1 (Hp.le_trans lH2 lH3)
 have hrb0 : H rb = none := Hp.le_none (Hp.le_trans lH1 lH2) hrb
 clear lH1 lH2 lH3 hsb hnb hrb
 (refine @unH _ (zU y19_183 ?_); (try clear hK K); intro K hK hc)
 refine (Ak8 _ H3 s _ _ _ (hs.le lb) ok).runs.mono ?_
 rintro _ H4 ⟨rfl, l4⟩
 have lb4 := Hp.le_trans lb l4
 have vsb4 := l4 _ _ vsb
 have vnb4 := l4 _ _ vnb
 have vrb4 := l4 _ _ vrb
 clear lb l4 vsb vnb vrb
 (refine @unH _ (zU y19_183 ?_); (try clear hK K); intro K hK hc)
 refine (snoseC_raw _ H4 s.places _ _ _ n (s.noses.length : Nat) hp0 ok.p1 rfl rfl rfl).runs.mono ?_
 rw [if_neg hn]
 rintro _ H5 ⟨rfl, l5⟩
 have lb5 := Hp.le_trans lb4 l5
 have vrb5 := l5 _ _ vrb4
 generalize snoseC s.places n = z at *
 clear lb4 l5 vsb4 vnb4 vrb4
 (refine @unH _ (zU y19_183 ?_); (try clear hK K); intro K hK hc)
 refine (scode_bad _ H5 _ _ (he.le lb5)).runs.mono ?_
 rintro _ H6 ⟨rfl, l6⟩
 have vrb6 := l6 _ _ vrb5
 have lb6 := Hp.le_trans lb5 l6
 clear l6 lb5 vrb5
 (refine @unH _ (zU y19_183 ?_); (try clear hK K); intro K hK hc)
 (refine Axt ?_; (try simp only [nq, ↓reduceIte, Nat.reduceEqDiff]); rw [Aq7, results_cell_tmp results19 (by decide) (by decide) (b := rb) (o := 0) rfl underlying26 rfl sizeOf26]; simp -implicitDefEqProofs (disch := first | omega | (simp only [qd] <;> omega)) only [xq, ↓xp, qc, Nat.reduceAdd, List.range, List.range.loop, fine, Nat.reduceEqDiff, ↓reduceIte, yielded, reduceCtorEq, Nat.reduceLT, Nat.reduceMul, Nat.reduceSub, one, Nat.reduceLeDiff, Aqj, y19_183, Axj, List.extract_toArray])
 exact Azx lb6 hrb0
theorem kn6 (H : Hp) (he : ErrS H) (e : Nat -> Value) : wpX Tryz.prog (.wg Tryz.prog) none (dropS 27 (Tryz.f6.body.getD .skip)) (Bva Tryz.prog (.wg Tryz.prog) Tryz.f6 fun e _ => e = .returned (.bool true)) (act 370 e []) H := by
 show wpX _ _ _ (.seq (.region _ _ false) _) _ _ _
 (refine @unH _ (zA y6_183 ?_); (try clear hK K); intro K hK hc)
 refine (Ajr _ H).runs.mono ?_
 rintro _ A1 ⟨dv1, hv1, nv1, rfl, hs1, lA1⟩
 replace he := he.le lA1
 clear lA1
 (refine @unH _ (zU y6_183 ?_); intro _ _ hc)
 refine (Awd _ A1 0 3 false).runs.mono ?_
 rintro _ A2 ⟨rfl, lA2⟩
 replace he := he.le lA2
 replace hs1 := hs1.le lA2
 clear lA2
 (refine @unH _ (zU y6_183 ?_); intro _ _ hc)
 refine (sAdd_spec A2 Aje _ _ _ hs1 Ava ⟨0, 3, false⟩ ⟨by decide, by decide, by decide, by decide⟩ (by decide)).runs.mono ?_
 rintro _ A3 ⟨hA, lA3⟩
 obtain ⟨-, a1, b1, c1, rfl, hx⟩ := hA.resolve_left (fun h => absurd h.1.2 (by rw [ev_add1]; decide))
 obtain ⟨_, _, _, _, _, _, rfl, rfl, rfl, -, -, -⟩ := id hx.forms
 replace he := he.le lA3
 clear hs1
 clear lA3
 (refine @unH _ (zU y6_183 ?_); intro _ _ hc)
 (intro xb hxb; generalize hG : Hp.set _ xb _ = A4; have lA4 := Aqc hG hxb; have vxb := Aqb hG; clear hG)
 replace he := he.le lA4
 replace hx := hx.le lA4
 clear lA4
 clear hxb
 (refine @unH _ (zU y6_183 ?_); (try clear hK K); intro K hK hc)
 refine (Ajr _ A4).runs.mono ?_
 rintro _ A5 ⟨dv2, hv2, nv2, rfl, hs2, lA5⟩
 replace he := he.le lA5
 replace hx := hx.le lA5
 replace vxb := lA5 _ _ vxb
 clear lA5
 (refine @unH _ (zU y6_183 ?_); intro _ _ hc)
 refine (Awd _ A5 0 3 false).runs.mono ?_
 rintro _ A6 ⟨rfl, lA6⟩
 replace he := he.le lA6
 replace hx := hx.le lA6
 replace vxb := lA6 _ _ vxb
 replace hs2 := hs2.le lA6
 clear lA6
 (refine @unH _ (zU y6_183 ?_); intro _ _ hc)
 refine (swith_spec _ A6 Aje _ _ _ hs2 ⟨0, 3, false⟩ (by decide)).runs.mono ?_
 rintro _ A7 ⟨nw, rfl, hw, lA7⟩
 obtain ⟨_, _, _, _, _, _, e1, e2, rfl, -, -, -⟩ := id hw.forms
 clear e1 e2
 replace he := he.le lA7
 replace hx := hx.le lA7
 replace vxb := lA7 _ _ vxb
 replace hs2 := hs2.le lA7
 clear lA7
 (refine @unH _ (zU y6_183 ?_); intro _ _ hc)
 refine (By2 A7 (withS Aje ⟨0, 3, false⟩) _ _ _ hw (withS_ok Ava ⟨by decide, by decide, by decide, by decide⟩ (by decide))).runs.mono ?_
 rintro _ A8 ⟨rfl, lA8⟩
 rw [ev_add1]
 replace he := he.le lA8
 replace hx := hx.le lA8
 replace vxb := lA8 _ _ vxb
 replace hw := hw.le lA8
 clear lA8
 (refine @unH _ (zU y6_183 ?_); (try clear hK K); intro K hK hc)
 refine (Ajr _ A8).runs.mono ?_
 rintro _ A9 ⟨dv3, hv3, nv3, rfl, hs3, lA9⟩
 replace he := he.le lA9
 replace hx := hx.le lA9
 replace vxb := lA9 _ _ vxb
 clear lA9
 (refine @unH _ (zU y6_183 ?_); intro _ _ hc)
 refine (Awd _ A9 0 1 true).runs.mono ?_
 rintro _ A10 ⟨rfl, lA10⟩
 replace he := he.le lA10
 replace hx := hx.le lA10
 replace vxb := lA10 _ _ vxb
 replace hs3 := hs3.le lA10
 clear lA10
 (refine @unH _ (zU y6_183 ?_); intro _ _ hc)
 refine (sAdd_spec A10 Aje _ _ _ hs3 Ava ⟨0, 1, true⟩ ⟨by decide, by decide, by decide, by decide⟩ (by decide)).runs.mono ?_
 rintro _ A11 ⟨hA, lA11⟩
 obtain ⟨-, rfl⟩ := hA.resolve_right (fun h => h.1 ⟨by rw [Cwr]; decide, ev_add2⟩)
 replace he := he.le lA11
 replace hx := hx.le lA11
 replace vxb := lA11 _ _ vxb
 replace hs3 := hs3.le lA11
 clear lA11
 (refine @unH _ (zU y6_183 ?_); (try clear hK K); intro K hK hc)
 refine (Ajr _ A11).runs.mono ?_
 rintro _ A12 ⟨dv4, hv4, nv4, rfl, hs4, lA12⟩
 replace he := he.le lA12
 replace hx := hx.le lA12
 replace vxb := lA12 _ _ vxb
 clear lA12
 (refine @unH _ (zU y6_183 ?_); intro _ _ hc)
 refine (Awd _ A12 4 1 true).runs.mono ?_
 rintro _ A13 ⟨rfl, lA13⟩
 replace he := he.le lA13
 replace hx := hx.le lA13
 replace vxb := lA13 _ _ vxb
 replace hs4 := hs4.le lA13
 clear lA13
 (refine @unH _ (zU y6_183 ?_); intro _ _ hc)
 refine (sAdd_bad A13 Aje _ _ _ hs4 Ava he ⟨4, 1, true⟩ (by decide) (by decide)).runs.mono ?_
 rintro _ A14 ⟨rfl, lA14⟩
 replace he := he.le lA14
 replace hx := hx.le lA14
 replace vxb := lA14 _ _ vxb
 replace hs4 := hs4.le lA14
 clear lA14
 (refine @unH _ (zU y6_183 ?_); (try clear hK K); intro K hK hc)
 refine Bjl (fun e => e 8 = .int .i64 0 /\ e 10 = .int .i64 0 /\ e 12 = .int .i64 9 /\ e 14 = .int .i64 3 /\ e 15 = .int .i64 4 /\ e 25 = .pointer (some ⟨xb, 0, none⟩)) ⟨rfl, rfl, rfl, rfl, rfl, rfl⟩ ?_
 rintro e ⟨e8, e10, e12, e14, e15, e25⟩
 refine Azl (fun HX => A14.le HX) [] (.free 0 (.free 1 (.free 2 (.free 3 (.free 4 (.free 5 (.free 6 (.free 7 (.free 8 (.free 9 (.free 10 (.free 11 (.free 12 (.free 13 (.free 14 (.free 15 (.free 16 (.free 17 (.free 18 (.take 19 (.one 20 (.one 21 (.one 22 (.one 23 (.free 24 (.free 25 .nil)))))))))))))))))))))))))) (by kernel_rfl) (by kernel_rfl) (by decide) (by kernel_rfl) ?_; intro K hK
 have hS0 : A14.le A14 := Hp.le_refl _
 refine Byy fun ops hOz => ?_
 (refine @unH _ ?_; refine zF (aN y6_183 (aN @Aqy @sbBandS)) ?_)
 (refine @unH _ ?_; refine zF (aN y6_183 (aN @Aqy @sbBandS)) ?_)
 (refine @unH _ ?_; refine zF (aN y6_183 (aN @Aqy @sbBandS)) ?_)
 (refine @unH _ ?_; refine zG (aN y6_183 (aN @Aqy @sbBandS)) ?_)
 (refine @unH _ ?_; refine zG (aN y6_183 (aN @Aqy @sbBandS)) ?_)
 (refine @unH _ ?_; refine zF (aN y6_183 (aN @Aqy @sbBandS)) ?_)
 (refine @unH _ ?_; refine zF (aN y6_183 (aN @Aqy @sbBandS)) ?_)
 (refine @unH _ ?_; refine zG (aN y6_183 (aN @Aqy @sbBandS)) ?_)
 (refine @unH _ ?_; refine zG (aN y6_183 (aN @Aqy @sbBandS)) ?_)
 (refine @unH _ ?_; refine zF (aN y6_183 (aN @Aqy @sbBandS)) ?_)
 (refine @unH _ ?_; refine zF (aN y6_183 (aN @Aqy @sbBandS)) ?_)
 (refine @unH _ ?_; refine zG (aN y6_183 (aN @Aqy @sbBandS)) ?_)
 (refine @unH _ ?_; refine zG (aN y6_183 (aN @Aqy @sbBandS)) ?_)
 (refine @unH _ ?_; refine zF (aN y6_183 (aN @Aqy @sbBandS)) ?_)
 (refine @unH _ ?_; refine zF (aN y6_183 (aN @Aqy @sbBandS)) ?_)
 (refine @unH _ ?_; refine zG (aN y6_183 (aN @Aqy @sbBandS)) ?_)
 (refine @unH _ ?_; refine zG (aN y6_183 (aN @Aqy @sbBandS)) ?_)
 (refine @unH _ ?_; refine zF (aN y6_183 (aN @Aqy @sbBandS)) ?_)
 (refine @unH _ ?_; refine zF (aN y6_183 (aN @Aqy @sbBandS)) ?_)
 (apply Awu hOz rfl rfl rfl rfl (by simp -implicitDefEqProofs (disch := omega) only [act_get?, Axg, Nat.reduceEqDiff, ↓reduceIte, beq_self_eq_true, Bool.and_self, *]) ‹_›; (focus (intro HX hHX; simp -implicitDefEqProofs (disch := first | omega | (simp only [qd] <;> omega)) only [xq, ↓xp, qc, Nat.reduceAdd, List.range, List.range.loop, fine, Nat.reduceEqDiff, ↓reduceIte, yielded, reduceCtorEq, Nat.reduceLT, Nat.reduceMul, Nat.reduceSub, one, Nat.reduceLeDiff, Aqj, y6_183, aq, ↓ap, qe0, qe1, qe2, *, -hK, Aq3, hHX _ _ vxb, Av7] <;> (first | exact rfl | exact ⟨rfl, rfl⟩ | exact ⟨rfl, trivial⟩))); simp -implicitDefEqProofs (disch := first | omega | (simp only [qd] <;> omega)) only [Aq0, Aqp])
 (refine @unH _ ?_; refine zN (aN y6_183 (aN @Aqy @sbBandS)) ?_)
 refine (Ajr _ A14).runs.mono ?_
 rintro _ B1 ⟨dv5, hv5, nv5, rfl, hs5, lB1⟩
 have mB1 : A14.le B1 := lB1
 simp -implicitDefEqProofs (disch := omega) only [Ak0, Aq0, Aqp]
 refine ⟨.inr fun _ => (by first | trivial | exact mB1 | exact lB1), ?_⟩
 (refine @unH _ ?_; refine zN (aN y6_183 (aN @Aqy @sbBandS)) ?_)
 refine (Awd _ B1 0 3 false).runs.mono ?_
 rintro _ B2 ⟨rfl, lB2⟩
 replace hs5 := hs5.le lB2
 have mB2 : A14.le B2 := Hp.le_trans mB1 lB2
 simp -implicitDefEqProofs (disch := omega) only [Ak0, Aq0, Aqp]
 refine ⟨.inr fun _ => (by first | trivial | exact mB2 | exact lB2), ?_⟩
 (refine @unH _ ?_; refine zN (aN y6_183 (aN @Aqy @sbBandS)) ?_)
 refine (swith_spec _ B2 Aje _ _ _ hs5 ⟨0, 3, false⟩ (by decide)).runs.mono ?_
 rintro _ B3 ⟨nw5, rfl, hw5, lB3⟩
 clear hs5
 have mB3 : A14.le B3 := Hp.le_trans mB2 lB3
 simp -implicitDefEqProofs (disch := omega) only [Ak0, Aq0, Aqp]
 refine ⟨.inr fun _ => (by first | trivial | exact mB3 | exact lB3), ?_⟩
 (refine @unH _ ?_; refine zN (aN y6_183 (aN @Aqy @sbBandS)) ?_)
 refine (likeSmells_yes _ B3 (withS Aje ⟨0, 3, false⟩) _ _ _ _ _ _ (hx.le mB3) hw5 (by decide) (by decide) (by decide)).runs.mono ?_
 rintro _ B4 ⟨rfl, lB4⟩
 have mB4 : A14.le B4 := Hp.le_trans mB3 lB4
 simp -implicitDefEqProofs (disch := omega) only [Ak0, Aq0, Aqp]
 refine ⟨.inr fun _ => (by first | trivial | exact mB4 | exact lB4), ?_⟩
 (refine @unH _ ?_; refine zF (aN y6_183 (aN @Aqy @sbBandS)) ?_)
 (refine @unH _ ?_; refine zF (aN y6_183 (aN @Aqy @sbBandS)) ?_)
 (refine planZ_nil (hK _ _ ?_); clear hK K; (try simp only [nq, ↓reduceIte, Nat.reduceEqDiff]))
 (refine @unH _ (zA y6_183 ?_); (try clear hK K); intro K hK hc)
 (refine Axt ?_; (try simp only [nq, ↓reduceIte, Nat.reduceEqDiff]); rw [Aq7, Bx0 results6 (by decide)]; simp only [Axg, Nat.reduceEqDiff, ↓reduceIte])
end Go.Proofs.YtnfnaehonkbknaaGreatDoor
end
section
namespace Go.Proofs.YtnfnaehonkbknaaGreatDoor
open Go Go.X
def y6_184 := aN @Cj0 (aN @Dw1 (aN @Dwr (aN @Dvo (aN @Dwa (aN @Dvq (aN @Dwb (aN @Dxk (aN @Bzo (aN @Cjz (aN @Dvn (aN @Dyi (aN @Dw9 (aN @Dwu (aN @Dvp (aN @Dk8 (aN @Dya (aN @Dwt (aN @Dk9 (aN @callF13 (aN @Bjx (aN @Dwj (aN @Dxl (aN @Dw3 (aN @Dws (aN @Dxm (aN @Dxf (aN @callF27 (aN @Dwk (aN @Dxi (aN @Dxh (aN @Dxj (aN @Dxe (aN @callF28 (aN @Ax1 (aN @Dxd (aN @callF11 (aN @Dxn (aN @Dxo (aN @Dyd (aN @callF19 (aN @callF17 @callF20)))))))))))))))))))))))))))))))))))))))))
theorem ErrS.put {H : Hp} (h : ErrS H) {b : Nat} {x y : Int} {t : TypeId} {f : Nat × Nat} (hb : H b = some (true, .cells #[.int .i64 x, .int .i64 y] t f)) {o : Obj} : ErrS (H.set b o) := by
 obtain ⟨q, cg, eg, fg, h1, h2⟩ := h
 refine ⟨q, cg, eg, fg, ?_, h2⟩
 rw [Aqv (fun e => by
  rw [e, hb] at h1
  simp only [Option.some.injEq, Prod.mk.injEq, Obj.cells.injEq] at h1
  rw [<- h1.2.1] at h2
  simp at h2)]
 exact h1
theorem ev5a : comE Aje 1 = (1, 4, 0) := by kernel_rfl
theorem ev5b : Cy8 Aje 3 = 3 := by kernel_rfl
theorem ev5c : begE Aje [3] 0 = 0 := by kernel_rfl
theorem ev5d : Cy8 Aje 2 = -1 := by kernel_rfl
theorem ev5e : begE Aje [2] 0 = 0 := by kernel_rfl
theorem ev5f : wroF Aje = [] := by kernel_rfl
theorem ev5g : snE Aje 0 = (2, 4, 0) := by kernel_rfl
theorem kn5 (H : Hp) (he : ErrS H) (e : Nat -> Value) (b7 : Nat) (x y : Int) (vb7 : H b7 = some (true, .cells #[.int .i64 x, .int .i64 y] 34 (0, 0))) (e7 : e 7 = .pointer (some ⟨b7, 0, none⟩)) : wpX Tryz.prog (.wg Tryz.prog) none (dropS 21 (Tryz.f6.body.getD .skip)) (Bva Tryz.prog (.wg Tryz.prog) Tryz.f6 fun e _ => e = .returned (.bool true)) (act 370 e []) H := by
 show wpX _ _ _ (.seq (.region _ _ false) _) _ _ _
 (refine @unH _ (zA y6_184 ?_); (try clear hK K); intro K hK hc)
 refine (Ajr _ H).runs.mono ?_
 rintro _ A1 ⟨dv1, hv1, nv1, rfl, hs1, lA1⟩
 replace he := he.le lA1
 replace vb7 := lA1 _ _ vb7
 clear lA1
 (refine @unH _ (zU y6_184 ?_); intro _ _ hc)
 refine (By1 A1 Aje _ _ _ hs1 Ava 1).runs.mono ?_
 rintro _ A2 ⟨rfl, lA2⟩
 rw [ev5a]
 replace he := he.le lA2
 replace vb7 := lA2 _ _ vb7
 replace hs1 := hs1.le lA2
 clear lA2
 (refine @unH _ (zU y6_184 ?_); (try clear hK K); intro K hK hc)
 have he2 := fun o => he.put (o := o) vb7
 generalize hG : Hp.set A2 b7 _ = P3
 replace vb7 := Aqb hG
 replace he := hG ▸ he2 _
 clear hG he2
 refine (Ajr _ P3).runs.mono ?_
 rintro _ A3 ⟨dv2, hv2, nv2, rfl, hs2, lA3⟩
 replace he := he.le lA3
 replace vb7 := lA3 _ _ vb7
 clear lA3
 (refine @unH _ (zU y6_184 ?_); intro _ _ hc)
 refine (sSafe_spec A3 Aje _ _ _ hs2 Ava 3).runs.mono ?_
 rintro _ A4 ⟨rfl, lA4⟩
 rw [ev5b]
 rw [ev5c]
 replace he := he.le lA4
 replace vb7 := lA4 _ _ vb7
 replace hs2 := hs2.le lA4
 clear lA4
 (refine @unH _ (zU y6_184 ?_); (try clear hK K); intro K hK hc)
 refine (Ajr _ A4).runs.mono ?_
 rintro _ A5 ⟨dv3, hv3, nv3, rfl, hs3, lA5⟩
 replace he := he.le lA5
 replace vb7 := lA5 _ _ vb7
 clear lA5
 (refine @unH _ (zU y6_184 ?_); intro _ _ hc)
 refine (sSafe_spec A5 Aje _ _ _ hs3 Ava 2).runs.mono ?_
 rintro _ A6 ⟨rfl, lA6⟩
 rw [ev5d]
 rw [ev5e]
 replace he := he.le lA6
 replace vb7 := lA6 _ _ vb7
 replace hs3 := hs3.le lA6
 clear lA6
 (refine @unH _ (zU y6_184 ?_); (try clear hK K); intro K hK hc)
 refine (Ajr _ A6).runs.mono ?_
 rintro _ A7 ⟨dv4, hv4, nv4, rfl, hs4, lA7⟩
 replace he := he.le lA7
 replace vb7 := lA7 _ _ vb7
 clear lA7
 (refine @unH _ (zU y6_184 ?_); intro _ _ hc)
 refine (By9 A7 Aje _ _ _ hs4 Ava).runs.mono ?_
 rintro _ A8 ⟨wv, rfl, hw, lA8⟩
 rw [ev5f] at hw
 obtain ⟨wa, wc, rfl, -⟩ := hw
 replace he := he.le lA8
 replace vb7 := lA8 _ _ vb7
 replace hs4 := hs4.le lA8
 clear lA8
 (refine @unH _ (zU y6_184 ?_); (try clear hK K); intro K hK hc)
 refine (Ajr _ A8).runs.mono ?_
 rintro _ A9 ⟨dv5, hv5, nv5, rfl, hs5, lA9⟩
 replace he := he.le lA9
 replace vb7 := lA9 _ _ vb7
 clear lA9
 (refine @unH _ (zU y6_184 ?_); intro _ _ hc)
 refine (By8 A9 Aje _ _ _ hs5 Ava 0).runs.mono ?_
 rintro _ A10 ⟨rfl, lA10⟩
 rw [ev5g]
 replace he := he.le lA10
 replace vb7 := lA10 _ _ vb7
 replace hs5 := hs5.le lA10
 clear lA10
 (refine @unH _ (zV y6_184 ?_); (try clear hK K); intro K hK hc)
 refine Bjl (fun e => e 7 = .pointer (some ⟨b7, 0, none⟩) /\ e 8 = .int .i64 0 /\ e 10 = .int .i64 0 /\ e 12 = .int .i64 0 /\ e 14 = .int .i64 0 /\ e 15 = .int .i64 3 /\ e 16 = .int .i64 0 /\ e 17 = .slice wa 0 wc /\ e 21 = .int .i64 (-1) /\ e 23 = .int .i64 2 /\ e 24 = .int .i64 4) ⟨e7, rfl, rfl, rfl, rfl, rfl, rfl, rfl, rfl, rfl, rfl⟩ ?_
 clear e7 e
 rintro e ⟨e7, e8, e10, e12, e14, e15, e16, e17, e21, e23, e24⟩
 refine Cqn (fun a' H' => ∃ e, a' = act 370 e [] /\ ErrS H') ?_ (fun a H' ⟨e, h1, h2⟩ => by
  rw [h1]
  exact kn6 H' h2 e)
 refine Bwn (fun HX => A10.le HX) [] (.free 0 (.free 1 (.free 2 (.free 3 (.free 4 (.free 5 (.free 6 (.free 7 (.free 8 (.free 9 (.free 10 (.free 11 (.free 12 (.free 13 (.free 14 (.free 15 (.free 16 (.free 17 (.free 18 (.take 19 (.one 20 (.free 21 (.free 22 (.free 23 (.free 24 (.free 25 (.free 26 (.free 27 (.free 28 (.free 29 (.free 30 (.free 31 (.free 32 (.free 33 (.free 34 (.free 35 (.free 36 (.free 37 (.free 38 (.free 39 (.free 40 (.free 41 (.free 42 (.free 43 .nil)))))))))))))))))))))))))))))))))))))))))))) (by kernel_rfl) (by kernel_rfl) (by decide) (by kernel_rfl) ?_; intro K hK
 have hS0 : A10.le A10 := Hp.le_refl _
 refine Byy fun ops hOz => ?_
 (refine @unH _ ?_; refine zF (aN y6_184 (aN @Aqy @sbBandS)) ?_)
 (refine @unH _ ?_; refine zF (aN y6_184 (aN @Aqy @sbBandS)) ?_)
 (refine @unH _ ?_; refine zF (aN y6_184 (aN @Aqy @sbBandS)) ?_)
 (refine @unH _ ?_; refine zG (aN y6_184 (aN @Aqy @sbBandS)) ?_)
 (refine @unH _ ?_; refine zG (aN y6_184 (aN @Aqy @sbBandS)) ?_)
 (refine @unH _ ?_; refine zF (aN y6_184 (aN @Aqy @sbBandS)) ?_)
 (refine @unH _ ?_; refine zF (aN y6_184 (aN @Aqy @sbBandS)) ?_)
 (refine @unH _ ?_; refine zG (aN y6_184 (aN @Aqy @sbBandS)) ?_)
 (refine @unH _ ?_; refine zG (aN y6_184 (aN @Aqy @sbBandS)) ?_)
 (refine @unH _ ?_; refine zF (aN y6_184 (aN @Aqy @sbBandS)) ?_)
 (refine @unH _ ?_; refine zF (aN y6_184 (aN @Aqy @sbBandS)) ?_)
 (refine @unH _ ?_; refine zG (aN y6_184 (aN @Aqy @sbBandS)) ?_)
 (refine @unH _ ?_; refine zG (aN y6_184 (aN @Aqy @sbBandS)) ?_)
 (refine @unH _ ?_; refine zF (aN y6_184 (aN @Aqy @sbBandS)) ?_)
 (refine @unH _ ?_; refine zF (aN y6_184 (aN @Aqy @sbBandS)) ?_)
 (refine @unH _ ?_; refine zG (aN y6_184 (aN @Aqy @sbBandS)) ?_)
 (refine @unH _ ?_; refine zG (aN y6_184 (aN @Aqy @sbBandS)) ?_)
 (refine @unH _ ?_; refine zF (aN y6_184 (aN @Aqy @sbBandS)) ?_)
 (refine @unH _ ?_; refine zF (aN y6_184 (aN @Aqy @sbBandS)) ?_)
 (apply Awu hOz rfl rfl rfl rfl (by simp -implicitDefEqProofs (disch := omega) only [act_get?, Axg, Nat.reduceEqDiff, ↓reduceIte, beq_self_eq_true, Bool.and_self, *]) ‹_›; (focus (intro HX hHX; simp -implicitDefEqProofs (disch := first | omega | (simp only [qd] <;> omega)) only [xq, ↓xp, qc, Nat.reduceAdd, List.range, List.range.loop, fine, Nat.reduceEqDiff, ↓reduceIte, yielded, reduceCtorEq, Nat.reduceLT, Nat.reduceMul, Nat.reduceSub, one, Nat.reduceLeDiff, Aqj, y6_184, aq, ↓ap, qe0, qe1, qe2, *, -hK, Aq3, hHX _ _ vb7, Av7] <;> (first | exact rfl | exact ⟨rfl, rfl⟩ | exact ⟨rfl, trivial⟩))); simp -implicitDefEqProofs (disch := first | omega | (simp only [qd] <;> omega)) only [Aq0, Aqp])
 (refine @unH _ ?_; refine zN (aN y6_184 (aN @Aqy @sbBandS)) ?_)
 refine (Ay1 _ A10 1 4).runs.mono ?_
 rintro _ B1 ⟨rfl, lB1⟩
 have mB1 : A10.le B1 := lB1
 simp -implicitDefEqProofs (disch := omega) only [Ak0, Aq0, Aqp]
 refine ⟨.inr fun _ => (by first | trivial | exact mB1 | exact lB1), ?_⟩
 (refine @unH _ ?_; refine zG (aN y6_184 (aN @Aqy @sbBandS)) ?_)
 (refine @unH _ ?_; refine zF (aN y6_184 (aN @Aqy @sbBandS)) ?_)
 (refine @unH _ ?_; refine zF (aN y6_184 (aN @Aqy @sbBandS)) ?_)
 (refine @unH _ ?_; refine zG (aN y6_184 (aN @Aqy @sbBandS)) ?_)
 (refine @unH _ ?_; refine zG (aN y6_184 (aN @Aqy @sbBandS)) ?_)
 (refine @unH _ ?_; refine zF (aN y6_184 (aN @Aqy @sbBandS)) ?_)
 (refine @unH _ ?_; refine zF (aN y6_184 (aN @Aqy @sbBandS)) ?_)
 (refine @unH _ ?_; refine zG (aN y6_184 (aN @Aqy @sbBandS)) ?_)
 (refine @unH _ ?_; refine zG (aN y6_184 (aN @Aqy @sbBandS)) ?_)
 (refine @unH _ ?_; refine zF (aN y6_184 (aN @Aqy @sbBandS)) ?_)
 (refine @unH _ ?_; refine zF (aN y6_184 (aN @Aqy @sbBandS)) ?_)
 (refine @unH _ ?_; refine zG (aN y6_184 (aN @Aqy @sbBandS)) ?_)
 (refine @unH _ ?_; refine zG (aN y6_184 (aN @Aqy @sbBandS)) ?_)
 (refine @unH _ ?_; refine zG (aN y6_184 (aN @Aqy @sbBandS)) ?_)
 (refine @unH _ ?_; refine zF (aN y6_184 (aN @Aqy @sbBandS)) ?_)
 (refine @unH _ ?_; refine zF (aN y6_184 (aN @Aqy @sbBandS)) ?_)
 (refine @unH _ ?_; refine zG (aN y6_184 (aN @Aqy @sbBandS)) ?_)
 (refine @unH _ ?_; refine zG (aN y6_184 (aN @Aqy @sbBandS)) ?_)
 (refine @unH _ ?_; refine zF (aN y6_184 (aN @Aqy @sbBandS)) ?_)
 (refine @unH _ ?_; refine zF (aN y6_184 (aN @Aqy @sbBandS)) ?_)
 (refine @unH _ ?_; refine zG (aN y6_184 (aN @Aqy @sbBandS)) ?_)
 (refine @unH _ ?_; refine zG (aN y6_184 (aN @Aqy @sbBandS)) ?_)
 (refine @unH _ ?_; refine zF (aN y6_184 (aN @Aqy @sbBandS)) ?_)
 (refine planZ_nil (hK _ _ ?_); clear hK K; (try simp only [nq, ↓reduceIte, Nat.reduceEqDiff]))
 (refine @unH _ (zA y6_184 ?_); (try clear hK K); intro K hK hc)
 exact ⟨_, rfl, he.le mB1⟩
def y6_185 := aN @Cj0 (aN @Dw1 (aN @Dwr (aN @Dvo (aN @Dwa (aN @Dvq (aN @Dwb (aN @Dxk (aN @Bzo (aN @Cjz (aN @Dvn (aN @Dyi (aN @Dw9 (aN @Dwu (aN @Dvp (aN @Dk8 (aN @Dya (aN @Dwt (aN @Dk9 (aN @callF13 (aN @Bjx (aN @Dwj (aN @Dxl (aN @Dw3 (aN @Dws (aN @Dxm (aN @Dxf (aN @callF27 (aN @Dwk (aN @Dxi (aN @Dxh (aN @Dxj (aN @Dxe (aN @callF28 (aN @Ax1 (aN @Dxd (aN @callF11 (aN @Dxn (aN @Dxo (aN @Dyd (aN @callF19 (aN @callF17 @callF20)))))))))))))))))))))))))))))))))))))))))
theorem ev4a : sinE Aje 0 = (2, 2, 0) := by kernel_rfl
theorem ev4b : sinE Aje 2 = (0, 0, 3) := by kernel_rfl
theorem ev4c : Cv0 Aje 1 4 = 1 := by kernel_rfl
theorem ev4d : begE Aje [1] 4 = 0 := by kernel_rfl
theorem ev4e : Cv0 Aje 3 3 = 2 := by kernel_rfl
theorem ev4f : begE Aje [3] 3 = 0 := by kernel_rfl
theorem ev4g : Cv0 Aje 0 13 = 0 := by kernel_rfl
theorem ev4h : begE Aje [0] 13 = 1 := by kernel_rfl
theorem ev4i : begE Aje [] 4 = 0 := by kernel_rfl
theorem ev4j : Byt (surM (susp Aje) 4 Aje.places.toNat) = [1] := by kernel_rfl
theorem ev4k : begE Aje [] 5 = 0 := by kernel_rfl
theorem ev4l : Byt (surM (susp Aje) 5 Aje.places.toNat) = [1, 2] := by kernel_rfl
theorem kn4 (H : Hp) (he : ErrS H) (e : Nat -> Value) (b7 : Nat) (x y : Int) (vb7 : H b7 = some (true, .cells #[.int .i64 x, .int .i64 y] 34 (0, 0))) (e7 : e 7 = .pointer (some ⟨b7, 0, none⟩)) : wpX Tryz.prog (.wg Tryz.prog) none (dropS 13 (Tryz.f6.body.getD .skip)) (Bva Tryz.prog (.wg Tryz.prog) Tryz.f6 fun e _ => e = .returned (.bool true)) (act 370 e []) H := by
 show wpX _ _ _ (.seq (.region _ _ false) _) _ _ _
 (refine @unH _ (zA y6_185 ?_); (try clear hK K); intro K hK hc)
 refine (Ajr _ H).runs.mono ?_
 rintro _ A1 ⟨dv1, hv1, nv1, rfl, hs1, lA1⟩
 replace he := he.le lA1
 replace vb7 := lA1 _ _ vb7
 clear lA1
 (refine @unH _ (zU y6_185 ?_); intro _ _ hc)
 refine (By7 A1 Aje _ _ _ hs1 Ava 0).runs.mono ?_
 rintro _ A2 ⟨rfl, lA2⟩
 rw [ev4a]
 replace he := he.le lA2
 replace vb7 := lA2 _ _ vb7
 replace hs1 := hs1.le lA2
 clear lA2
 (refine @unH _ (zU y6_185 ?_); (try clear hK K); intro K hK hc)
 have he2 := fun o => he.put (o := o) vb7
 generalize hG : Hp.set A2 b7 _ = P3
 replace vb7 := Aqb hG
 replace he := hG ▸ he2 _
 clear hG he2
 refine (Ajr _ P3).runs.mono ?_
 rintro _ A3 ⟨dv2, hv2, nv2, rfl, hs2, lA3⟩
 replace he := he.le lA3
 replace vb7 := lA3 _ _ vb7
 clear lA3
 (refine @unH _ (zU y6_185 ?_); intro _ _ hc)
 refine (By7 A3 Aje _ _ _ hs2 Ava 2).runs.mono ?_
 rintro _ A4 ⟨rfl, lA4⟩
 rw [ev4b]
 replace he := he.le lA4
 replace vb7 := lA4 _ _ vb7
 replace hs2 := hs2.le lA4
 clear lA4
 (refine @unH _ (zU y6_185 ?_); (try clear hK K); intro K hK hc)
 refine (Ajr _ A4).runs.mono ?_
 rintro _ A5 ⟨dv3, hv3, nv3, rfl, hs3, lA5⟩
 replace he := he.le lA5
 replace vb7 := lA5 _ _ vb7
 clear lA5
 (refine @unH _ (zU y6_185 ?_); intro _ _ hc)
 refine (Bkk A5 Aje _ _ _ hs3 Ava 1 4).runs.mono ?_
 rintro _ A6 ⟨rfl, lA6⟩
 rw [ev4c]
 rw [ev4d]
 replace he := he.le lA6
 replace vb7 := lA6 _ _ vb7
 replace hs3 := hs3.le lA6
 clear lA6
 (refine @unH _ (zU y6_185 ?_); (try clear hK K); intro K hK hc)
 refine (Ajr _ A6).runs.mono ?_
 rintro _ A7 ⟨dv4, hv4, nv4, rfl, hs4, lA7⟩
 replace he := he.le lA7
 replace vb7 := lA7 _ _ vb7
 clear lA7
 (refine @unH _ (zU y6_185 ?_); intro _ _ hc)
 refine (Bkk A7 Aje _ _ _ hs4 Ava 3 3).runs.mono ?_
 rintro _ A8 ⟨rfl, lA8⟩
 rw [ev4e]
 rw [ev4f]
 replace he := he.le lA8
 replace vb7 := lA8 _ _ vb7
 replace hs4 := hs4.le lA8
 clear lA8
 (refine @unH _ (zU y6_185 ?_); (try clear hK K); intro K hK hc)
 refine (Ajr _ A8).runs.mono ?_
 rintro _ A9 ⟨dv5, hv5, nv5, rfl, hs5, lA9⟩
 replace he := he.le lA9
 replace vb7 := lA9 _ _ vb7
 clear lA9
 (refine @unH _ (zU y6_185 ?_); intro _ _ hc)
 refine (Bkk A9 Aje _ _ _ hs5 Ava 0 13).runs.mono ?_
 rintro _ A10 ⟨rfl, lA10⟩
 rw [ev4g]
 rw [ev4h]
 replace he := he.le lA10
 replace vb7 := lA10 _ _ vb7
 replace hs5 := hs5.le lA10
 clear lA10
 (refine @unH _ (zU y6_185 ?_); (try clear hK K); intro K hK hc)
 refine (Ajr _ A10).runs.mono ?_
 rintro _ A11 ⟨dv6, hv6, nv6, rfl, hs6, lA11⟩
 replace he := he.le lA11
 replace vb7 := lA11 _ _ vb7
 clear lA11
 (refine @unH _ (zU y6_185 ?_); intro _ _ hc)
 refine (sSurelyN_spec A11 Aje _ _ _ hs6 Ava 4).runs.mono ?_
 rintro _ A12 ⟨w6, rfl, hw6, lA12, -⟩
 rw [ev4i, if_pos rfl, ev4j] at hw6
 rw [ev4i]
 obtain ⟨a6, c6, rfl, -⟩ := id hw6
 replace he := he.le lA12
 replace vb7 := lA12 _ _ vb7
 replace hs6 := hs6.le lA12
 clear lA12
 (refine @unH _ (zU y6_185 ?_); (try clear hK K); intro K hK hc)
 refine (Ajr _ A12).runs.mono ?_
 rintro _ A13 ⟨dv7, hv7, nv7, rfl, hs7, lA13⟩
 replace he := he.le lA13
 replace vb7 := lA13 _ _ vb7
 replace hw6 := hw6.le lA13
 clear lA13
 (refine @unH _ (zU y6_185 ?_); intro _ _ hc)
 refine (sSurelyN_spec A13 Aje _ _ _ hs7 Ava 5).runs.mono ?_
 rintro _ A14 ⟨w7, rfl, hw7, lA14, -⟩
 rw [ev4k, if_pos rfl, ev4l] at hw7
 rw [ev4k]
 obtain ⟨a7, c7, rfl, -⟩ := id hw7
 replace he := he.le lA14
 replace vb7 := lA14 _ _ vb7
 replace hw6 := hw6.le lA14
 replace hs7 := hs7.le lA14
 clear lA14
 (refine @unH _ (zV y6_185 ?_); (try clear hK K); intro K hK hc)
 refine Bjl (fun e => e 7 = .pointer (some ⟨b7, 0, none⟩) /\ e 8 = .int .i64 0 /\ e 10 = .int .i64 3 /\ e 12 = .int .i64 0 /\ e 14 = .int .i64 0 /\ e 15 = .int .i64 1 /\ e 16 = .int .i64 1 /\ e 17 = .slice a6 1 c6 /\ e 18 = .int .i64 0 /\ e 20 = .int .i64 0 /\ e 21 = .int .i64 2 /\ e 22 = .slice a7 2 c7) ⟨e7, rfl, rfl, rfl, rfl, rfl, rfl, rfl, rfl, rfl, rfl, rfl⟩ ?_
 clear e7 e
 rintro e ⟨e7, e8, e10, e12, e14, e15, e16, e17, e18, e20, e21, e22⟩
 refine Cqn (fun a' H' => ∃ e, a' = act 370 e [] /\ e 7 = .pointer (some ⟨b7, 0, none⟩) /\ ErrS H' /\ H' b7 = some (true, .cells #[.int .i64 2, .int .i64 2] 34 (0, 0))) ?_ (fun a H' ⟨e, h1, h2, h3, h4⟩ => by
  rw [h1]
  exact kn5 H' h3 e b7 2 2 h4 h2)
 refine Bwn (fun HX => A14.le HX) [] (.free 0 (.free 1 (.free 2 (.free 3 (.free 4 (.free 5 (.free 6 (.free 7 (.free 8 (.free 9 (.free 10 (.free 11 (.free 12 (.free 13 (.free 14 (.free 15 (.free 16 (.free 17 (.free 18 (.free 19 (.free 20 (.free 21 (.free 22 (.free 23 (.free 24 (.free 25 (.free 26 (.take 27 (.one 28 (.free 29 (.free 30 (.free 31 (.free 32 (.free 33 (.free 34 (.free 35 (.free 36 (.free 37 (.free 38 (.free 39 (.free 40 (.one 41 (.one 42 (.free 43 (.free 44 (.free 45 (.free 46 (.one 47 (.one 48 (.free 49 (.free 50 .nil))))))))))))))))))))))))))))))))))))))))))))))))))) (by kernel_rfl) (by kernel_rfl) (by decide) (by kernel_rfl) ?_; intro K hK
 have hS0 : A14.le A14 := Hp.le_refl _
 refine Byy fun ops hOz => ?_
 (refine @unH _ ?_; refine zF (aN y6_185 (aN @Aqy @sbBandS)) ?_)
 (refine @unH _ ?_; refine zF (aN y6_185 (aN @Aqy @sbBandS)) ?_)
 (refine @unH _ ?_; refine zF (aN y6_185 (aN @Aqy @sbBandS)) ?_)
 (refine @unH _ ?_; refine zG (aN y6_185 (aN @Aqy @sbBandS)) ?_)
 (refine @unH _ ?_; refine zG (aN y6_185 (aN @Aqy @sbBandS)) ?_)
 (refine @unH _ ?_; refine zF (aN y6_185 (aN @Aqy @sbBandS)) ?_)
 (refine @unH _ ?_; refine zF (aN y6_185 (aN @Aqy @sbBandS)) ?_)
 (refine @unH _ ?_; refine zG (aN y6_185 (aN @Aqy @sbBandS)) ?_)
 (refine @unH _ ?_; refine zG (aN y6_185 (aN @Aqy @sbBandS)) ?_)
 (refine @unH _ ?_; refine zF (aN y6_185 (aN @Aqy @sbBandS)) ?_)
 (refine @unH _ ?_; refine zF (aN y6_185 (aN @Aqy @sbBandS)) ?_)
 (refine @unH _ ?_; refine zG (aN y6_185 (aN @Aqy @sbBandS)) ?_)
 (refine @unH _ ?_; refine zG (aN y6_185 (aN @Aqy @sbBandS)) ?_)
 (refine @unH _ ?_; refine zF (aN y6_185 (aN @Aqy @sbBandS)) ?_)
 (refine @unH _ ?_; refine zF (aN y6_185 (aN @Aqy @sbBandS)) ?_)
 (refine @unH _ ?_; refine zG (aN y6_185 (aN @Aqy @sbBandS)) ?_)
 (refine @unH _ ?_; refine zG (aN y6_185 (aN @Aqy @sbBandS)) ?_)
 (refine @unH _ ?_; refine zF (aN y6_185 (aN @Aqy @sbBandS)) ?_)
 (refine @unH _ ?_; refine zF (aN y6_185 (aN @Aqy @sbBandS)) ?_)
 (refine @unH _ ?_; refine zG (aN y6_185 (aN @Aqy @sbBandS)) ?_)
 (refine @unH _ ?_; refine zG (aN y6_185 (aN @Aqy @sbBandS)) ?_)
 (refine @unH _ ?_; refine zF (aN y6_185 (aN @Aqy @sbBandS)) ?_)
 (refine @unH _ ?_; refine zF (aN y6_185 (aN @Aqy @sbBandS)) ?_)
 (refine @unH _ ?_; refine zG (aN y6_185 (aN @Aqy @sbBandS)) ?_)
 (refine @unH _ ?_; refine zG (aN y6_185 (aN @Aqy @sbBandS)) ?_)
 (refine @unH _ ?_; refine zF (aN y6_185 (aN @Aqy @sbBandS)) ?_)
 (refine @unH _ ?_; refine zF (aN y6_185 (aN @Aqy @sbBandS)) ?_)
 (apply Awu hOz rfl rfl rfl rfl (by simp -implicitDefEqProofs (disch := omega) only [act_get?, Axg, Nat.reduceEqDiff, ↓reduceIte, beq_self_eq_true, Bool.and_self, *]) ‹_›; (focus (intro HX hHX; simp -implicitDefEqProofs (disch := first | omega | (simp only [qd] <;> omega)) only [xq, ↓xp, qc, Nat.reduceAdd, List.range, List.range.loop, fine, Nat.reduceEqDiff, ↓reduceIte, yielded, reduceCtorEq, Nat.reduceLT, Nat.reduceMul, Nat.reduceSub, one, Nat.reduceLeDiff, Aqj, y6_185, aq, ↓ap, qe0, qe1, qe2, *, -hK, Aq3, hHX _ _ vb7, Av7] <;> (first | exact rfl | exact ⟨rfl, rfl⟩ | exact ⟨rfl, trivial⟩))); simp -implicitDefEqProofs (disch := first | omega | (simp only [qd] <;> omega)) only [Aq0, Aqp])
 (refine @unH _ ?_; refine zN (aN y6_185 (aN @Aqy @sbBandS)) ?_)
 refine (Ay1 _ A14 2 2).runs.mono ?_
 rintro _ B1 ⟨rfl, lB1⟩
 have mB1 : A14.le B1 := lB1
 simp -implicitDefEqProofs (disch := omega) only [Ak0, Aq0, Aqp]
 refine ⟨.inr fun _ => (by first | trivial | exact mB1 | exact lB1), ?_⟩
 (refine @unH _ ?_; refine zG (aN y6_185 (aN @Aqy @sbBandS)) ?_)
 (refine @unH _ ?_; refine zF (aN y6_185 (aN @Aqy @sbBandS)) ?_)
 (refine @unH _ ?_; refine zF (aN y6_185 (aN @Aqy @sbBandS)) ?_)
 (refine @unH _ ?_; refine zG (aN y6_185 (aN @Aqy @sbBandS)) ?_)
 (refine @unH _ ?_; refine zG (aN y6_185 (aN @Aqy @sbBandS)) ?_)
 (refine @unH _ ?_; refine zF (aN y6_185 (aN @Aqy @sbBandS)) ?_)
 (refine @unH _ ?_; refine zF (aN y6_185 (aN @Aqy @sbBandS)) ?_)
 (refine @unH _ ?_; refine zG (aN y6_185 (aN @Aqy @sbBandS)) ?_)
 (refine @unH _ ?_; refine zG (aN y6_185 (aN @Aqy @sbBandS)) ?_)
 (refine @unH _ ?_; refine zF (aN y6_185 (aN @Aqy @sbBandS)) ?_)
 (refine @unH _ ?_; refine zF (aN y6_185 (aN @Aqy @sbBandS)) ?_)
 (refine @unH _ ?_; refine zG (aN y6_185 (aN @Aqy @sbBandS)) ?_)
 (refine @unH _ ?_; refine zN (aN y6_185 (aN @Aqy @sbBandS)) ?_)
 intro g41 hg41
 generalize hG : Hp.set B1 g41 _ = C1
 have lC1 := Aqc hG hg41
 have vg41 := Aqb hG
 clear hG
 have sl41 : SlI C1 (.slice (some ⟨g41, 0, none⟩) 1 1) [1] := Cxq (xs := [1]) vg41 rfl
 have mC1 : A14.le C1 := Hp.le_trans mB1 lC1
 refine ⟨.inr fun _ => (by first | trivial | exact mC1 | exact lC1), ?_⟩
 have sw41 : SlI C1 (.slice a6 1 c6) [1] := hw6.le mC1
 clear hg41 vg41
 (refine @unH _ ?_; refine zN (aN y6_185 (aN @Aqy @sbBandS)) ?_)
 refine (Ayd _ C1 _ _ [1] [1] sw41 sl41 (by decide) (by decide)).runs.mono ?_
 rintro _ HQ ⟨rfl, hHQ⟩
 rw [hHQ]
 clear hHQ HQ
 rw [decide_eq_true rfl]
 clear sl41 sw41
 simp -implicitDefEqProofs (disch := omega) only [Ak0, Aq0, Aqp]
 refine ⟨.inr fun _ => mC1, ?_⟩
 (refine @unH _ ?_; refine zG (aN y6_185 (aN @Aqy @sbBandS)) ?_)
 (refine @unH _ ?_; refine zF (aN y6_185 (aN @Aqy @sbBandS)) ?_)
 (refine @unH _ ?_; refine zF (aN y6_185 (aN @Aqy @sbBandS)) ?_)
 (refine @unH _ ?_; refine zG (aN y6_185 (aN @Aqy @sbBandS)) ?_)
 (refine @unH _ ?_; refine zN (aN y6_185 (aN @Aqy @sbBandS)) ?_)
 intro g47 hg47
 generalize hG : Hp.set C1 g47 _ = C3
 have lC3 := Aqc hG hg47
 have vg47 := Aqb hG
 clear hG
 have sl47 : SlI C3 (.slice (some ⟨g47, 0, none⟩) 2 2) [1, 2] := Cxq (xs := [1, 2]) vg47 rfl
 have mC3 : A14.le C3 := Hp.le_trans mC1 lC3
 refine ⟨.inr fun _ => (by first | trivial | exact mC3 | exact lC3), ?_⟩
 have sw47 : SlI C3 (.slice a7 2 c7) [1, 2] := hw7.le mC3
 clear hg47 vg47
 (refine @unH _ ?_; refine zN (aN y6_185 (aN @Aqy @sbBandS)) ?_)
 refine (Ayd _ C3 _ _ [1, 2] [1, 2] sw47 sl47 (by decide) (by decide)).runs.mono ?_
 rintro _ HQ ⟨rfl, hHQ⟩
 rw [hHQ]
 clear hHQ HQ
 rw [decide_eq_true rfl]
 clear sl47 sw47
 simp -implicitDefEqProofs (disch := omega) only [Ak0, Aq0, Aqp]
 refine ⟨.inr fun _ => mC3, ?_⟩
 (refine @unH _ ?_; refine zG (aN y6_185 (aN @Aqy @sbBandS)) ?_)
 (refine @unH _ ?_; refine zF (aN y6_185 (aN @Aqy @sbBandS)) ?_)
 (refine planZ_nil (hK _ _ ?_); clear hK K; (try simp only [nq, ↓reduceIte, Nat.reduceEqDiff]))
 (refine @unH _ (zA y6_185 ?_); (try clear hK K); intro K hK hc)
 exact ⟨_, rfl, e7, he.le mC3, mC3 _ _ vb7⟩
def y6_186 := aN @Cj0 (aN @Dw1 (aN @Dwr (aN @Dvo (aN @Dwa (aN @Dvq (aN @Dwb (aN @Dxk (aN @Bzo (aN @Cjz (aN @Dvn (aN @Dyi (aN @Dw9 (aN @Dwu (aN @Dvp (aN @Dk8 (aN @Dya (aN @Dwt (aN @Dk9 (aN @callF13 (aN @Bjx (aN @Dwj (aN @Dxl (aN @Dw3 (aN @Dws (aN @Dxm (aN @Dxf (aN @callF27 (aN @Dwk (aN @Dxi (aN @Dxh (aN @Dxj (aN @Dxe (aN @callF28 (aN @Ax1 (aN @Dxd (aN @callF11 (aN @Dxn (aN @Dxo (aN @Dyd (aN @callF19 (aN @callF17 @callF20)))))))))))))))))))))))))))))))))))))))))
def cutS : Sm := ⟨4, [⟨0, 1, 2, 3⟩, ⟨0, 3, 1, 2⟩], [0, 2], [⟨1, 4, true⟩, ⟨3, 3, false⟩]⟩
theorem cutS_ok : SmOk cutS := ⟨by decide, by decide, by decide, fun d hd => by
 simp only [cutS, List.mem_cons, List.not_mem_nil, or_false] at hd
 rcases hd with rfl | rfl <;> exact ⟨by decide, by decide, by decide, by decide, by decide, by decide, by decide, by decide⟩, by decide, by decide, by decide, by decide, by decide, fun n hn => by
 simp only [cutS, List.mem_cons, List.not_mem_nil, or_false] at hn
 rcases hn with rfl | rfl <;> exact ⟨by decide, by decide, by decide, by decide⟩⟩
theorem ev3a : reaE Aje 0 3 = (1, 2, 0) := by kernel_rfl
theorem ev3b : reaE Aje 0 0 = (0, 0, 0) := by kernel_rfl
theorem ev3c : reaE Aje 0 4 = (0, 0, 3) := by kernel_rfl
theorem ev3d : reaE cutS 0 2 = (0, 0, 11) := by kernel_rfl
theorem ev3e : Azh oddS = 0 := by kernel_rfl
theorem ev3f : Byt (Cyi (susp Aje)) = [0, 1] := by kernel_rfl
theorem kn3 (H : Hp) (he : ErrS H) (e : Nat -> Value) (n6 : Nat) (dv hv nv : Value) (vn6 : H n6 = some (true, smO 4 dv hv nv)) (hcut : SmIn H dv hv nv cutS) (e6 : e 6 = .pointer (some ⟨n6, 0, none⟩)) : wpX Tryz.prog (.wg Tryz.prog) none (dropS 5 (Tryz.f6.body.getD .skip)) (Bva Tryz.prog (.wg Tryz.prog) Tryz.f6 fun e _ => e = .returned (.bool true)) (act 370 e []) H := by
 show wpX _ _ _ (.seq (.region _ _ false) _) _ _ _
 (refine @unH _ (zA y6_186 ?_); (try clear hK K); intro K hK hc)
 refine (Ajr _ H).runs.mono ?_
 rintro _ A1 ⟨dv1, hv1, nv1, rfl, hs1, lA1⟩
 replace he := he.le lA1
 replace vn6 := lA1 _ _ vn6
 replace hcut := hcut.le lA1
 clear lA1
 (refine @unH _ (zU y6_186 ?_); intro _ _ hc)
 refine (By6 A1 Aje _ _ _ hs1 Ava 0 3 _).runs.mono ?_
 rintro _ A2 ⟨rfl, lA2⟩
 rw [ev3a]
 replace he := he.le lA2
 replace vn6 := lA2 _ _ vn6
 replace hcut := hcut.le lA2
 replace hs1 := hs1.le lA2
 clear lA2
 (refine @unH _ (zU y6_186 ?_); intro _ _ hc)
 (intro b7 hb7; generalize hG : Hp.set _ b7 _ = A3; have lA3 := Aqc hG hb7; have vb7 := Aqb hG; clear hG)
 replace he := he.le lA3
 replace vn6 := lA3 _ _ vn6
 replace hcut := hcut.le lA3
 clear lA3
 clear hb7
 (refine @unH _ (zU y6_186 ?_); (try clear hK K); intro K hK hc)
 refine (Ajr _ A3).runs.mono ?_
 rintro _ A4 ⟨dv2, hv2, nv2, rfl, hs2, lA4⟩
 replace he := he.le lA4
 replace vn6 := lA4 _ _ vn6
 replace hcut := hcut.le lA4
 replace vb7 := lA4 _ _ vb7
 clear lA4
 (refine @unH _ (zU y6_186 ?_); intro _ _ hc)
 refine (By6 A4 Aje _ _ _ hs2 Ava 0 0 _).runs.mono ?_
 rintro _ A5 ⟨rfl, lA5⟩
 rw [ev3b]
 replace he := he.le lA5
 replace vn6 := lA5 _ _ vn6
 replace hcut := hcut.le lA5
 replace vb7 := lA5 _ _ vb7
 replace hs2 := hs2.le lA5
 clear lA5
 (refine @unH _ (zU y6_186 ?_); intro _ _ hc)
 (intro b9 hb9; generalize hG : Hp.set _ b9 _ = A6; have lA6 := Aqc hG hb9; have vb9 := Aqb hG; clear hG)
 replace he := he.le lA6
 replace vn6 := lA6 _ _ vn6
 replace hcut := hcut.le lA6
 replace vb7 := lA6 _ _ vb7
 clear lA6
 clear hb9
 (refine @unH _ (zU y6_186 ?_); (try clear hK K); intro K hK hc)
 refine (Ajr _ A6).runs.mono ?_
 rintro _ A7 ⟨dv3, hv3, nv3, rfl, hs3, lA7⟩
 replace he := he.le lA7
 replace vn6 := lA7 _ _ vn6
 replace hcut := hcut.le lA7
 replace vb7 := lA7 _ _ vb7
 replace vb9 := lA7 _ _ vb9
 clear lA7
 (refine @unH _ (zU y6_186 ?_); intro _ _ hc)
 refine (By6 A7 Aje _ _ _ hs3 Ava 0 4 _).runs.mono ?_
 rintro _ A8 ⟨rfl, lA8⟩
 rw [ev3c]
 replace he := he.le lA8
 replace vn6 := lA8 _ _ vn6
 replace hcut := hcut.le lA8
 replace vb7 := lA8 _ _ vb7
 replace vb9 := lA8 _ _ vb9
 replace hs3 := hs3.le lA8
 clear lA8
 (refine @unH _ (zU y6_186 ?_); intro _ _ hc)
 (intro b11 hb11; generalize hG : Hp.set _ b11 _ = A9; have lA9 := Aqc hG hb11; have vb11 := Aqb hG; clear hG)
 replace he := he.le lA9
 replace vn6 := lA9 _ _ vn6
 replace hcut := hcut.le lA9
 replace vb7 := lA9 _ _ vb7
 replace vb9 := lA9 _ _ vb9
 clear lA9
 clear hb11
 (refine @unH _ (zU y6_186 ?_); (try clear hK K); intro K hK hc)
 refine (By6 A9 cutS _ _ _ hcut cutS_ok 0 2 _).runs.mono ?_
 rintro _ A10 ⟨rfl, lA10⟩
 rw [ev3d]
 replace he := he.le lA10
 replace vn6 := lA10 _ _ vn6
 replace hcut := hcut.le lA10
 replace vb7 := lA10 _ _ vb7
 replace vb9 := lA10 _ _ vb9
 replace vb11 := lA10 _ _ vb11
 clear lA10
 (refine @unH _ (zU y6_186 ?_); intro _ _ hc)
 (intro b13 hb13; generalize hG : Hp.set _ b13 _ = A11; have lA11 := Aqc hG hb13; have vb13 := Aqb hG; clear hG)
 replace he := he.le lA11
 replace vb7 := lA11 _ _ vb7
 replace vb9 := lA11 _ _ vb9
 replace vb11 := lA11 _ _ vb11
 clear lA11
 clear hb13
 (refine @unH _ (zU y6_186 ?_); (try clear hK K); intro K hK hc)
 refine (Cyy _ A11).runs.mono ?_
 rintro _ A12 ⟨dv5, hv5, nv5, rfl, hs5, lA12⟩
 replace he := he.le lA12
 replace vb7 := lA12 _ _ vb7
 replace vb9 := lA12 _ _ vb9
 replace vb11 := lA12 _ _ vb11
 replace vb13 := lA12 _ _ vb13
 clear lA12
 (refine @unH _ (zU y6_186 ?_); intro _ _ hc)
 refine (By2 A12 oddS _ _ _ hs5 Dzp).runs.mono ?_
 rintro _ A13 ⟨rfl, lA13⟩
 rw [ev3e]
 replace he := he.le lA13
 replace vb7 := lA13 _ _ vb7
 replace vb9 := lA13 _ _ vb9
 replace vb11 := lA13 _ _ vb11
 replace vb13 := lA13 _ _ vb13
 replace hs5 := hs5.le lA13
 clear lA13
 (refine @unH _ (zU y6_186 ?_); (try clear hK K); intro K hK hc)
 refine (Ajr _ A13).runs.mono ?_
 rintro _ A14 ⟨dv6, hv6, nv6, rfl, hs6, lA14⟩
 replace he := he.le lA14
 replace vb7 := lA14 _ _ vb7
 replace vb9 := lA14 _ _ vb9
 replace vb11 := lA14 _ _ vb11
 replace vb13 := lA14 _ _ vb13
 clear lA14
 (refine @unH _ (zU y6_186 ?_); intro _ _ hc)
 refine (sSuspects_spec A14 Aje _ _ _ hs6 Ava).runs.mono ?_
 rintro _ A15 ⟨w6, rfl, hw6, lA15⟩
 rw [Cwr, if_neg (by decide), ev3f] at hw6
 rw [Cwr, if_neg (by decide)]
 obtain ⟨a6, c6, rfl, -⟩ := id hw6
 replace he := he.le lA15
 replace vb7 := lA15 _ _ vb7
 replace vb9 := lA15 _ _ vb9
 replace vb11 := lA15 _ _ vb11
 replace vb13 := lA15 _ _ vb13
 replace hs6 := hs6.le lA15
 clear lA15
 (refine @unH _ (zU y6_186 ?_); (try clear hK K); intro K hK hc)
 refine (Cyy _ A15).runs.mono ?_
 rintro _ A16 ⟨dv7, hv7, nv7, rfl, hs7, lA16⟩
 replace he := he.le lA16
 replace vb7 := lA16 _ _ vb7
 replace vb9 := lA16 _ _ vb9
 replace vb11 := lA16 _ _ vb11
 replace vb13 := lA16 _ _ vb13
 replace hw6 := hw6.le lA16
 clear lA16
 (refine @unH _ (zU y6_186 ?_); intro _ _ hc)
 refine (sSuspects_spec A16 oddS _ _ _ hs7 Dzp).runs.mono ?_
 rintro _ A17 ⟨w7, rfl, hw7, lA17⟩
 rw [ev3e, if_pos rfl] at hw7
 rw [ev3e, if_pos rfl]
 obtain ⟨a7, c7, rfl, -⟩ := hw7
 replace he := he.le lA17
 replace vb7 := lA17 _ _ vb7
 replace vb9 := lA17 _ _ vb9
 replace vb11 := lA17 _ _ vb11
 replace vb13 := lA17 _ _ vb13
 replace hw6 := hw6.le lA17
 replace hs7 := hs7.le lA17
 clear lA17
 (refine @unH _ (zV y6_186 ?_); (try clear hK K); intro K hK hc)
 refine Bjl (fun e => e 7 = .pointer (some ⟨b7, 0, none⟩) /\ e 8 = .int .i64 0 /\ e 9 = .pointer (some ⟨b9, 0, none⟩) /\ e 10 = .int .i64 0 /\ e 12 = .int .i64 3 /\ e 14 = .int .i64 11 /\ e 15 = .int .i64 0 /\ e 16 = .int .i64 0 /\ e 17 = .slice a6 2 c6 /\ e 18 = .int .i64 0 /\ e 20 = .int .i64 11) ⟨rfl, rfl, rfl, rfl, rfl, rfl, rfl, rfl, rfl, rfl, rfl⟩ ?_
 clear e6 e
 rintro e ⟨e7, e8, e9, e10, e12, e14, e15, e16, e17, e18, e20⟩
 refine Cqn (fun a' H' => ∃ e, a' = act 370 e [] /\ e 7 = .pointer (some ⟨b7, 0, none⟩) /\ ErrS H' /\ H' b7 = some (true, .cells #[.int .i64 1, .int .i64 2] 34 (0, 0))) ?_ (fun a H' ⟨e, h1, h2, h3, h4⟩ => by
  rw [h1]
  exact kn4 H' h3 e b7 1 2 h4 h2)
 refine Bwn (fun HX => A17.le HX) [] (.free 0 (.free 1 (.free 2 (.free 3 (.free 4 (.free 5 (.free 6 (.free 7 (.free 8 (.free 9 (.free 10 (.free 11 (.free 12 (.free 13 (.free 14 (.free 15 (.free 16 (.free 17 (.free 18 (.free 19 (.free 20 (.free 21 (.free 22 (.free 23 (.free 24 (.free 25 (.free 26 (.take 27 (.one 28 (.free 29 (.free 30 (.free 31 (.take 32 (.one 33 (.free 34 (.free 35 (.free 36 (.free 37 (.free 38 (.free 39 (.free 40 (.free 41 (.one 42 (.one 43 (.free 44 (.free 45 .nil)))))))))))))))))))))))))))))))))))))))))))))) (by kernel_rfl) (by kernel_rfl) (by decide) (by kernel_rfl) ?_; intro K hK
 have hS0 : A17.le A17 := Hp.le_refl _
 refine Byy fun ops hOz => ?_
 (refine @unH _ ?_; refine zF (aN y6_186 (aN @Aqy @sbBandS)) ?_)
 (refine @unH _ ?_; refine zF (aN y6_186 (aN @Aqy @sbBandS)) ?_)
 (refine @unH _ ?_; refine zF (aN y6_186 (aN @Aqy @sbBandS)) ?_)
 (refine @unH _ ?_; refine zG (aN y6_186 (aN @Aqy @sbBandS)) ?_)
 (refine @unH _ ?_; refine zG (aN y6_186 (aN @Aqy @sbBandS)) ?_)
 (refine @unH _ ?_; refine zF (aN y6_186 (aN @Aqy @sbBandS)) ?_)
 (refine @unH _ ?_; refine zF (aN y6_186 (aN @Aqy @sbBandS)) ?_)
 (refine @unH _ ?_; refine zG (aN y6_186 (aN @Aqy @sbBandS)) ?_)
 (refine @unH _ ?_; refine zG (aN y6_186 (aN @Aqy @sbBandS)) ?_)
 (refine @unH _ ?_; refine zF (aN y6_186 (aN @Aqy @sbBandS)) ?_)
 (refine @unH _ ?_; refine zF (aN y6_186 (aN @Aqy @sbBandS)) ?_)
 (refine @unH _ ?_; refine zG (aN y6_186 (aN @Aqy @sbBandS)) ?_)
 (refine @unH _ ?_; refine zG (aN y6_186 (aN @Aqy @sbBandS)) ?_)
 (refine @unH _ ?_; refine zF (aN y6_186 (aN @Aqy @sbBandS)) ?_)
 (refine @unH _ ?_; refine zF (aN y6_186 (aN @Aqy @sbBandS)) ?_)
 (refine @unH _ ?_; refine zG (aN y6_186 (aN @Aqy @sbBandS)) ?_)
 (refine @unH _ ?_; refine zG (aN y6_186 (aN @Aqy @sbBandS)) ?_)
 (refine @unH _ ?_; refine zF (aN y6_186 (aN @Aqy @sbBandS)) ?_)
 (refine @unH _ ?_; refine zF (aN y6_186 (aN @Aqy @sbBandS)) ?_)
 (refine @unH _ ?_; refine zG (aN y6_186 (aN @Aqy @sbBandS)) ?_)
 (refine @unH _ ?_; refine zG (aN y6_186 (aN @Aqy @sbBandS)) ?_)
 (refine @unH _ ?_; refine zF (aN y6_186 (aN @Aqy @sbBandS)) ?_)
 (refine @unH _ ?_; refine zF (aN y6_186 (aN @Aqy @sbBandS)) ?_)
 (refine @unH _ ?_; refine zG (aN y6_186 (aN @Aqy @sbBandS)) ?_)
 (refine @unH _ ?_; refine zG (aN y6_186 (aN @Aqy @sbBandS)) ?_)
 (refine @unH _ ?_; refine zF (aN y6_186 (aN @Aqy @sbBandS)) ?_)
 (refine @unH _ ?_; refine zF (aN y6_186 (aN @Aqy @sbBandS)) ?_)
 (apply Awu hOz rfl rfl rfl rfl (by simp -implicitDefEqProofs (disch := omega) only [act_get?, Axg, Nat.reduceEqDiff, ↓reduceIte, beq_self_eq_true, Bool.and_self, *]) ‹_›; (focus (intro HX hHX; simp -implicitDefEqProofs (disch := first | omega | (simp only [qd] <;> omega)) only [xq, ↓xp, qc, Nat.reduceAdd, List.range, List.range.loop, fine, Nat.reduceEqDiff, ↓reduceIte, yielded, reduceCtorEq, Nat.reduceLT, Nat.reduceMul, Nat.reduceSub, one, Nat.reduceLeDiff, Aqj, y6_186, aq, ↓ap, qe0, qe1, qe2, *, -hK, Aq3, hHX _ _ vb7, Av7] <;> (first | exact rfl | exact ⟨rfl, rfl⟩ | exact ⟨rfl, trivial⟩))); simp -implicitDefEqProofs (disch := first | omega | (simp only [qd] <;> omega)) only [Aq0, Aqp])
 (refine @unH _ ?_; refine zN (aN y6_186 (aN @Aqy @sbBandS)) ?_)
 refine (Ay1 _ A17 1 2).runs.mono ?_
 rintro _ B1 ⟨rfl, lB1⟩
 have mB1 : A17.le B1 := lB1
 simp -implicitDefEqProofs (disch := omega) only [Ak0, Aq0, Aqp]
 refine ⟨.inr fun _ => (by first | trivial | exact mB1 | exact lB1), ?_⟩
 (refine @unH _ ?_; refine zG (aN y6_186 (aN @Aqy @sbBandS)) ?_)
 (refine @unH _ ?_; refine zF (aN y6_186 (aN @Aqy @sbBandS)) ?_)
 (refine @unH _ ?_; refine zF (aN y6_186 (aN @Aqy @sbBandS)) ?_)
 (apply Awu hOz rfl rfl rfl rfl (by simp -implicitDefEqProofs (disch := omega) only [act_get?, Axg, Nat.reduceEqDiff, ↓reduceIte, beq_self_eq_true, Bool.and_self, *]) ‹_›; (focus (intro HX hHX; simp -implicitDefEqProofs (disch := first | omega | (simp only [qd] <;> omega)) only [xq, ↓xp, qc, Nat.reduceAdd, List.range, List.range.loop, fine, Nat.reduceEqDiff, ↓reduceIte, yielded, reduceCtorEq, Nat.reduceLT, Nat.reduceMul, Nat.reduceSub, one, Nat.reduceLeDiff, Aqj, y6_186, aq, ↓ap, qe0, qe1, qe2, *, -hK, Aq3, hHX _ _ vb9, Av7] <;> (first | exact rfl | exact ⟨rfl, rfl⟩ | exact ⟨rfl, trivial⟩))); simp -implicitDefEqProofs (disch := first | omega | (simp only [qd] <;> omega)) only [Aq0, Aqp])
 (refine @unH _ ?_; refine zN (aN y6_186 (aN @Aqy @sbBandS)) ?_)
 refine (Ay1 _ B1 0 0).runs.mono ?_
 rintro _ B2 ⟨rfl, lB2⟩
 have mB2 : A17.le B2 := Hp.le_trans mB1 lB2
 simp -implicitDefEqProofs (disch := omega) only [Ak0, Aq0, Aqp]
 refine ⟨.inr fun _ => (by first | trivial | exact mB2 | exact lB2), ?_⟩
 (refine @unH _ ?_; refine zG (aN y6_186 (aN @Aqy @sbBandS)) ?_)
 (refine @unH _ ?_; refine zF (aN y6_186 (aN @Aqy @sbBandS)) ?_)
 (refine @unH _ ?_; refine zF (aN y6_186 (aN @Aqy @sbBandS)) ?_)
 (refine @unH _ ?_; refine zG (aN y6_186 (aN @Aqy @sbBandS)) ?_)
 (refine @unH _ ?_; refine zG (aN y6_186 (aN @Aqy @sbBandS)) ?_)
 (refine @unH _ ?_; refine zF (aN y6_186 (aN @Aqy @sbBandS)) ?_)
 (refine @unH _ ?_; refine zF (aN y6_186 (aN @Aqy @sbBandS)) ?_)
 (refine @unH _ ?_; refine zG (aN y6_186 (aN @Aqy @sbBandS)) ?_)
 (refine @unH _ ?_; refine zN (aN y6_186 (aN @Aqy @sbBandS)) ?_)
 intro g42 hg42
 generalize hG : Hp.set B2 g42 _ = C1
 have lC1 := Aqc hG hg42
 have vg42 := Aqb hG
 clear hG
 have sl42 : SlI C1 (.slice (some ⟨g42, 0, none⟩) 2 2) [0, 1] := Cxq (xs := [0, 1]) vg42 rfl
 have mC1 : A17.le C1 := Hp.le_trans mB2 lC1
 refine ⟨.inr fun _ => (by first | trivial | exact mC1 | exact lC1), ?_⟩
 have sw42 : SlI C1 (.slice a6 2 c6) [0, 1] := hw6.le mC1
 clear hg42 vg42
 (refine @unH _ ?_; refine zN (aN y6_186 (aN @Aqy @sbBandS)) ?_)
 refine (Ayd _ C1 _ _ [0, 1] [0, 1] sw42 sl42 (by decide) (by decide)).runs.mono ?_
 rintro _ HQ ⟨rfl, hHQ⟩
 rw [hHQ]
 clear hHQ HQ
 rw [decide_eq_true rfl]
 clear sl42 sw42
 simp -implicitDefEqProofs (disch := omega) only [Ak0, Aq0, Aqp]
 refine ⟨.inr fun _ => mC1, ?_⟩
 (refine @unH _ ?_; refine zG (aN y6_186 (aN @Aqy @sbBandS)) ?_)
 (refine @unH _ ?_; refine zF (aN y6_186 (aN @Aqy @sbBandS)) ?_)
 (refine planZ_nil (hK _ _ ?_); clear hK K; (try simp only [nq, ↓reduceIte, Nat.reduceEqDiff]))
 (refine @unH _ (zA y6_186 ?_); (try clear hK K); intro K hK hc)
 exact ⟨_, rfl, e7, he.le mC1, mC1 _ _ vb7⟩
def y6_187 := aN @Cj0 (aN @Dw1 (aN @Dwr (aN @Dvo (aN @Dwa (aN @Dvq (aN @Dwb (aN @Dxk (aN @Bzo (aN @Cjz (aN @Dvn (aN @Dyi (aN @Dw9 (aN @Dwu (aN @Dvp (aN @Dk8 (aN @Dya (aN @Dwt (aN @Dk9 (aN @callF13 (aN @Bjx (aN @Dwj (aN @Dxl (aN @Dw3 (aN @Dws (aN @Dxm (aN @Dxf (aN @callF27 (aN @Dwk (aN @Dxi (aN @Dxh (aN @Dxj (aN @Dxe (aN @callF28 (aN @Ax1 (aN @Dxd (aN @callF11 (aN @Dxn (aN @Dxo (aN @Dyd (aN @callF19 (aN @callF17 @callF20)))))))))))))))))))))))))))))))))))))))))
def noneS : Sm := ⟨0, [⟨0, 1, 2, 3⟩, ⟨1, 2, 1, 1⟩, ⟨0, 3, 1, 2⟩], [0, 2], [⟨1, 4, true⟩, ⟨3, 3, false⟩]⟩
def selfS : Sm := ⟨4, [⟨0, 0, 2, 3⟩, ⟨1, 2, 1, 1⟩, ⟨0, 3, 1, 2⟩], [0, 2], [⟨1, 4, true⟩, ⟨3, 3, false⟩]⟩
def slowS : Sm := ⟨4, [⟨0, 1, 2, 5⟩, ⟨1, 2, 1, 1⟩, ⟨0, 3, 1, 2⟩], [0, 2], [⟨1, 4, true⟩, ⟨3, 3, false⟩]⟩
def twiceS : Sm := ⟨4, [⟨0, 1, 2, 3⟩, ⟨1, 2, 1, 1⟩, ⟨0, 3, 1, 2⟩], [0, 0], [⟨1, 4, true⟩, ⟨3, 3, false⟩]⟩
def lateS : Sm := ⟨4, [⟨0, 1, 2, 3⟩, ⟨1, 2, 1, 1⟩, ⟨0, 3, 1, 2⟩], [0, 2], [⟨1, 13, true⟩, ⟨3, 3, false⟩]⟩
theorem ev2a : chkS noneS = 1 := by kernel_rfl
theorem ev2b : chkS selfS = 8 := by kernel_rfl
theorem ev2c : chkS slowS = 1 := by kernel_rfl
theorem ev2d : chkS twiceS = 4 := by kernel_rfl
theorem ev2e : chkS lateS = 1 := by kernel_rfl
theorem kn2 (H : Hp) (he : ErrS H) (e : Nat -> Value) (n1 : Nat) (dv1 hv1 nv1 : Value) (e1 : e 1 = .pointer (some ⟨n1, 0, none⟩)) (vn1 : H n1 = some (true, smO 0 dv1 hv1 nv1)) (hs1 : SmIn H dv1 hv1 nv1 noneS) (n2 : Nat) (dv2 hv2 nv2 : Value) (e2 : e 2 = .pointer (some ⟨n2, 0, none⟩)) (vn2 : H n2 = some (true, smO 4 dv2 hv2 nv2)) (hs2 : SmIn H dv2 hv2 nv2 selfS) (n3 : Nat) (dv3 hv3 nv3 : Value) (e3 : e 3 = .pointer (some ⟨n3, 0, none⟩)) (vn3 : H n3 = some (true, smO 4 dv3 hv3 nv3)) (hs3 : SmIn H dv3 hv3 nv3 slowS) (n4 : Nat) (dv4 hv4 nv4 : Value) (e4 : e 4 = .pointer (some ⟨n4, 0, none⟩)) (vn4 : H n4 = some (true, smO 4 dv4 hv4 nv4)) (hs4 : SmIn H dv4 hv4 nv4 twiceS) (n5 : Nat) (dv5 hv5 nv5 : Value) (e5 : e 5 = .pointer (some ⟨n5, 0, none⟩)) (vn5 : H n5 = some (true, smO 4 dv5 hv5 nv5)) (hs5 : SmIn H dv5 hv5 nv5 lateS) (n6 : Nat) (dv6 hv6 nv6 : Value) (e6 : e 6 = .pointer (some ⟨n6, 0, none⟩)) (vn6 : H n6 = some (true, smO 4 dv6 hv6 nv6)) (hs6 : SmIn H dv6 hv6 nv6 cutS) : wpX Tryz.prog (.wg Tryz.prog) none (dropS 4 (Tryz.f6.body.getD .skip)) (Bva Tryz.prog (.wg Tryz.prog) Tryz.f6 fun e _ => e = .returned (.bool true)) (act 370 e []) H := by
 obtain ⟨_, _, _, _, _, _, rfl, rfl, rfl, -, -, -⟩ := id hs1.forms
 obtain ⟨_, _, _, _, _, _, rfl, rfl, rfl, -, -, -⟩ := id hs2.forms
 obtain ⟨_, _, _, _, _, _, rfl, rfl, rfl, -, -, -⟩ := id hs3.forms
 obtain ⟨_, _, _, _, _, _, rfl, rfl, rfl, -, -, -⟩ := id hs4.forms
 obtain ⟨_, _, _, _, _, _, rfl, rfl, rfl, -, -, -⟩ := id hs5.forms
 obtain ⟨_, _, _, _, _, _, rfl, rfl, rfl, -, -, -⟩ := id hs6.forms
 show wpX _ _ _ (.seq (.seq (.region _ _ false) _) _) _ _ _
 refine Cqn (fun a' H' => ∃ e dv hv nv, a' = act 370 e [] /\ e 6 = .pointer (some ⟨n6, 0, none⟩) /\ ErrS H' /\ H' n6 = some (true, smO 4 dv hv nv) /\ SmIn H' dv hv nv cutS) ?_ (fun a H' ⟨e, dv, hv, nv, h1, h2, h3, h4, h5⟩ => by
  rw [h1]
  exact kn3 H' h3 e n6 dv hv nv h4 h5 h2)
 refine Axy (wpX_rz 32 (by rfl) ?_)
 intro K hK ops hOz
 (refine @unH _ ?_; refine zR y6_187 ?_)
 refine (smelled_spec H).runs.mono ?_
 rintro _ C0 ⟨rfl, lC0⟩
 replace he := he.le lC0
 replace vn1 := lC0 _ _ vn1
 replace hs1 := hs1.le lC0
 replace vn2 := lC0 _ _ vn2
 replace hs2 := hs2.le lC0
 replace vn3 := lC0 _ _ vn3
 replace hs3 := hs3.le lC0
 replace vn4 := lC0 _ _ vn4
 replace hs4 := hs4.le lC0
 replace vn5 := lC0 _ _ vn5
 replace hs5 := hs5.le lC0
 replace vn6 := lC0 _ _ vn6
 replace hs6 := hs6.le lC0
 clear lC0
 simp -implicitDefEqProofs (disch := omega) only [Ak0, Aq0, Aqp]
 (refine @unH _ ?_; refine zR y6_187 ?_)
 (refine @unH _ ?_; refine zR y6_187 ?_)
 (refine @unH _ ?_; refine zR y6_187 ?_)
 refine (Ajr _ C0).runs.mono ?_
 rintro _ C3 ⟨dv0, hv0, nv0, rfl, hs0, lC3⟩
 replace he := he.le lC3
 replace vn1 := lC3 _ _ vn1
 replace hs1 := hs1.le lC3
 replace vn2 := lC3 _ _ vn2
 replace hs2 := hs2.le lC3
 replace vn3 := lC3 _ _ vn3
 replace hs3 := hs3.le lC3
 replace vn4 := lC3 _ _ vn4
 replace hs4 := hs4.le lC3
 replace vn5 := lC3 _ _ vn5
 replace hs5 := hs5.le lC3
 replace vn6 := lC3 _ _ vn6
 replace hs6 := hs6.le lC3
 clear lC3
 simp -implicitDefEqProofs (disch := omega) only [Ak0, Aq0, Aqp]
 (refine @unH _ ?_; refine zR y6_187 ?_)
 refine (Ak8 _ C3 Aje _ _ _ hs0 Ava).runs.mono ?_
 rintro _ C4 ⟨rfl, lC4⟩
 clear hs0
 replace he := he.le lC4
 replace vn1 := lC4 _ _ vn1
 replace hs1 := hs1.le lC4
 replace vn2 := lC4 _ _ vn2
 replace hs2 := hs2.le lC4
 replace vn3 := lC4 _ _ vn3
 replace hs3 := hs3.le lC4
 replace vn4 := lC4 _ _ vn4
 replace hs4 := hs4.le lC4
 replace vn5 := lC4 _ _ vn5
 replace hs5 := hs5.le lC4
 replace vn6 := lC4 _ _ vn6
 replace hs6 := hs6.le lC4
 clear lC4
 simp -implicitDefEqProofs (disch := omega) only [Ak0, Aq0, Aqp]
 (refine @unH _ ?_; refine zR y6_187 ?_)
 (refine @unH _ ?_; refine zR y6_187 ?_)
 (refine @unH _ ?_; refine zR y6_187 ?_)
 (refine @unH _ ?_; refine zR y6_187 ?_)
 (refine @unH _ ?_; refine zR y6_187 ?_)
 refine (smCheck_raw _ C4 noneS _ _ _ hs1 he (by decide) (by decide) (by decide)).runs.mono ?_
 rintro _ C9 ⟨rfl, lC9⟩
 rw [ev2a]
 clear vn1 hs1
 replace he := he.le lC9
 replace vn2 := lC9 _ _ vn2
 replace hs2 := hs2.le lC9
 replace vn3 := lC9 _ _ vn3
 replace hs3 := hs3.le lC9
 replace vn4 := lC9 _ _ vn4
 replace hs4 := hs4.le lC9
 replace vn5 := lC9 _ _ vn5
 replace hs5 := hs5.le lC9
 replace vn6 := lC9 _ _ vn6
 replace hs6 := hs6.le lC9
 clear lC9
 simp -implicitDefEqProofs (disch := omega) only [Ak0, Aq0, Aqp]
 (refine @unH _ ?_; refine zR y6_187 ?_)
 (refine @unH _ ?_; refine zR y6_187 ?_)
 (refine @unH _ ?_; refine zR y6_187 ?_)
 (refine @unH _ ?_; refine zR y6_187 ?_)
 (refine @unH _ ?_; refine zR y6_187 ?_)
 refine (smCheck_raw _ C9 selfS _ _ _ hs2 he (by decide) (by decide) (by decide)).runs.mono ?_
 rintro _ C14 ⟨rfl, lC14⟩
 rw [ev2b]
 clear vn2 hs2
 replace he := he.le lC14
 replace vn3 := lC14 _ _ vn3
 replace hs3 := hs3.le lC14
 replace vn4 := lC14 _ _ vn4
 replace hs4 := hs4.le lC14
 replace vn5 := lC14 _ _ vn5
 replace hs5 := hs5.le lC14
 replace vn6 := lC14 _ _ vn6
 replace hs6 := hs6.le lC14
 clear lC14
 simp -implicitDefEqProofs (disch := omega) only [Ak0, Aq0, Aqp]
 (refine @unH _ ?_; refine zR y6_187 ?_)
 (refine @unH _ ?_; refine zR y6_187 ?_)
 (refine @unH _ ?_; refine zR y6_187 ?_)
 (refine @unH _ ?_; refine zR y6_187 ?_)
 (refine @unH _ ?_; refine zR y6_187 ?_)
 refine (smCheck_raw _ C14 slowS _ _ _ hs3 he (by decide) (by decide) (by decide)).runs.mono ?_
 rintro _ C19 ⟨rfl, lC19⟩
 rw [ev2c]
 clear vn3 hs3
 replace he := he.le lC19
 replace vn4 := lC19 _ _ vn4
 replace hs4 := hs4.le lC19
 replace vn5 := lC19 _ _ vn5
 replace hs5 := hs5.le lC19
 replace vn6 := lC19 _ _ vn6
 replace hs6 := hs6.le lC19
 clear lC19
 simp -implicitDefEqProofs (disch := omega) only [Ak0, Aq0, Aqp]
 (refine @unH _ ?_; refine zR y6_187 ?_)
 (refine @unH _ ?_; refine zR y6_187 ?_)
 (refine @unH _ ?_; refine zR y6_187 ?_)
 (refine @unH _ ?_; refine zR y6_187 ?_)
 (refine @unH _ ?_; refine zR y6_187 ?_)
 refine (smCheck_raw _ C19 twiceS _ _ _ hs4 he (by decide) (by decide) (by decide)).runs.mono ?_
 rintro _ C24 ⟨rfl, lC24⟩
 rw [ev2d]
 clear vn4 hs4
 replace he := he.le lC24
 replace vn5 := lC24 _ _ vn5
 replace hs5 := hs5.le lC24
 replace vn6 := lC24 _ _ vn6
 replace hs6 := hs6.le lC24
 clear lC24
 simp -implicitDefEqProofs (disch := omega) only [Ak0, Aq0, Aqp]
 (refine @unH _ ?_; refine zR y6_187 ?_)
 (refine @unH _ ?_; refine zR y6_187 ?_)
 (refine @unH _ ?_; refine zR y6_187 ?_)
 (refine @unH _ ?_; refine zR y6_187 ?_)
 (refine @unH _ ?_; refine zR y6_187 ?_)
 refine (smCheck_raw _ C24 lateS _ _ _ hs5 he (by decide) (by decide) (by decide)).runs.mono ?_
 rintro _ C29 ⟨rfl, lC29⟩
 rw [ev2e]
 clear vn5 hs5
 replace he := he.le lC29
 replace vn6 := lC29 _ _ vn6
 replace hs6 := hs6.le lC29
 clear lC29
 simp -implicitDefEqProofs (disch := omega) only [Ak0, Aq0, Aqp]
 (refine @unH _ ?_; refine zR y6_187 ?_)
 (refine @unH _ ?_; refine zR y6_187 ?_)
 (refine RZ_nil ?_; refine hK _ _ ?_; clear hK K; (try simp only [nq, ↓reduceIte, Nat.reduceEqDiff]))
 (refine @unH _ (zA y6_187 ?_); (try clear hK K); intro K hK hc)
 exact ⟨_, _, _, _, rfl, e6, he, vn6, hs6⟩
end Go.Proofs.YtnfnaehonkbknaaGreatDoor
end
