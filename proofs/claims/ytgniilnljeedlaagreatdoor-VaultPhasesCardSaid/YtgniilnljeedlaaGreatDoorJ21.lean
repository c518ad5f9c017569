/- Texts VOver VNums VFew VRule VPhase LawVP. -/
import Derived.Test.YtgniilnljeedlaaGreatDoorJ20
set_option linter.defProp false
set_option linter.unusedSimpArgs false
set_option linter.unusedVariables false
set_option maxRecDepth 100000
set_option maxHeartbeats 2000000
section
namespace Go.Proofs.YtgniilnljeedlaaGreatDoor
open Go Go.X
def Axr := And.intro (fun H => Aq0 (H := H) (P := Tryz.prog) (h := Tryz.zeroValue120)) (And.intro (fun H => Aqg (H := H) Tryz.underlying25 (i := 3) rfl (off := 3) rfl Tryz.sizeOf23) (And.intro (fun H => Aqd (H := H) Tryz.underlying23 rfl) (And.intro (fun H => Aq4 (H := H) Tryz.underlying23) (And.intro (fun H => Aqg (H := H) Tryz.underlying124 (i := 0) rfl (off := 0) rfl Tryz.sizeOf122) (And.intro (fun H => Aqd (H := H) Tryz.underlying122 rfl) (And.intro (fun H => Aqv (H := H) Tryz.underlying25 rfl Tryz.sizeOf25) (And.intro @Bz3 (And.intro @Axq (And.intro (fun H => Aqv (H := H) Tryz.underlying120 rfl Tryz.sizeOf120) (And.intro (fun H => Aq3 (H := H) Tryz.sizeOf120) (And.intro @Bz9 (And.intro (fun H => Bji (H := H) Tryz.underlying166 Tryz.typeInfo120 (by decide)) (And.intro (fun H => Aq0 (H := H) (P := Tryz.prog) (h := Tryz.zeroValue166)) (And.intro (fun H => Bzb (H := H) Tryz.sizeOf166) (And.intro (fun H => Aq0 (H := H) (P := Tryz.prog) (h := Tryz.zeroValue174)) (And.intro (fun H => Aqq (H := H) Tryz.underlying23 Tryz.sizeOf22) (And.intro (fun H => Aqd (H := H) Tryz.underlying22 rfl) (And.intro (fun H => Aq4 (H := H) Tryz.underlying22) (And.intro (fun H => Aqq (H := H) Tryz.underlying22 Tryz.sizeOf3) (And.intro (fun H => Aqd (H := H) Tryz.underlying3 rfl) (And.intro (fun H => Aq0 (H := H) (P := Tryz.prog) (h := Tryz.zeroValue3)) (And.intro (fun H => Axk (H := H) Tryz.sizeOf3) (And.intro (fun H => Aqd (H := H) Tryz.underlying166 rfl) (And.intro (fun H => Aqg (H := H) Tryz.underlying120 (i := 0) rfl (off := 0) rfl Tryz.sizeOf3) (And.intro (fun H => Aqg (H := H) Tryz.underlying120 (i := 1) rfl (off := 1) rfl Tryz.sizeOf3) @Ajh)))))))))))))))))))))))))
open Go.Conc (G baseD rcase scase)
theorem SlR.cl {H H' : Hp} {w : Value} {xss : List (List Int)} (hw : SlR H w xss) (hl : Aj5 H H') : SlR H' w xss := by
 obtain ⟨a, cap, h1, h2, h3⟩ := hw
 refine ⟨a, cap, h1, h2, fun i x hx => ?_⟩
 obtain ⟨b, o, p, c, fr, u, h4, h5, h6, h7⟩ := h3 i x hx
 obtain ⟨p', h8⟩ := hl _ _ _ _ _ h5
 exact ⟨b, o, p', c, fr, u, h4, h8, h6, h7.cl hl⟩
theorem Bq5 (H : Hp) (places pieces : Int) (sv cv : Value) (start : List Int) (xss : List (List Int)) (mv : Value) (F : List Int -> Int)
  (hst : SlI H sv start) (hcs : SlR H cv xss) (hok : Aje places pieces start xss) (hl8 : xss.length <= 8) (hmv : Bwf H mv places start F) :
  FnX Tryz.prog (.wg Tryz.prog) 97 #[.agg #[.int .i64 places, .int .i64 pieces, sv, cv], .agg #[mv]] H fun e H' => e = .returned (bdV (bdT F (Aqz xss))) /\ H.le H' := by
 obtain ⟨sa, sn, sc, rfl⟩ := hst.isSlice
 obtain ⟨ca, cc, rfl, hcc, _⟩ := id hcs
 refine Aqk Tryz.func97 rfl Tryz.ntmps97 (by simp) ?_
 (refine @unH _ ?_; refine zA Axr ?_; (repeat (refine inC ?_; intro hc)); try (refine inK ?_; intro K hK))
 intro vx hvx mx hmx ob hob
 replace hmx : (Hp.set H vx (.cells #[.int .i64 places, .int .i64 pieces, .slice sa sn sc, .slice ca xss.length cc] 25 (0, 0))) mx = none := hmx
 replace hob : (Hp.set (Hp.set H vx (.cells #[.int .i64 places, .int .i64 pieces, .slice sa sn sc, .slice ca xss.length cc] 25 (0, 0))) mx (.cells #[mv] 124 (0, 0))) ob = none := hob
 generalize hG : Hp.set H vx _ = H1 at hmx hob ⊢
 have lH1 := Aqh hG hvx
 have vvx := Aqf hG
 clear hG
 generalize hG : Hp.set H1 mx _ = H2 at hob ⊢
 have lH2 := Aqh hG hmx
 have vmx := Aqf hG
 clear hG
 generalize hG : Hp.set H2 ob _ = H3
 have lH3 := Aqh hG hob
 have vob := Aqf hG
 clear hG
 have l13 := Hp.le_trans lH2 lH3
 have l03 := Hp.le_trans lH1 l13
 have vvx3 := l13 _ _ vvx
 have vmx3 := lH3 _ _ vmx
 have h0ob : H ob = none := Hp.le_none (Hp.le_trans lH1 lH2) hob
 have hst3 := hst.le l03
 have hcs3 := hcs.le l03
 have hmv3 := hmv.le (Aj5.of l03)
 clear vvx vmx lH1 lH2 lH3 l13 hvx hmx hob
 ((try (refine @unH _ ?_; refine zX Axr ?_)); (try (refine hK _ _ ?_; clear hK K; (try simp only [nq, ↓reduceIte, Nat.reduceEqDiff]))); refine @unH _ ?_; refine zA Axr ?_; (repeat (refine inC ?_; intro hc)); try (refine inK ?_; intro K hK))
 (intro bb hbb; generalize hG : Hp.set _ bb _ = H4; have lH4 := Aqh hG hbb; have vbb := Aqf hG; clear hG)
 have l04 := Hp.le_trans l03 lH4
 have vvx4 := lH4 _ _ vvx3
 have vmx4 := lH4 _ _ vmx3
 have vob4 := lH4 _ _ vob
 have h0bb : H bb = none := Hp.le_none l03 hbb
 have nbo : bb ≠ ob := (Ax8 vob hbb).symm
 have hst4 := hst3.le lH4
 have hcs4 := hcs3.le lH4
 have hmv4 := hmv3.le (Aj5.of lH4)
 clear vvx3 vmx3 vob l03 lH4 hst3 hcs3 hmv3 hbb
 replace hmv : Aqy _ := hmv
 replace hmv4 : Aqy _ := hmv4
 by_cases hz : (xss.length : Int) = 0
 ·((try (refine @unH _ ?_; refine zX Axr ?_)); (try (refine hK _ _ ?_; clear hK K; (try simp only [nq, ↓reduceIte, Nat.reduceEqDiff]))); refine @unH _ ?_; refine zA Axr ?_; (repeat (refine inC ?_; intro hc)); try (refine inK ?_; intro K hK))
  obtain rfl : xss = [] := List.eq_nil_of_length_eq_zero (by omega)
  refine Aj0 (fun HX => H4.le HX) [5, 6, 7] (.free 0 (.free 1 (.take 2 (.take 3 (.one 4 (.one 5 (.one 6 (.one 7 .nil)))))))) (by kernel_rfl) (by kernel_rfl) (by decide) (by kernel_rfl) ?_; intro K hK
  have hle0 : H4.le H4 := Hp.le_refl _
  (apply Ax4 rfl rfl rfl; (focus (intro HX; simp -implicitDefEqProofs (disch := first | omega | (simp only [qd] <;> omega)) only [xq, ↓xp, qc, Nat.reduceAdd, List.range, List.range.loop, fine, Nat.reduceEqDiff, ↓reduceIte, yielded, reduceCtorEq, Nat.reduceLT, Nat.reduceMul, Nat.reduceSub, one, Nat.reduceLeDiff, Aqa, Axr, aq, ↓ap, qe0, qe1, qe2, *, -hK, Aq1] <;> (first | exact rfl | exact ⟨rfl, rfl⟩ | exact ⟨rfl, trivial⟩))); simp -implicitDefEqProofs (disch := first | omega | (simp only [qd] <;> omega)) only [Aqn, Aqc])
  (apply Ax4 rfl rfl rfl; (focus (intro HX; simp -implicitDefEqProofs (disch := first | omega | (simp only [qd] <;> omega)) only [xq, ↓xp, qc, Nat.reduceAdd, List.range, List.range.loop, fine, Nat.reduceEqDiff, ↓reduceIte, yielded, reduceCtorEq, Nat.reduceLT, Nat.reduceMul, Nat.reduceSub, one, Nat.reduceLeDiff, Aqa, Axr, aq, ↓ap, qe0, qe1, qe2, *, -hK, Aq1] <;> (first | exact rfl | exact ⟨rfl, rfl⟩ | exact ⟨rfl, trivial⟩))); simp -implicitDefEqProofs (disch := first | omega | (simp only [qd] <;> omega)) only [Aqn, Aqc])
  (apply Axa rfl rfl rfl ‹_›; (focus (intro HX hHX; simp -implicitDefEqProofs (disch := first | omega | (simp only [qd] <;> omega)) only [xq, ↓xp, qc, Nat.reduceAdd, List.range, List.range.loop, fine, Nat.reduceEqDiff, ↓reduceIte, yielded, reduceCtorEq, Nat.reduceLT, Nat.reduceMul, Nat.reduceSub, one, Nat.reduceLeDiff, Aqa, Axr, aq, ↓ap, qe0, qe1, qe2, *, -hK, Aq1, hHX _ _ vmx4] <;> (first | exact rfl | exact ⟨rfl, rfl⟩ | exact ⟨rfl, trivial⟩))); simp -implicitDefEqProofs (disch := first | omega | (simp only [qd] <;> omega)) only [Aqn, Aqc])
  (apply Axa rfl rfl rfl ‹_›; (focus (intro HX hHX; simp -implicitDefEqProofs (disch := first | omega | (simp only [qd] <;> omega)) only [xq, ↓xp, qc, Nat.reduceAdd, List.range, List.range.loop, fine, Nat.reduceEqDiff, ↓reduceIte, yielded, reduceCtorEq, Nat.reduceLT, Nat.reduceMul, Nat.reduceSub, one, Nat.reduceLeDiff, Aqa, Axr, aq, ↓ap, qe0, qe1, qe2, *, -hK, Aq1, hHX _ _ vvx4] <;> (first | exact rfl | exact ⟨rfl, rfl⟩ | exact ⟨rfl, trivial⟩))); simp -implicitDefEqProofs (disch := first | omega | (simp only [qd] <;> omega)) only [Aqn, Aqc])
  refine Axf ?_
  (refine @unH _ ?_; refine zX Axr ?_)
  refine (Ayr _ H4 places pieces _ _ _ _ _ _ _ _ _).runs.mono ?_
  rintro _ Hc ⟨db, mb, rfl, lHc, ndm, hdb, hmb, vdb, vmb2⟩
  (refine @unH _ ?_; refine zX Axr ?_)
  refine ⟨.inr (by intro _; first | exact lHc | trivial), Axf ?_⟩
  (refine @unH _ ?_; refine zX Axr ?_)
  have hnil : SlI Hc (.slice none 0 0) [] := ⟨none, 0, rfl, Nat.le_refl _, fun i x h => by simp at h⟩
  refine Bj8.use ((show Bwf H4 mv places start F from hmv4) _ H4 (fun b p c t fr h => ⟨p, h⟩) Hc pieces _ _ _ [] db mb lHc ⟨vdb, vmb2, ndm, hst4.le lHc, hnil⟩ ⟨by simp, fun t h => by simp at h⟩) ?_
  rintro _ Hd ⟨rfl, lHd⟩
  have l0d : Aqy (H.le Hd) := fun b x hx => lHd.keeps (lHc _ _ (l04 _ _ hx)) fun e => by rw [e] at hx; have := l04 _ _ hx; rw [hmb] at this; cases this
  have vbd := lHd.keeps (lHc _ _ vbb) fun e => by rw [e, hmb] at vbb; cases vbb
  have vod := lHd.keeps (lHc _ _ vob4) fun e => by rw [e, hmb] at vob4; cases vob4
  have hres : Aqy (bdT F (Aqz []) = ⟨F [], F [], true⟩) := rfl
  clear lHd lHc vdb vmb2 hdb hmb ndm hnil
  generalize F [] = fx at *
  (refine @unH _ ?_; refine zX Axr ?_)
  refine ⟨.inl (by decide), Axf ?_⟩
  (refine @unH _ ?_; refine zX Axr ?_)
  (intro g2 hg2; generalize hG : Hp.set _ g2 _ = He; have lHe := Aqh hG hg2; have vg2 := Aqf hG; clear hG)
  have vbe := lHe _ _ vbd
  have voe := lHe _ _ vod
  have l0e : Aqy (H.le He) := Hp.le_trans (show H.le Hd from l0d) lHe
  have hsl : SlI He (.slice (some ⟨g2, 0, none⟩) 1 1) [fx] := ⟨_, _, rfl, by simp, fun i y hi => by
   obtain rfl : i = 0 := by have := (List.getElem?_eq_some_iff.1 hi).1; simpa using this
   simp at hi; subst hi
   exact ⟨g2, 0, _, _, _, rfl, vg2, by simp⟩⟩
  clear l0d vbd vod lHe vg2 hg2
  refine ⟨.inl (by decide), Axf ?_⟩
  (refine @unH _ ?_; refine zX Axr ?_)
  rw [Bk8, Ax9]
  simp only [Array.append_empty, List.append_toArray, List.cons_append, List.nil_append]
  refine (Bkz _ He bb bd0 _ [fx] hsl vbe (by simp)).runs.mono ?_
  rintro _ Hf ⟨rfl, vbf, hoth⟩
  have vof := (hoth ob nbo.symm).trans voe
  have l0f : Aqy (H.le Hf) := fun b x hx => (hoth b fun e => by rw [e, h0bb] at hx; cases hx).trans ((show H.le He from l0e) _ _ hx)
  replace vbf : Hf bb = some (true, .cells #[.int .i64 fx, .int .i64 fx, .bool true] 120 (0, 0)) := vbf
  clear hoth hsl vbe voe l0e hle0 vbb vob4 vmx4 vvx4
  (refine @unH _ ?_; refine zX Axr ?_)
  refine ⟨.inl (by decide), Ajv (hK _ _ ?_)⟩
  clear hK K
  (try simp only [nq, ↓reduceIte, Nat.reduceEqDiff])
  (refine @unH _ ?_; refine zA Axr ?_; (repeat (refine inC ?_; intro hc)); try (refine inK ?_; intro K hK))
  (refine Ax7 ?_; (try simp only [nq, ↓reduceIte, Nat.reduceEqDiff]); rw [Axt, Az6 Tryz.results97 (by decide) (b := ob) (o := 0) rfl Tryz.underlying120 rfl Tryz.sizeOf120]; simp -implicitDefEqProofs (disch := first | omega | (simp only [qd] <;> omega)) only [xq, ↓xp, qc, Nat.reduceAdd, List.range, List.range.loop, fine, Nat.reduceEqDiff, ↓reduceIte, yielded, reduceCtorEq, Nat.reduceLT, Nat.reduceMul, Nat.reduceSub, one, Nat.reduceLeDiff, Aqa, Axr, Aji])
  refine ⟨by rw [show bdT F (Aqz []) = _ from hres]; rfl, fun b x hx => ?_⟩
  rw [Aqp (fun e => by rw [e, h0ob] at hx; cases hx)]
  exact (show H.le Hf from l0f) _ _ hx
 ·((try (refine @unH _ ?_; refine zX Axr ?_)); (try (refine hK _ _ ?_; clear hK K; (try simp only [nq, ↓reduceIte, Nat.reduceEqDiff]))); refine @unH _ ?_; refine zA Axr ?_; (repeat (refine inC ?_; intro hc)); try (refine inK ?_; intro K hK))
  intro c hc0 tb htb
  replace htb : (Hp.set H4 c _) tb = none := htb
  generalize hG : Hp.set H4 c _ = H5 at htb ⊢
  have lH5 := Aqh hG hc0
  have vc5 := Aqf hG
  clear hG
  ((try (refine @unH _ ?_; refine zX (And.intro Axr @cells_chan) ?_)); (try (refine hK _ _ ?_; clear hK K; (try simp only [nq, ↓reduceIte, Nat.reduceEqDiff]))); refine @unH _ ?_; refine zA (And.intro Axr @cells_chan) ?_; (repeat (refine inC ?_; intro hc)); try (refine inK ?_; intro K hK))
  intro wg hwg
  replace hwg : (Hp.set H5 tb (.cells #[.chan (some c)] 166 (0, 0))) wg = none := hwg
  generalize hG : Hp.set H5 tb _ = H6 at hwg ⊢
  have lH6 := Aqh hG htb
  have vtb6 := Aqf hG
  clear hG
  have vc6 := lH6 _ _ vc5
  have nct : c ≠ tb := Ax8 vc5 htb
  have l46 := Hp.le_trans lH5 lH6
  have h4c := hc0
  have h4tb : H4 tb = none := Hp.le_none lH5 htb
  clear lH5 lH6 vc5 hc0 htb
  generalize hG : Hp.set H6 wg _ = H8
  have lH8 := Aqh hG hwg
  have vwg := Aqf hG
  clear hG
  have vwg8 : H8 wg = some (true, wgO lk.tWg 0 0) := vwg
  have h6wg := hwg
  have vc8 := lH8 _ _ vc6
  have vtb8 := lH8 _ _ vtb6
  have l48 := Hp.le_trans l46 lH8
  have l08 := Hp.le_trans l04 l48
  have ncw : c ≠ wg := Ax8 vc6 hwg
  have ntw : tb ≠ wg := Ax8 vtb6 hwg
  have n4 : ∀ b x, H4 b = some x -> b ≠ c /\ b ≠ tb /\ b ≠ wg := fun b x hx => ⟨Ax8 hx h4c, Ax8 hx h4tb, Ax8 (l46 _ _ hx) hwg⟩
  have vbb8 := l48 _ _ vbb
  have vob8 := l48 _ _ vob4
  have vvx8 := l48 _ _ vvx4
  have vmx8 := l48 _ _ vmx4
  obtain ⟨nbc, nbt, nbw⟩ := n4 _ _ vbb
  obtain ⟨nvc, nvt, nvw⟩ := n4 _ _ vvx4
  obtain ⟨nmc, nmt, nmw⟩ := n4 _ _ vmx4
  obtain ⟨noc, not, now⟩ := n4 _ _ vob4
  have n0 : ∀ b x, H b = some x -> b ≠ c /\ b ≠ wg /\ b ≠ bb := fun b x hx => ⟨(n4 _ _ (l04 _ _ hx)).1, (n4 _ _ (l04 _ _ hx)).2.2, fun e => by rw [e, h0bb] at hx; cases hx⟩
  have nvb : vx ≠ bb := fun e => by rw [e, vbb] at vvx4; simp at vvx4
  have nmb : mx ≠ bb := fun e => by rw [e, vbb] at vmx4; simp at vmx4
  have ntb : tb ≠ bb := Ne.symm nbt
  clear vwg lH8 hwg vc6 vtb6 l46 vbb vob4 vvx4 vmx4 hst4 hcs4 hmv4 n4 h4c h4tb l48 hc
  refine hK _ _ ?_
  clear hK K
  (try simp only [nq, ↓reduceIte, Nat.reduceEqDiff])
  refine By2 ?_
  refine Cka (fun e => e 2 = .pointer (some ⟨vx, 0, none⟩) /\ e 3 = .pointer (some ⟨mx, 0, none⟩) /\ e 4 = .pointer (some ⟨ob, 0, none⟩) /\ e 5 = .pointer (some ⟨bb, 0, none⟩) /\ e 6 = .func (.func 122) #[.pointer (some ⟨bb, 0, none⟩)] #[] /\ e 7 = .pointer (some ⟨tb, 0, none⟩) /\ e 8 = .pointer (some ⟨wg, 0, none⟩)) ⟨rfl, rfl, rfl, rfl, rfl, rfl, rfl⟩ ?_
  rintro e ⟨e2, e3, e4, e5, e6, e7, e8⟩
  refine Dzz (fun b => ∃ o, H8 b = some (true, o)) vc8 vwg8 (fun _ h => h) ?_
  have hdel : ∀ b, b ≠ c -> b ≠ wg -> ((H8.del c).del wg) b = H8 b := fun b hb hb2 => by unfold Hp.del; rw [if_neg hb2, if_neg hb]
  have lB : ∀ b p o, ((H8.del c).del wg) b = some (p, o) -> H8 b = some (p, o) := fun b p o h => by
   unfold Hp.del at h
   split at h
   ·cases h
   ·split at h
    ·cases h
    ·exact h
  have hBle : H.le ((H8.del c).del wg) := fun x u hx => by rw [hdel x (n0 _ _ hx).1 (n0 _ _ hx).2.1]; exact l08 _ _ hx
  have vbbB := (hdel bb nbc nbw).trans vbb8
  have vobB := (hdel ob noc now).trans vob8
  have vvxB := (hdel vx nvc nvw).trans vvx8
  have vmxB := (hdel mx nmc nmw).trans vmx8
  have vtbB := (hdel tb nct.symm ntw).trans vtb8
  generalize (H8.del c).del wg = B at *
  clear vbb8 vvx8 vmx8 vtb8 vc8 vwg8 hdel
  have hCB : (B.del bb).leS B := fun b p o h => by
   unfold Hp.del at h
   split at h
   ·cases h
   ·exact ⟨p, h, id⟩
  have hdel : ∀ b x, b ≠ bb -> B b = some x -> (B.del bb) b = some x := fun b x hb h => by
   unfold Hp.del
   rw [if_neg hb]
   exact h
  have hCle : H.le (B.del bb) := fun x u hx => hdel _ _ (n0 _ _ hx).2.2 (hBle _ _ hx)
  have hCB8 : ∀ b p o, (B.del bb) b = some (p, o) -> H8 b = some (p, o) := fun b p o h => by
   unfold Hp.del at h
   split at h
   ·cases h
   ·exact lB _ _ _ h
  have vobC := hdel _ _ nbo.symm vobB
  have vvxC := hdel _ _ nvb vvxB
  have vmxC := hdel _ _ nmb vmxB
  have vtbC := hdel _ _ ntb vtbB
  have hCbb : (B.del bb) bb = none := Hp.del_same _ _
  generalize B.del bb = C at *
  clear hdel lB vobB vmxB vtbB
  obtain ⟨l, hx0⟩ : ∃ l, xss[0]? = some l := ⟨_, List.getElem?_eq_getElem (by omega)⟩
  obtain ⟨kb, ko, kp, kx, kfr, kw, rfl, hkb0, hkx, hrow0⟩ := SlR.get hcs hx0
  have hkx' : kx[ko + (0 : Int).toNat]? = some kw := by simpa using hkx
  obtain ⟨ra, rc, rfl, hrc, _⟩ := id hrow0
  have hkb := hBle _ _ hkb0
  have hl6 : l.length <= 6 := by
   have h1 := (hok.2.2.2.2.2.2.2 l (List.mem_of_getElem? hx0)).len
   have h2 := hok.2.2.2.1
   omega
  have hrowC := hrow0.le hCle
  have hne : ∀ l ∈ xss, l ≠ [] := fun l hl => (hok.2.2.2.2.2.2.2 l hl).1
  clear hkb0 hrow0
  refine Ajz (Ajz (Bqm ?_))
  (refine @unH _ ?_; refine zA Axr ?_; (repeat (refine inC ?_; intro hc)); try (refine inK ?_; intro K hK))
  obtain ⟨f, hf⟩ : ∃ f : Int -> Bd, f = fun p => bdT F ((Aqz (xss.drop 1)).map (p :: ·)) := ⟨_, rfl⟩
  replace hf : Aqy _ := hf
  refine Bj2 (Czj (fun w γ a' H' => ∃ e i, w = l.length - i /\ i <= l.length /\ γ = .busy c wg lk.tWg i 0 ((l.take i).reverse.map fun p => bdV (f p)) false (fun b => ∃ o, H8 b = some (true, o)) /\ a' = act 52 e [] /\
   e 2 = .pointer (some ⟨vx, 0, none⟩) /\ e 3 = .pointer (some ⟨mx, 0, none⟩) /\ e 4 = .pointer (some ⟨ob, 0, none⟩) /\ e 5 = .pointer (some ⟨bb, 0, none⟩) /\ e 6 = .func (.func 122) #[.pointer (some ⟨bb, 0, none⟩)] #[] /\ e 7 = .pointer (some ⟨tb, 0, none⟩) /\ e 8 = .pointer (some ⟨wg, 0, none⟩) /\
   e 30 = .slice ra l.length rc /\ e 31 = .int .i64 l.length /\ e 32 = .int .i64 (i : Nat) /\ C.leS H' /\ H' bb = some (true, bdO bd0)) (n := l.length) ?_ ?_)
  ·exact ⟨_, 0, by omega, by omega, rfl, rfl, e2, e3, e4, e5, e6, e7, e8, rfl, rfl, rfl, hCB, vbbB⟩
  ·have hcs0 := hcs
   replace hcs0 : SlR H _ xss := hcs0
   clear e2 e3 e4 e5 e6 e7 e8 hkb hkx hkx' hcs
   rename_i eold
   clear eold
   rintro w γ a' H9 ⟨e, i, rfl, hi, rfl, rfl, e2, e3, e4, e5, e6, e7, e8, e30, e31, e32, lS9, vbb9⟩
   refine Ajz (Bqm ?_)
   (refine @unH _ ?_; refine zA Axr ?_; (repeat (refine inC ?_; intro hc)); try (refine inK ?_; intro K hK))
   refine Ajz (Bj3 (by simp only [Aqm, Aqr, Nat.reduceEqDiff, Nat.reduceLT, ↓reduceIte, *]; rfl) ?_ ?_) <;> intro hc
   ·have hlt : i < l.length := by simpa using hc
    refine Czk ?_
    (try simp only [nq, ↓reduceIte, Nat.reduceEqDiff])
    obtain ⟨b6, o6, p6, c6, fr6, rfl, hb6, hc6⟩ := SlI.get hrowC (List.getElem?_eq_getElem hlt)
    have hpi := List.getElem?_eq_getElem hlt
    have hpl : l[i] ∈ l := List.getElem_mem hlt
    have htk : (l.take (i + 1)).reverse = l[i] :: (l.take i).reverse := by rw [List.take_add_one, hpi]; simp
    generalize l[i] = p at *
    obtain ⟨p6', hb6', _⟩ := lS9 _ _ _ hb6
    have hc6' : c6[o6 + (i : Int).toNat * 1]? = some (.int .i64 p) := by simpa using hc6
    replace hpi : Aqy _ := hpi
    replace htk : Aqy _ := htk
    refine Ajz (Bj2 (Ajz (Bqm ?_)))
    (refine @unH _ ?_; refine zA Axr ?_; (repeat (refine inC ?_; intro hc)); try (refine inK ?_; intro K hK))
    intro pb hpb
    have npb : bb ≠ pb := Ax8 vbb9 hpb
    ((try (refine @unH _ ?_; refine zX Axr ?_)); (try (refine hK _ _ ?_; clear hK K; (try simp only [nq, ↓reduceIte, Nat.reduceEqDiff]))); refine @unH _ ?_; refine zA Axr ?_; (repeat (refine inC ?_; intro hc)); try (refine inK ?_; intro K hK))
    obtain ⟨H10, hG⟩ : ∃ H10, H10 = H9.set pb (.cells #[.int .i64 p] 3 (0, 0)) := ⟨_, rfl⟩
    rw [<- hG]
    have vpb := Aqf hG.symm
    have vbb10 := Aze hG.symm vbb9 npb
    have lS10 : C.leS H10 := by rw [hG]; exact lS9.set (Bvp lS9 hpb)
    clear hG lS9 vbb9 hpb hb6 hb6' hc6 hc6'
    refine Ajz (Av3 (Dqg wgLib rfl rfl rfl (by rw [Aqm (by decide)]; exact e8) rfl (by omega) (Bvy ?_)))
    show wpV _ _ _ _ ((act 52 _ []).put (some 36) _) _
    rw [Aqn (by decide)]
    have hcl : Aj5 H (H10.hand bb) := fun b p c t fr hb => by
     obtain ⟨p', h1, _⟩ := lS10 _ _ _ (hCle _ _ hb)
     exact ⟨false, Hp.hand_some h1 (n0 _ _ hb).2.2⟩
    have hfix : ∀ b p c t fr, C b = some (p, .cells c t fr) -> b ≠ bb -> (H10.hand bb) b = some (false, .cells c t fr) := fun b p c t fr hb hn => by
     obtain ⟨p', h1, _⟩ := lS10 _ _ _ hb
     exact Hp.hand_some h1 hn
    have hch := Cxd (H10.hand bb) c wg tb vx pb mx places pieces _ _ start xss p mv F (hfix _ _ _ _ _ vvxC nvb) (Hp.hand_some vpb npb.symm) (hfix _ _ _ _ _ vmxC nmb) (hfix _ _ _ _ _ vtbC ntb) (SlI.cl hst hcl) (SlR.cl hcs0 hcl) hok hl8 (by omega) (fun l hl => Nat.le_trans ((hok.2.2.2.2.2.2.2 l hl).len) (by have := hok.2.2.2.1; omega)) (fun l' h' => by rw [hx0] at h'; cases h'; exact hpl) ((show Bwf H mv places start F from hmv) _ _ hcl)
    refine Av3 (Bw9 rfl rfl (Bzs (K := fun a' H' => ∃ e', a' = act 52 e' [] /\ H10 = H' /\ e' 37 = .func (.func 124) #[] #[.pointer (some ⟨wg, 0, none⟩), .pointer (some ⟨vx, 0, none⟩), .pointer (some ⟨pb, 0, none⟩), .pointer (some ⟨mx, 0, none⟩), .pointer (some ⟨tb, 0, none⟩)] /\
     e' 2 = .pointer (some ⟨vx, 0, none⟩) /\ e' 3 = .pointer (some ⟨mx, 0, none⟩) /\ e' 4 = .pointer (some ⟨ob, 0, none⟩) /\ e' 5 = .pointer (some ⟨bb, 0, none⟩) /\ e' 6 = .func (.func 122) #[.pointer (some ⟨bb, 0, none⟩)] #[] /\ e' 7 = .pointer (some ⟨tb, 0, none⟩) /\ e' 8 = .pointer (some ⟨wg, 0, none⟩) /\
     e' 30 = .slice (some ⟨b6, o6, none⟩) l.length rc /\ e' 31 = .int .i64 l.length /\ e' 32 = .int .i64 (i : Nat)) ?_ ?_))
    ·unfold opX
     change wpS _ (execOp _ ⟨some 37, .makeFunc (.func 124) #[] #[.tmp 8, .tmp 2, .tmp 10, .tmp 3, .tmp 7], _, _, _, _⟩) _ _ _
     rw [Bqe]
     refine ⟨_, Aqn (by decide), rfl, ?_, e2, e3, e4, e5, e6, e7, e8, e30, e31, e32⟩
     simp only [Aqr, ↓reduceIte, List.map_toArray, List.map_cons, List.map_nil, Aqm, Nat.reduceLT, Nat.reduceEqDiff, e7, e2, e3, e8]
    ·clear e2 e3 e4 e5 e6 e7 e8 e30 e31 e32
     rintro _ _ ⟨e', rfl, rfl, e37, e2, e3, e4, e5, e6, e7, e8, e30, e31, e32⟩
     refine Dzp rfl rfl (fun w hw => Cvl (by rw [Aqm (by decide)]; exact e37) w) rfl Hp.hand_lend Hp.lend_own hch (Bvy ?_)
     show blk 1 _ .normal (act 52 e' []) _
     (try simp only [nq, ↓reduceIte, Nat.reduceEqDiff])
     refine Bqm ?_
     have hle10 := lS10.trans (Hp.lend_leS (eb := bb))
     have vbbL : (H10.lend bb) bb = _ := Hp.lend_at.trans vbb10
     generalize H10.lend bb = H11 at *
     clear hch hfix hcl vpb vbb10 lS10
     (refine @unH _ ?_; refine zA Axr ?_; (repeat (refine inC ?_; intro hc)); try (refine inK ?_; intro K hK))
     refine ⟨_, by omega, _, i + 1, rfl, hlt, ?_, rfl, e2, e3, e4, e5, e6, e7, e8, e30, e31, rfl, hle10, vbbL⟩
     rw [show (l.take (i + 1)).reverse = _ from htk, List.map_cons, show f p = _ from congrFun (show f = _ from hf) p]
   ·have hge : ¬ i < l.length := by simpa using hc
    obtain rfl : i = l.length := by omega
    refine Czi ?_
    (try simp only [nq, ↓reduceIte, Nat.reduceEqDiff])
    rw [List.take_length]
    have hxs : xss = l :: xss.drop 1 := by
     cases xss with
     | nil => simp at hx0
     | cons a t => simp at hx0; subst hx0; rfl
    refine Cv6 H H8 C H9 c wg tb ob bb l f _ (bdT F (Aqz xss)) e4 e5 e6 e7 e8 lS9 vbb9 hCle l08 vtbC vobC vob8 hl6 ntb nbo.symm h0ob h0bb hCbb (fun Rp hR => ?_)
    rw [show f = _ from hf, Czx F l (xss.drop 1) (hne _ (List.mem_of_getElem? hx0)) (fun l' hl' => hne _ (List.mem_of_mem_drop hl')) Rp hR, <- hxs]
end Go.Proofs.YtgniilnljeedlaaGreatDoor
end
section
namespace Go.Proofs.YtgniilnljeedlaaGreatDoor
open Go Go.X
def Bv9 := And.intro (fun H st => Ajf (H := H) (st := st) Tryz.underlying142 rfl Tryz.zeroValue142) (And.intro (fun H st => Ajf (H := H) (st := st) Tryz.underlying143 rfl Tryz.zeroValue143) (fun H st => Ajf (H := H) (st := st) Tryz.underlying144 rfl Tryz.zeroValue144))
structure Akv (H : Hp) (places pieces : Int) (sv cv : Value) (start : List Int) (xss : List (List Int)) : Prop where
 st : SlI H sv start
 calls : SlR H cv xss
 ok : Aje places pieces start xss
 few : xss.length <= 8
theorem Akv.le {H H' : Hp} {places pieces : Int} {sv cv : Value} {start : List Int} {xss : List (List Int)} (h : Akv H places pieces sv cv start xss) (hl : H.le H') : Akv H' places pieces sv cv start xss :=
 ⟨h.st.le hl, h.calls.le hl, h.ok, h.few⟩
theorem Akv.stA {H : Hp} {places pieces : Int} {sv cv : Value} {start : List Int} {xss : List (List Int)} (h : Akv H places pieces sv cv start xss) : StA start :=
 ⟨by have h1 := h.ok.2.2.2.2.1; have h2 := h.ok.2.1; omega, fun x hx => by have h1 := h.ok.2.2.2.2.2.2.1 x hx; have h2 := h.ok.2.2.2.1; omega⟩
theorem Czv (H : Hp) (r : Int) (hr0 : 0 <= r) (hr3 : r <= 3) (st : TypeId) (K : Value -> Hp -> Prop) (E : Value -> Hp -> Prop) : wpS Tryz.prog (Instr.typeAssert (Ajo r) st 142 true) H K E = K (.tuple #[.agg #[], .bool (decide (r = 0))]) H := by
 unfold Ajo
 rw [Ajf Tryz.underlying142 rfl Tryz.zeroValue142]
 have hcase : r = 0 ∨ r = 1 ∨ r = 2 ∨ r = 3 := by omega
 rcases hcase with rfl | rfl | rfl | rfl <;> rfl
theorem Czw (H : Hp) (r : Int) (hr0 : 0 <= r) (hr3 : r <= 3) (st : TypeId) (K : Value -> Hp -> Prop) (E : Value -> Hp -> Prop) : wpS Tryz.prog (Instr.typeAssert (Ajo r) st 143 true) H K E = K (.tuple #[.agg #[], .bool (decide (r = 1))]) H := by
 unfold Ajo
 rw [Ajf Tryz.underlying143 rfl Tryz.zeroValue143]
 have hcase : r = 0 ∨ r = 1 ∨ r = 2 ∨ r = 3 := by omega
 rcases hcase with rfl | rfl | rfl | rfl <;> rfl
theorem Bwj (H : Hp) (r : Int) (hr0 : 0 <= r) (hr3 : r <= 3) (st : TypeId) (K : Value -> Hp -> Prop) (E : Value -> Hp -> Prop) : wpS Tryz.prog (Instr.typeAssert (Ajo r) st 144 true) H K E = K (.tuple #[.agg #[], .bool (decide (r = 2))]) H := by
 unfold Ajo
 rw [Ajf Tryz.underlying144 rfl Tryz.zeroValue144]
 have hcase : r = 0 ∨ r = 1 ∨ r = 2 ∨ r = 3 := by omega
 rcases hcase with rfl | rfl | rfl | rfl <;> rfl
theorem Cz3 (main : Md) (H : Hp) (r : Int) (hr0 : 0 <= r) (hr3 : r <= 3) :
  FnX Tryz.prog main 102 #[Ajo r] H fun e H' => e = .returned (.bool (decide (r < 3))) /\ H' = H := by
 refine Aqk Tryz.func102 rfl Tryz.ntmps102 (by simp) ?_
 have ha0 := fun H st K E => Czv H r hr0 hr3 st K E
 have ha1 := fun H st K E => Czw H r hr0 hr3 st K E
 have ha2 := fun H st K E => Bwj H r hr0 hr3 st K E
 have hcase : r = 0 ∨ r = 1 ∨ r = 2 ∨ r = 3 := by omega
 (refine @unH _ ?_; refine zA Bv9 ?_; (repeat (refine inC ?_; intro hc)); try (refine inK ?_; intro K hK))
 have hvv : (if decide (r = 0) = true then Value.bool true else if decide (r = 1) = true then Value.bool true else Value.bool (decide (r = 2))) = .bool (decide (r < 3)) := by
  rcases hcase with rfl | rfl | rfl | rfl <;> rfl
 rw [hvv]
 clear ha0 ha1 ha2 hcase hvv
 by_cases hr : r < 3
 ·rw [decide_eq_true hr]
  (refine @unH _ ?_; refine zA Bv9 ?_; (repeat (refine inC ?_; intro hc)); try (refine inK ?_; intro K hK))
  (refine @unH _ ?_; refine z9 Tryz.results102 ?_)
  exact ⟨by first | rfl | trivial, by first | rfl | trivial⟩
 ·rw [decide_eq_false hr]
  (refine @unH _ ?_; refine zA Bv9 ?_; (repeat (refine inC ?_; intro hc)); try (refine inK ?_; intro K hK))
  (refine @unH _ ?_; refine z9 Tryz.results102 ?_)
  exact ⟨by first | rfl | trivial, by first | rfl | trivial⟩
def Akm := And.intro (fun H => Aq0 (H := H) (P := Tryz.prog) (h := Tryz.zeroValue61)) (And.intro (fun H => Aqv (H := H) Tryz.underlying25 rfl Tryz.sizeOf25) (And.intro @Bk9 (And.intro @Ckm (And.intro (fun H => Aq3 (H := H) Tryz.sizeOf61) (And.intro @Ckw (And.intro @Cqe (And.intro (fun H => Aq0 (H := H) (P := Tryz.prog) (h := Tryz.zeroValue120)) (And.intro (fun H => Aq3 (H := H) Tryz.sizeOf120) (And.intro (fun H => Aqg (H := H) Tryz.underlying120 (i := 0) rfl (off := 0) rfl Tryz.sizeOf3) (And.intro (fun H => Aqd (H := H) Tryz.underlying3 rfl) (And.intro (fun H => Aqg (H := H) Tryz.underlying120 (i := 1) rfl (off := 1) rfl Tryz.sizeOf3) @Bx5)))))))))))
def Bxe := And.intro (fun H => Aqv (H := H) Tryz.underlying25 rfl Tryz.sizeOf25) (And.intro @Bz0 (And.intro @Bz1 (And.intro @Cqe (fun H => Cvf (H := H) Tryz.underlying120 (i := 1) rfl (off := 1) rfl Tryz.underlying3 rfl))))
theorem Bys (H : Hp) (places pieces : Int) (sv cv : Value) (start : List Int) (xss : List (List Int)) (hv : Akv H places pieces sv cv start xss) :
  FnX Tryz.prog (.wg Tryz.prog) 52 #[.agg #[.int .i64 places, .int .i64 pieces, sv, cv]] H fun e H' => e = .returned (.tuple #[.agg #[.int .i64 (bdT (fewF places start) (Aqz xss)).lo, .int .i64 (bdT (fewF places start) (Aqz xss)).hi], .int .i64 0]) /\ H.le H' := by
 obtain ⟨sa, sn, sc, rfl⟩ := hv.st.isSlice
 obtain ⟨ca, cc, rfl, hcc, _⟩ := id hv.calls
 refine Aqk Tryz.func52 rfl Tryz.ntmps52 (by simp) ?_
 (refine @unH _ ?_; refine zA Akm ?_; (repeat (refine inC ?_; intro hc)); try (refine inK ?_; intro K hK))
 intro vb hvb ob hob
 replace hob : (Hp.set H vb (.cells #[.int .i64 places, .int .i64 pieces, .slice sa sn sc, .slice ca xss.length cc] 25 (0, 0))) ob = none := hob
 generalize hG : Hp.set H vb _ = H1 at hob ⊢
 have lH1 := Aqh hG hvb
 have vvb := Aqf hG
 clear hG
 generalize hG : Hp.set H1 ob _ = H2
 have lH2 := Aqh hG hob
 have vob := Aqf hG
 clear hG
 have l02 := Hp.le_trans lH1 lH2
 have vvb2 := lH2 _ _ vvb
 have h0ob : H ob = none := Hp.le_none lH1 hob
 have hv2 := hv.le l02
 clear vvb hvb hob lH1 lH2
 ((try (refine @unH _ ?_; refine zX Akm ?_)); (try (refine hK _ _ ?_; clear hK K; (try simp only [nq, ↓reduceIte, Nat.reduceEqDiff]))); refine @unH _ ?_; refine zA Akm ?_; (repeat (refine inC ?_; intro hc)); try (refine inK ?_; intro K hK))
 refine (Ayj _ H2 places pieces _ _ start xss hv2.st hv2.calls hv2.ok hv2.few).runs.mono ?_
 rintro _ H3 ⟨rfl, lH3⟩
 have hv3 := hv2.le lH3
 have vvb3 := lH3 _ _ vvb2
 have vob3 := lH3 _ _ vob
 have l03 := Hp.le_trans l02 lH3
 clear vvb2 vob lH3 hv2 l02
 ((try (refine @unH _ ?_; refine zX Akm ?_)); (try (refine hK _ _ ?_; clear hK K; (try simp only [nq, ↓reduceIte, Nat.reduceEqDiff]))); refine @unH _ ?_; refine zA Akm ?_; (repeat (refine inC ?_; intro hc)); try (refine inK ?_; intro K hK))
 have hov := fun HX (hX : H3.le HX) => Azo (Bq5 HX places pieces _ _ start xss _ _ (hv3.le hX).st (hv3.le hX).calls hv.ok hv.few (Awa HX places start hv.stA))
 have hfw := fun HX => Azo (Ayg (.wg Tryz.prog) HX)
 replace hov : Aqy _ := hov
 replace hfw : Aqy _ := hfw
 generalize bdT (fewF places start) (Aqz xss) = B at *
 obtain ⟨blo, bhi, bsm⟩ := B
 simp only [bdV] at hov
 refine Aj0 (fun HX => H3.le HX) [4] (.take 0 (.take 1 (.take 2 (.one 3 (.one 4 .nil))))) (by kernel_rfl) (by kernel_rfl) (by decide) (by kernel_rfl) ?_; intro K hK
 have hle0 : H3.le H3 := Hp.le_refl _
 (apply Axa rfl rfl rfl ‹_›; (focus (intro HX hHX; simp -implicitDefEqProofs (disch := first | omega | (simp only [qd] <;> omega)) only [xq, ↓xp, qc, Nat.reduceAdd, List.range, List.range.loop, fine, Nat.reduceEqDiff, ↓reduceIte, yielded, reduceCtorEq, Nat.reduceLT, Nat.reduceMul, Nat.reduceSub, one, Nat.reduceLeDiff, Aqa, Akm, aq, ↓ap, qe0, qe1, qe2, *, -hK, Aq1, hHX _ _ vvb3] <;> (first | exact rfl | exact ⟨rfl, rfl⟩ | exact ⟨rfl, trivial⟩))); simp -implicitDefEqProofs (disch := first | omega | (simp only [qd] <;> omega)) only [Aqn, Aqc])
 (apply Axa rfl rfl rfl ‹_›; (focus (intro HX hHX; simp -implicitDefEqProofs (disch := first | omega | (simp only [qd] <;> omega)) only [xq, ↓xp, qc, Nat.reduceAdd, List.range, List.range.loop, fine, Nat.reduceEqDiff, ↓reduceIte, yielded, reduceCtorEq, Nat.reduceLT, Nat.reduceMul, Nat.reduceSub, one, Nat.reduceLeDiff, Aqa, Akm, aq, ↓ap, qe0, qe1, qe2, *, -hK, Azj]; exact hfw HX)); simp -implicitDefEqProofs (disch := first | omega | (simp only [qd] <;> omega)) only [Aqn, Aqc])
 (apply Axa rfl rfl rfl ‹_›; (focus (intro HX hHX; simp -implicitDefEqProofs (disch := first | omega | (simp only [qd] <;> omega)) only [xq, ↓xp, qc, Nat.reduceAdd, List.range, List.range.loop, fine, Nat.reduceEqDiff, ↓reduceIte, yielded, reduceCtorEq, Nat.reduceLT, Nat.reduceMul, Nat.reduceSub, one, Nat.reduceLeDiff, Aqa, Akm, aq, ↓ap, qe0, qe1, qe2, *, -hK, Azj]; exact hov HX hHX)); simp -implicitDefEqProofs (disch := first | omega | (simp only [qd] <;> omega)) only [Aqn, Aqc])
 refine Axf ?_
 (refine @unH _ ?_; refine zX Akm ?_)
 intro bb hbb
 have nbo : ob ≠ bb := Ax8 vob3 hbb
 refine ⟨.inr fun _ => Hp.le_set hbb, ?_⟩
 have vbb : (H3.set bb (.cells #[.int .i64 0, .int .i64 0, .bool false] 120 (0, 0))) bb = _ := Aqw
 refine Axf ?_
 (refine @unH _ ?_; refine zX Akm ?_)
 refine ⟨.inl (by decide), ?_⟩
 clear vbb hle0
 refine Ajv (hK _ _ ?_)
 clear hK K
 (try simp only [nq, ↓reduceIte, Nat.reduceEqDiff])
 have l34 := Hp.le_set (o := .cells #[.int .i64 blo, .int .i64 bhi, .bool bsm] 120 (0, 0)) hbb
 have vbb4 : (H3.set bb (.cells #[.int .i64 blo, .int .i64 bhi, .bool bsm] 120 (0, 0))) bb = _ := Aqw
 generalize Hp.set H3 bb _ = H4 at l34 vbb4 ⊢
 have vob4 := l34 _ _ vob3
 have l04 := Hp.le_trans l03 l34
 clear l34 vob3 vvb3 hv3 hbb
 (refine @unH _ ?_; refine zA Akm ?_; (repeat (refine inC ?_; intro hc)); try (refine inK ?_; intro K hK))
 (refine Ax7 ?_; (try simp only [nq, ↓reduceIte, Nat.reduceEqDiff]); rw [Axt, results_cell_tmp Tryz.results52 (by decide) (by decide) (b := ob) (o := 0) rfl Tryz.underlying61 rfl Tryz.sizeOf61]; simp -implicitDefEqProofs (disch := first | omega | (simp only [qd] <;> omega)) only [xq, ↓xp, qc, Nat.reduceAdd, List.range, List.range.loop, fine, Nat.reduceEqDiff, ↓reduceIte, yielded, reduceCtorEq, Nat.reduceLT, Nat.reduceMul, Nat.reduceSub, one, Nat.reduceLeDiff, Aqa, Akm, Aji])
 exact fun b x hx => by
  rw [Aqp (fun h => by rw [h, h0ob] at hx; cases hx)]
  exact l04 _ _ hx
def regF (places r : Int) (start : List Int) (xss : List (List Int)) : Int := (bdT (fun ts => fetF places r start ts - fewF places start ts) (Aqz xss)).hi
theorem Cq3 (H : Hp) (places pieces : Int) (sv cv : Value) (start : List Int) (xss : List (List Int)) (hv : Akv H places pieces sv cv start xss) (r : Int) (hr0 : 0 <= r) (hr3 : r <= 3) :
  FnX Tryz.prog (.wg Tryz.prog) 100 #[.agg #[.int .i64 places, .int .i64 pieces, sv, cv], Ajo r] H fun e H' => e = .returned (.int .i64 (regF places r start xss)) /\ H.le H' := by
 obtain ⟨sa, sn, sc, rfl⟩ := hv.st.isSlice
 obtain ⟨ca, cc, rfl, hcc, _⟩ := id hv.calls
 have hcl : (Ajo r).cells = #[Ajo r] := rfl
 refine Aqk Tryz.func100 rfl Tryz.ntmps100 (by simp) ?_
 (refine @unH _ ?_; refine zA Bxe ?_; (repeat (refine inC ?_; intro hc)); try (refine inK ?_; intro K hK))
 intro vb hvb rb hrb
 replace hrb : (Hp.set H vb (.cells #[.int .i64 places, .int .i64 pieces, .slice sa sn sc, .slice ca xss.length cc] 25 (0, 0))) rb = none := hrb
 generalize hG : Hp.set H vb _ = H1 at hrb ⊢
 have lH1 := Aqh hG hvb
 have vvb := Aqf hG
 clear hG
 generalize hG : Hp.set H1 rb _ = H2
 have lH2 := Aqh hG hrb
 have vrb := Aqf hG
 clear hG
 have l02 := Hp.le_trans lH1 lH2
 have vvb2 := lH2 _ _ vvb
 have hv2 := hv.le l02
 clear vvb hvb hrb lH1 lH2
 ((try (refine @unH _ ?_; refine zX Bxe ?_)); (try (refine hK _ _ ?_; clear hK K; (try simp only [nq, ↓reduceIte, Nat.reduceEqDiff]))); refine @unH _ ?_; refine zA Bxe ?_; (repeat (refine inC ?_; intro hc)); try (refine inK ?_; intro K hK))
 refine (Bq5 H2 places pieces _ _ start xss _ _ hv2.st hv2.calls hv.ok hv.few (Bv5 H2 places start hv.stA r hr0 hr3 rb _ vrb)).runs.mono ?_
 rintro _ H3 ⟨rfl, lH3⟩
 have hres : Aqy (regF places r start xss = (bdT (fun ts => fetF places r start ts - fewF places start ts) (Aqz xss)).hi) := rfl
 generalize bdT (fun ts => fetF places r start ts - fewF places start ts) (Aqz xss) = B at *
 obtain ⟨blo, bhi, bsm⟩ := B
 simp only [bdV]
 ((try (refine @unH _ ?_; refine zX Bxe ?_)); (try (refine hK _ _ ?_; clear hK K; (try simp only [nq, ↓reduceIte, Nat.reduceEqDiff]))); refine @unH _ ?_; refine zA Bxe ?_; (repeat (refine inC ?_; intro hc)); try (refine inK ?_; intro K hK))
 (refine @unH _ ?_; refine z9 Tryz.results100 ?_)
 rw [show regF places r start xss = bhi from hres]
 exact ⟨by first | rfl | trivial, Hp.le_trans l02 lH3⟩
def Azr := And.intro (fun H => Aqv (H := H) Tryz.underlying25 rfl Tryz.sizeOf25) (And.intro @Bk9 (And.intro @Ckr (And.intro @Cw5 @Cw4)))
def Azy (g : Int -> Int) : Nat -> Int × Int
 | 0 => (-1, 0)
 | n + 1 => if (n : Int) < 3 then (if (Azy g n).1 < 0 ∨ g n < (Azy g n).2 then ((n : Int), g n) else Azy g n) else Azy g n
theorem Cj7 (H : Hp) (places pieces : Int) (sv cv : Value) (start : List Int) (xss : List (List Int)) (hv : Akv H places pieces sv cv start xss) :
  FnX Tryz.prog (.wg Tryz.prog) 57 #[.agg #[.int .i64 places, .int .i64 pieces, sv, cv]] H fun e H' => e = .returned (.tuple #[.int .i64 (Azy (fun r => regF places r start xss) 4).1, .int .i64 0]) /\ H.le H' := by
 obtain ⟨sa, sn, sc, rfl⟩ := hv.st.isSlice
 obtain ⟨ca, cc, rfl, hcc, _⟩ := id hv.calls
 refine Aqk Tryz.func57 rfl Tryz.ntmps57 (by simp) ?_
 (refine @unH _ ?_; refine zA Azr ?_; (repeat (refine inC ?_; intro hc)); try (refine inK ?_; intro K hK))
 (intro vb hvb; generalize hG : Hp.set _ vb _ = H1; have lH1 := Aqh hG hvb; have vvb := Aqf hG; clear hG)
 have hv1 := hv.le lH1
 ((try (refine @unH _ ?_; refine zX Azr ?_)); (try (refine hK _ _ ?_; clear hK K; (try simp only [nq, ↓reduceIte, Nat.reduceEqDiff]))); refine @unH _ ?_; refine zA Azr ?_; (repeat (refine inC ?_; intro hc)); try (refine inK ?_; intro K hK))
 refine (Ayj _ H1 places pieces _ _ start xss hv1.st hv1.calls hv1.ok hv1.few).runs.mono ?_
 rintro _ H2 ⟨rfl, lH2⟩
 have hv2 := hv1.le lH2
 have vvb2 := lH2 _ _ vvb
 have l02 := Hp.le_trans lH1 lH2
 clear vvb hvb lH1 lH2 hv1
 ((try (refine @unH _ ?_; refine zX Azr ?_)); (try (refine hK _ _ ?_; clear hK K; (try simp only [nq, ↓reduceIte, Nat.reduceEqDiff]))); refine @unH _ ?_; refine zA Azr ?_; (repeat (refine inC ?_; intro hc)); try (refine inK ?_; intro K hK))
 obtain ⟨g, hg⟩ : ∃ g : Int -> Int, g = fun r => regF places r start xss := ⟨_, rfl⟩
 have hreg : ∀ HX (hX : H2.le HX) (r : Int) (hr0 : 0 <= r) (hr3 : r <= 3), FnX Tryz.prog (.wg Tryz.prog) 100 #[.agg #[.int .i64 places, .int .i64 pieces, .slice sa sn sc, .slice ca xss.length cc], Ajo r] HX fun e H' => e = .returned (.int .i64 (g r)) /\ HX.le H' := fun HX hX r h0 h3 => by
  rw [hg]; exact Cq3 HX places pieces _ _ start xss (hv2.le hX) r h0 h3
 rw [<- hg]
 replace hreg : Aqy _ := hreg
 clear hg
 refine Aq9 (fun w a' H' => ∃ (e : Nat -> Value) (n : Nat), w = 4 - n /\ n <= 4 /\ a' = act 36 e [] /\ e 1 = .pointer (some ⟨vb, 0, none⟩) /\ e 5 = .int .i64 (Azy g n).1 /\ e 6 = .int .i64 (Azy g n).2 /\ e 15 = .int .i64 (n : Nat) /\ H2.le H') (n := 4) ?_ ?_
 ·exact ⟨_, 0, by omega, by omega, rfl, rfl, rfl, rfl, rfl, Hp.le_refl _⟩
 ·rintro w a' H3 ⟨e, n, rfl, hn, rfl, e1, e5, e6, e15, l23⟩
  have vvb3 := l23 _ _ vvb2
  by_cases hlt : n < 4
  ·have hn0 : (0 : Int) <= (n : Int) := by omega
   have hn3 : (n : Int) <= 3 := by omega
   have hst : Aqy (Azy g (n + 1) = if (n : Int) < 3 then (if (Azy g n).1 < 0 ∨ g n < (Azy g n).2 then ((n : Int), g n) else Azy g n) else Azy g n) := rfl
   generalize Azy g n = st at *
   obtain ⟨b, m⟩ := st
   simp only at e5 e6
   (refine @unH _ ?_; refine zA Azr ?_; (repeat (refine inC ?_; intro hc)); try (refine inK ?_; intro K hK))
   refine (Bjt _ H3 n hn0 hn3).runs.mono ?_
   rintro _ H4 ⟨rfl, hH4⟩
   rw [hH4]; clear hH4 H4
   ((try (refine @unH _ ?_; refine zX Azr ?_)); (try (refine hK _ _ ?_; clear hK K; (try simp only [nq, ↓reduceIte, Nat.reduceEqDiff]))); refine @unH _ ?_; refine zA Azr ?_; (repeat (refine inC ?_; intro hc)); try (refine inK ?_; intro K hK))
   refine (Cz3 _ H3 n hn0 hn3).runs.mono ?_
   rintro _ H4 ⟨rfl, hH4⟩
   rw [hH4]; clear hH4 H4
   by_cases hb3 : (n : Int) < 3
   ·rw [decide_eq_true hb3]
    ((try (refine @unH _ ?_; refine zX Azr ?_)); (try (refine hK _ _ ?_; clear hK K; (try simp only [nq, ↓reduceIte, Nat.reduceEqDiff]))); refine @unH _ ?_; refine zA Azr ?_; (repeat (refine inC ?_; intro hc)); try (refine inK ?_; intro K hK))
    refine ((show ∀ HX (hX : H2.le HX) (r : Int) (hr0 : 0 <= r) (hr3 : r <= 3), FnX Tryz.prog _ _ #[_, Ajo r] HX _ from hreg) H3 l23 n hn0 hn3).runs.mono ?_
    rintro _ H4 ⟨rfl, l34⟩
    have l24 := Hp.le_trans l23 l34
    have hst1 : Azy g (n + 1) = (if b < 0 ∨ g n < m then ((n : Int), g n) else (b, m)) := by have h := (show _ = _ from hst); rwa [if_pos hb3] at h
    generalize g (n : Int) = gn at *
    replace hst1 : Aqy _ := hst1
    clear hst hb3 vvb3
    by_cases hb : b < 0
    ·((try (refine @unH _ ?_; refine zX Azr ?_)); (try (refine hK _ _ ?_; clear hK K; (try simp only [nq, ↓reduceIte, Nat.reduceEqDiff]))); refine @unH _ ?_; refine zA Azr ?_; (repeat (refine inC ?_; intro hc)); try (refine inK ?_; intro K hK))
     refine ⟨4 - (n + 1), by omega, _, n + 1, rfl, by omega, rfl, e1, ?_, ?_, rfl, l24⟩
     ·rw [show Azy g (n + 1) = _ from hst1, if_pos (.inl hb)]; rfl
     ·rw [show Azy g (n + 1) = _ from hst1, if_pos (.inl hb)]; rfl
    ·by_cases hm : gn < m
     ·((try (refine @unH _ ?_; refine zX Azr ?_)); (try (refine hK _ _ ?_; clear hK K; (try simp only [nq, ↓reduceIte, Nat.reduceEqDiff]))); refine @unH _ ?_; refine zA Azr ?_; (repeat (refine inC ?_; intro hc)); try (refine inK ?_; intro K hK))
      refine ⟨4 - (n + 1), by omega, _, n + 1, rfl, by omega, rfl, e1, ?_, ?_, rfl, l24⟩
      ·rw [show Azy g (n + 1) = _ from hst1, if_pos (.inr hm)]; rfl
      ·rw [show Azy g (n + 1) = _ from hst1, if_pos (.inr hm)]; rfl
     ·((try (refine @unH _ ?_; refine zX Azr ?_)); (try (refine hK _ _ ?_; clear hK K; (try simp only [nq, ↓reduceIte, Nat.reduceEqDiff]))); refine @unH _ ?_; refine zA Azr ?_; (repeat (refine inC ?_; intro hc)); try (refine inK ?_; intro K hK))
      refine ⟨4 - (n + 1), by omega, _, n + 1, rfl, by omega, rfl, e1, ?_, ?_, rfl, l24⟩
      ·rw [show Azy g (n + 1) = _ from hst1, if_neg (fun h => h.elim hb hm)]; exact e5
      ·rw [show Azy g (n + 1) = _ from hst1, if_neg (fun h => h.elim hb hm)]; exact e6
   ·rw [decide_eq_false hb3]
    have hst1 : Azy g (n + 1) = (b, m) := by have h := (show _ = _ from hst); rwa [if_neg hb3] at h
    replace hst1 : Aqy _ := hst1
    clear hst
    ((try (refine @unH _ ?_; refine zX Azr ?_)); (try (refine hK _ _ ?_; clear hK K; (try simp only [nq, ↓reduceIte, Nat.reduceEqDiff]))); refine @unH _ ?_; refine zA Azr ?_; (repeat (refine inC ?_; intro hc)); try (refine inK ?_; intro K hK))
    refine ⟨4 - (n + 1), by omega, _, n + 1, rfl, by omega, rfl, e1, ?_, ?_, rfl, l23⟩
    ·rw [show Azy g (n + 1) = _ from hst1]; exact e5
    ·rw [show Azy g (n + 1) = _ from hst1]; exact e6
  ·obtain rfl : n = 4 := by omega
   (refine @unH _ ?_; refine zA Azr ?_; (repeat (refine inC ?_; intro hc)); try (refine inK ?_; intro K hK))
   (refine @unH _ ?_; refine zB Tryz.results57 ?_)
   exact ⟨by first | rfl | trivial, Hp.le_trans l02 l23⟩
def Ax5 (pl : Int) : Nat -> List Int -> Nat
 | _, [] => 0
 | m, t :: ts => if pl < Aqs (Aj3 m t.toNat) then 0 else 1 + Ax5 pl (Aj3 m t.toNat) ts
def Ax1 (pl : Int) (ts : List Int) : Nat -> Nat -> List Int
 | 0, _ => []
 | fuel + 1, i => if i < ts.length then (i : Int) :: Ax1 pl ts fuel (i + Ax5 pl 0 (ts.drop i)) else []
theorem Cx7 (pl : Int) : ∀ (ts : List Int) (m : Nat), Ax5 pl m ts <= ts.length
 | [], _ => Nat.le_refl _
 | t :: ts, m => by
  simp only [Ax5, List.length_cons]
  split
  ·omega
  ·have := Cx7 pl ts (Aj3 m t.toNat); omega
theorem Aw7 {pl : Int} (h1 : 1 <= pl) {t : Int} (h0 : 0 <= t) (h6 : t < 6) (ts : List Int) : 1 <= Ax5 pl 0 (t :: ts) := by
 have hc : (Aqs (Aj3 0 t.toNat) : Int) = 1 := by
  have : t = 0 ∨ t = 1 ∨ t = 2 ∨ t = 3 ∨ t = 4 ∨ t = 5 := by omega
  rcases this with rfl | rfl | rfl | rfl | rfl | rfl <;> decide
 simp only [Ax5]
 rw [if_neg (by omega)]
 omega
theorem Akj (pl : Int) (ts : List Int) {i : Nat} (h : i < ts.length) (fuel : Nat) : Ax1 pl ts (fuel + 1) i = (i : Int) :: Ax1 pl ts fuel (i + Ax5 pl 0 (ts.drop i)) := by
 simp [Ax1, h]
theorem Aj9 (pl : Int) (ts : List Int) {i : Nat} (h : ts.length <= i) (fuel : Nat) : Ax1 pl ts fuel i = [] := by
 cases fuel with
 | zero => rfl
 | succ n => simp [Ax1, Nat.not_lt.2 h]
theorem Bx9 {pl : Int} (h1 : 1 <= pl) {ts : List Int} (hb : ∀ t ∈ ts, 0 <= t /\ t < 6) : ∀ (f f' i : Nat), ts.length - i <= f -> ts.length - i <= f' -> Ax1 pl ts f i = Ax1 pl ts f' i
 | f, f', i, h, h' => by
  by_cases hi : i < ts.length
  ·obtain ⟨n, rfl⟩ : ∃ n, f = n + 1 := ⟨f - 1, by omega⟩
   obtain ⟨n', rfl⟩ : ∃ n, f' = n + 1 := ⟨f' - 1, by omega⟩
   have hd : ts.drop i = ts[i] :: ts.drop (i + 1) := List.drop_eq_getElem_cons hi
   have hp : 1 <= Ax5 pl 0 (ts.drop i) := by
    rw [hd]
    exact Aw7 h1 (hb _ (List.getElem_mem hi)).1 (hb _ (List.getElem_mem hi)).2 _
   rw [Akj pl ts hi, Akj pl ts hi, Bx9 h1 hb n n' (i + Ax5 pl 0 (ts.drop i)) (by omega) (by omega)]
  ·rw [Aj9 pl ts (by omega), Aj9 pl ts (by omega)]
 termination_by f => f
theorem Bza {pl : Int} (h1 : 1 <= pl) {ts : List Int} (hb : ∀ t ∈ ts, 0 <= t /\ t < 6) {i : Nat} (hi : i < ts.length) : Ax1 pl ts (ts.length - i) i = (i : Int) :: Ax1 pl ts (ts.length - (i + Ax5 pl 0 (ts.drop i))) (i + Ax5 pl 0 (ts.drop i)) := by
 obtain ⟨n, hn⟩ : ∃ n, ts.length - i = n + 1 := ⟨ts.length - i - 1, by omega⟩
 have hd : ts.drop i = ts[i] :: ts.drop (i + 1) := List.drop_eq_getElem_cons hi
 have hp : 1 <= Ax5 pl 0 (ts.drop i) := by
  rw [hd]
  exact Aw7 h1 (hb _ (List.getElem_mem hi)).1 (hb _ (List.getElem_mem hi)).2 _
 rw [hn, Akj pl ts hi]
 congr 1
 exact Bx9 h1 hb _ _ _ (by omega) (Nat.le_refl _)
def metF (m : Nat) (ts : List Int) : Nat := ts.foldl (fun m x => Aj3 m x.toNat) m
theorem Bw3 (m : Nat) (t : Int) (ts : List Int) : metF m (t :: ts) = metF (Aj3 m t.toNat) ts := rfl
theorem Bvs {ts : List Int} {m : Nat} (x : Int) (h : ∀ y ∈ ts, 0 <= y /\ y < 6) : inO (metF m ts) x ↔ x ∈ ts ∨ inO m x := Cqx ts m x h
theorem Bv3 (pl : Int) : ∀ (ts : List Int) (m k : Nat), (Aqs m : Int) <= pl -> k <= Ax5 pl m ts -> (Aqs (metF m (ts.take k)) : Int) <= pl
 | [], m, k, hm, hk => by simpa [metF] using hm
 | t :: ts, m, 0, hm, hk => by simpa [metF] using hm
 | t :: ts, m, k + 1, hm, hk => by
  rw [List.take_succ_cons, Bw3]
  unfold Ax5 at hk
  split at hk
  ·omega
  ·rename_i hc
   exact Bv3 pl ts _ k (by omega) (by omega)
theorem Bye (pl : Int) : ∀ (ts : List Int) (m : Nat), Ax5 pl m ts < ts.length -> pl < Aqs (metF m (ts.take (Ax5 pl m ts + 1)))
 | [], m, h => by simp at h
 | t :: ts, m, h => by
  unfold Ax5 at h ⊢
  split
  ·rename_i hc
   simpa [metF] using hc
  ·rename_i hc
   rw [if_neg hc] at h
   simp only [List.length_cons] at h
   rw [show 1 + Ax5 pl (Aj3 m t.toNat) ts + 1 = (Ax5 pl (Aj3 m t.toNat) ts + 1) + 1 by omega, List.take_succ_cons, Bw3]
   exact Bye pl ts _ (by omega)
theorem Cjs {pl : Int} (h1 : 1 <= pl) {ts : List Int} (hb : ∀ t ∈ ts, 0 <= t /\ t < 6) : ∀ (fuel i k : Nat) (a : Int), ts.length <= fuel + i -> (Ax1 pl ts fuel i)[k]? = some a -> ∃ (n fuel' : Nat), a = n /\ i <= n /\ n < ts.length /\ (Ax1 pl ts fuel i).drop (k + 1) = Ax1 pl ts fuel' (n + Ax5 pl 0 (ts.drop n)) /\ (k = 0 -> n = i) /\ ts.length <= fuel' + (n + Ax5 pl 0 (ts.drop n))
 | 0, i, k, a, _, h => by simp [Ax1] at h
 | fuel + 1, i, k, a, hf, h => by
  by_cases hi : i < ts.length
  ·have hd : ts.drop i = ts[i] :: ts.drop (i + 1) := List.drop_eq_getElem_cons hi
   have hp : 1 <= Ax5 pl 0 (ts.drop i) := by
    rw [hd]
    exact Aw7 h1 (hb _ (List.getElem_mem hi)).1 (hb _ (List.getElem_mem hi)).2 _
   rw [Akj pl ts hi] at h ⊢
   cases k with
   | zero =>
    simp only [List.getElem?_cons_zero, Option.some.injEq] at h
    exact ⟨i, fuel, h.symm, Nat.le_refl _, hi, rfl, fun _ => rfl, by omega⟩
   | succ k =>
    simp only [List.getElem?_cons_succ] at h
    obtain ⟨n, f', h2, h3, h4, h5, _, h6⟩ := Cjs h1 hb fuel _ k a (by omega) h
    exact ⟨n, f', h2, by omega, h4, by rw [List.drop_succ_cons]; exact h5, fun e => by omega, h6⟩
  ·rw [Aj9 pl ts (by omega)] at h
   simp at h
theorem Awi (pl r : Int) (ts : List Int) (s : RS) {i j : Nat} (h : i <= j) : (rrun pl r ts s i).f <= (rrun pl r ts s j).f := by
 obtain ⟨k, rfl⟩ : ∃ k, j = i + k := ⟨j - i, by omega⟩
 exact Bjr pl r ts s i k
theorem Bjs {pl r : Int} {ts start : List Int} (h1 : 1 <= pl) (hs : ∀ y ∈ start, 0 <= y /\ y < 6) (hl : (start.length : Int) <= pl) (hb : ∀ t ∈ ts, 0 <= t /\ t < 6) : ∀ i, i <= ts.length -> Fit pl (rrun pl r ts (rs0 start) i).m
 | 0, _ => Byp hs hl
 | i + 1, hi => by
  have h6 := Cq8 (i := i) (by omega) hb
  exact (Bjs h1 hs hl hb i (by omega)).next h6.1 h6.2 (Bxw h1 h6.1 h6.2)
theorem Avm {ts : List Int} {a j : Nat} (ha : a <= j) (hj : j < ts.length) : (ts.drop a).take (j + 1 - a) = (ts.drop a).take (j - a) ++ [ts.getD j 0] := by
 rw [show j + 1 - a = (j - a) + 1 by omega, List.take_add_one, List.getElem?_drop, show a + (j - a) = j by omega, List.getElem?_eq_getElem hj]
 simp [List.getD, List.getElem?_eq_getElem hj]
theorem Cvt {pl r : Int} {ts : List Int} {s : RS} (hb : ∀ t ∈ ts, 0 <= t /\ t < 6) {a : Nat} : ∀ d, a + 1 + d <= ts.length -> (rrun pl r ts s (a + 1 + d)).f = (rrun pl r ts s (a + 1)).f -> ∀ x ∈ (ts.drop a).take (d + 1), inO (rrun pl r ts s (a + 1 + d)).m x
 | 0, h, _, x, hx => by
  have h6 := Cq8 (i := a) (by omega) hb
  have : (ts.drop a).take (0 + 1) = [ts.getD a 0] := by
   have := Avm (ts := ts) (a := a) (j := a) (Nat.le_refl _) (by omega)
   rw [show a + 1 - a = 0 + 1 by omega, show a - a = 0 by omega] at this
   simpa using this
  rw [this, List.mem_singleton] at hx
  subst hx
  have em : (rrun pl r ts s (a + 1 + 0)).m = Aqx (rrun pl r ts s a).m (Ajs pl r ts a (ts.getD a 0) (rrun pl r ts s a)) (ts.getD a 0) := rfl
  rw [em, Azw Avy.1 Avy.2 h6.1 h6.2]
  exact .inl rfl
 | d + 1, h, he, x, hx => by
  have h6 := Cq8 (i := a + 1 + d) (by omega) hb
  have hm1 := Awi pl r ts s (i := a + 1) (j := a + 1 + d) (by omega)
  have ef : (rrun pl r ts s (a + 1 + (d + 1))).f = (rrun pl r ts s (a + 1 + d)).f + Azl (rrun pl r ts s (a + 1 + d)).m (ts.getD (a + 1 + d) 0) := Ck1 _ _ _ _ _ _
  have em : (rrun pl r ts s (a + 1 + (d + 1))).m = Aqx (rrun pl r ts s (a + 1 + d)).m (Ajs pl r ts (a + 1 + d) (ts.getD (a + 1 + d) 0) (rrun pl r ts s (a + 1 + d))) (ts.getD (a + 1 + d) 0) := rfl
  have ih := Cvt (pl := pl) (r := r) (s := s) hb (a := a) d (by omega) (by omega)
  have hin : inO (rrun pl r ts s (a + 1 + d)).m (ts.getD (a + 1 + d) 0) := Classical.byContradiction fun hn => by
   have := (Ax3 (pl := pl) hn h6.1 h6.2).2
   omega
  have hse : Ajs pl r ts (a + 1 + d) (ts.getD (a + 1 + d) 0) (rrun pl r ts s (a + 1 + d)) = -1 := by
   unfold Ajs
   rw [if_neg]
   intro hsb
   exact ((Av0 h6.1 h6.2).1 hsb).1 hin
  rw [em, hse, Azw (by omega) (by omega) h6.1 h6.2]
  have ht := Avm (ts := ts) (a := a) (j := a + 1 + d) (by omega) (by omega)
  rw [show a + 1 + d + 1 - a = d + 1 + 1 by omega, show a + 1 + d - a = d + 1 by omega] at ht
  rw [ht, List.mem_append, List.mem_singleton] at hx
  rcases hx with hx | hx
  ·exact .inr ⟨ih x hx, Az8 (ih x hx)⟩
  ·exact .inl hx
theorem Cq1 {pl r : Int} {ts start : List Int} (h1 : 1 <= pl) (hs : ∀ y ∈ start, 0 <= y /\ y < 6) (hl : (start.length : Int) <= pl) (hb : ∀ t ∈ ts, 0 <= t /\ t < 6) {a : Nat} (hn : a + Ax5 pl 0 (ts.drop a) < ts.length) (ha : a < ts.length) :
  (rrun pl r ts (rs0 start) (a + 1)).f < (rrun pl r ts (rs0 start) (a + Ax5 pl 0 (ts.drop a) + 1)).f := by
 have hd : ts.drop a = ts[a] :: ts.drop (a + 1) := List.drop_eq_getElem_cons ha
 have hb' : ∀ t ∈ ts.drop a, 0 <= t /\ t < 6 := fun t ht => hb t (List.mem_of_mem_drop ht)
 have hp : 1 <= Ax5 pl 0 (ts.drop a) := by
  rw [hd]
  exact Aw7 h1 (hb _ (List.getElem_mem ha)).1 (hb _ (List.getElem_mem ha)).2 _
 have hle := Awi pl r ts (rs0 start) (i := a + 1) (j := a + Ax5 pl 0 (ts.drop a) + 1) (by omega)
 apply Classical.byContradiction
 intro hno
 have hall := Cvt (pl := pl) (r := r) (s := rs0 start) hb (a := a) (Ax5 pl 0 (ts.drop a)) (by omega) (by rw [show a + 1 + Ax5 pl 0 (ts.drop a) = a + Ax5 pl 0 (ts.drop a) + 1 by omega]; omega)
 have hout := Bye pl (ts.drop a) 0 (by rw [List.length_drop]; omega)
 have hfit := (Bjs (r := r) h1 hs hl hb (a + 1 + Ax5 pl 0 (ts.drop a)) (by omega)).few
 have hsub : Aqs (metF 0 ((ts.drop a).take (Ax5 pl 0 (ts.drop a) + 1))) <= Aqs (rrun pl r ts (rs0 start) (a + 1 + Ax5 pl 0 (ts.drop a))).m := Az4 fun x hx => by
  rw [Bvs x fun y hy => hb' y (List.mem_of_mem_take hy)] at hx
  exact hall x (hx.resolve_right (Bvm x))
 omega
theorem Byf {pl r : Int} {ts start : List Int} (h1 : 1 <= pl) (hs : ∀ y ∈ start, 0 <= y /\ y < 6) (hl : (start.length : Int) <= pl) (hb : ∀ t ∈ ts, 0 <= t /\ t < 6) : ∀ (fuel a : Nat), a < ts.length -> (Ax1 pl ts fuel a).length + (rrun pl r ts (rs0 start) (a + 1)).f <= (rrun pl r ts (rs0 start) ts.length).f + 1
 | 0, a, ha => by
  have := Awi pl r ts (rs0 start) (i := a + 1) (j := ts.length) (by omega)
  simp only [Ax1, List.length_nil]
  omega
 | fuel + 1, a, ha => by
  rw [Akj pl ts ha, List.length_cons]
  have hm := Awi pl r ts (rs0 start) (i := a + 1) (j := ts.length) (by omega)
  by_cases hn : a + Ax5 pl 0 (ts.drop a) < ts.length
  ·have h2 := Cq1 (r := r) h1 hs hl hb hn ha
   have h3 := Byf (r := r) h1 hs hl hb fuel _ hn
   omega
  ·rw [Aj9 pl ts (by omega), List.length_nil]
   omega
theorem Cv9 {pl r : Int} (hr : r ≠ 3) {ts : List Int} {k : Nat} {s : RS} : ∀ i, i <= k -> i <= ts.length -> rrun pl r (ts.take k) s i = rrun pl r ts s i
 | 0, _, _ => rfl
 | i + 1, hk, h => by
  have ih := Cv9 (pl := pl) hr (ts := ts) (k := k) (s := s) i (by omega) (by omega)
  have hg : (ts.take k).getD i 0 = ts.getD i 0 := by
   simp only [List.getD]
   rw [List.getElem?_take_of_lt (by omega)]
  simp only [rrun, ih, hg, rstep, Ajs, hr, if_false, false_and]
theorem Bz7 {α : Type} {p q : α -> Bool} : ∀ {l : List α}, (∀ x ∈ l, p x = true -> q x = true) -> ∀ {y : α}, y ∈ l -> q y = true -> p y = false -> l.countP p + 1 <= l.countP q
 | [], _, y, hy, _, _ => by cases hy
 | x :: l, h, y, hy, hq, hp => by
  have hl : l.countP p <= l.countP q := List.countP_mono_left fun z hz => h z (List.mem_cons_of_mem _ hz)
  rw [List.countP_cons, List.countP_cons]
  rcases List.mem_cons.1 hy with e | hy
  ·subst e
   rw [hq, hp]
   simpa using hl
  ·have ih := Bz7 (fun z hz => h z (List.mem_cons_of_mem _ hz)) hy hq hp
   have := h x List.mem_cons_self
   cases hpx : p x
   ·simp only [Bool.false_eq_true, if_false]
    split <;> omega
   ·rw [this hpx]
    simp only [if_true]
    omega
def rkR (r : Int) (s : RS) (x : Int) : Int := if r = 1 then s.came.getD x.toNat 0 else s.asked.getD x.toNat 0
def Bjv (r : Int) (s : RS) (a : Nat) : Nat := (List.range 6).countP fun x => s.m.testBit x && decide ((a : Int) <= rkR r s x)
theorem Ck2 : ∀ m : Fin 64, ∀ t : Fin 6, m.val.testBit t.val = false -> Aqs (Aqx m.val (-1) (t.val : Int)) = Aqs m.val + 1 := by decide +kernel
theorem Cjp {m : Nat} {t : Int} (hm : m < 64) (h0 : 0 <= t) (h6 : t < 6) (ht : ¬ inO m t) : Aqs (Aqx m (-1) t) = Aqs m + 1 := by
 have := Ck2 ⟨m, hm⟩ ⟨t.toNat, by omega⟩ (by
  cases hb : m.testBit t.toNat
  ·rfl
  ·exact absurd ⟨h0, h6, hb⟩ ht)
 simp only [] at this
 rwa [show ((t.toNat : Nat) : Int) = t by omega] at this
theorem Bw6 {m : Nat} {t : Int} (h0 : 0 <= t) (h6 : t < 6) : ¬ inO m t ↔ m.testBit t.toNat = false := by
 rw [<- Aw0 h0 h6]
 simp
theorem Cx8 {pl r : Int} (hr : r = 1 ∨ r = 2) {ts : List Int} {i : Nat} {t x : Int} {s : RS} (hc : s.came.length = 6) (ha : s.asked.length = 6) (ht : 0 <= t /\ t < 6) (hx : 0 <= x /\ x < 6) :
  rkR r (rstep pl r ts i t s) x = if x = t /\ (r = 2 ∨ s.m.testBit t.toNat = false) then (i : Int) else rkR r s x := by
 unfold rkR
 rcases hr with rfl | rfl
 ·simp only [if_true]
  show (if s.m.testBit t.toNat then s.came else s.came.set t.toNat i).getD x.toNat 0 = _
  by_cases hin : s.m.testBit t.toNat = true
  ·rw [if_pos hin, if_neg]
   rintro ⟨_, h | h⟩
   ·omega
   ·rw [hin] at h; cases h
  ·rw [if_neg hin, Bju hc ht hx]
   replace hin : s.m.testBit t.toNat = false := by simpa using hin
   by_cases hxt : x = t
   ·rw [if_pos hxt, if_pos ⟨hxt, .inr hin⟩]
   ·rw [if_neg hxt, if_neg (fun h => hxt h.1)]
 ·simp only [show ¬ (2 : Int) = 1 by omega, if_false]
  show (s.asked.set t.toNat i).getD x.toNat 0 = _
  rw [Bju ha ht hx]
  by_cases hxt : x = t
  ·rw [if_pos hxt, if_pos ⟨hxt, .inl trivial⟩]
  ·rw [if_neg hxt, if_neg (fun h => hxt h.1)]
theorem Dql {pl r : Int} (hr : r = 1 ∨ r = 2) {ts : List Int} {i : Nat} {t : Int} {s : RS} (h1 : 1 <= pl) (h0 : 0 <= t) (h6 : t < 6) : (Ajs pl r ts i t s = -1 /\ (inO s.m t ∨ (Aqs s.m : Int) < pl)) ∨ (inO s.m (Ajs pl r ts i t s) /\ ¬ inO s.m t /\ pl <= Aqs s.m /\ ∀ x, inO s.m x -> rkR r s (Ajs pl r ts i t s) <= rkR r s x) := by
 unfold Ajs
 by_cases hs : Bzi pl s.m t = true
 ·rw [if_pos hs]
  obtain ⟨hm, hf⟩ := (Av0 h0 h6).1 hs
  obtain ⟨h2, h3⟩ := Bxu (Ak0 r s.came s.asked (if r = 3 then Azf ts (i + 1) else s.later)) s.m (by omega)
  refine .inr ⟨h2, hm, hf, fun x hx => ?_⟩
  have := h3 x hx
  rcases hr with rfl | rfl
  ·simpa [Ak0, rkR] using this
  ·simpa [Ak0, rkR] using this
 ·rw [if_neg hs]
  refine .inl ⟨rfl, ?_⟩
  by_cases hm : inO s.m t
  ·exact .inl hm
  ·exact .inr (Int.not_le.1 fun hf => hs ((Av0 h0 h6).2 ⟨hm, hf⟩))
theorem Dzt {pl r : Int} (hr : r = 1 ∨ r = 2) {ts start : List Int} (h1 : 1 <= pl) (hs : ∀ y ∈ start, 0 <= y /\ y < 6) (hn : start.Nodup) (hl : (start.length : Int) <= pl) (hb : ∀ t ∈ ts, 0 <= t /\ t < 6) (hL : ts.length <= 1000) : ∀ i, i <= ts.length -> ∀ x, inO (rrun pl r ts (rs0 start) i).m x -> rkR r (rrun pl r ts (rs0 start) i) x < i
 | 0, _, x, hx => by
  have hx' := (Cwc hs x).1 hx
  obtain ⟨j, h2, h3, h4⟩ := Bkl hn hs start.length (Nat.le_refl _) x (by rwa [List.take_length])
  have : rkR r (rs0 start) x = (j : Int) - start.length := by unfold rkR; split <;> exact h4
  show rkR r (rs0 start) x < _
  omega
 | i + 1, hi, x, hx => by
  have h6 := Cq8 (i := i) (by omega) hb
  have hok := Bxv pl r ts start hs hb hL i (by omega)
  have e : rrun pl r ts (rs0 start) (i + 1) = rstep pl r ts i (ts.getD i 0) (rrun pl r ts (rs0 start) i) := rfl
  have em : (rrun pl r ts (rs0 start) (i + 1)).m = Aqx (rrun pl r ts (rs0 start) i).m (Ajs pl r ts i (ts.getD i 0) (rrun pl r ts (rs0 start) i)) (ts.getD i 0) := rfl
  have hx' := hx
  rw [em, Azw Avy.1 Avy.2 h6.1 h6.2] at hx'
  rw [e, Cx8 hr hok.came hok.asked h6 ⟨hx.1, hx.2.1⟩]
  split
  ·omega
  ·rename_i hc
   have hin : inO (rrun pl r ts (rs0 start) i).m x := by
    rcases hx' with h | h
    ·apply Classical.byContradiction
     intro hno
     exact hc ⟨h, .inr ((Bw6 h6.1 h6.2).1 (h ▸ hno))⟩
    ·exact h.1
   have := Dzt hr h1 hs hn hl hb hL i (by omega) x hin
   omega
theorem Bkr {pl r : Int} (hr : r = 1 ∨ r = 2) {ts start : List Int} (h1 : 1 <= pl) (hs : ∀ y ∈ start, 0 <= y /\ y < 6) (hn : start.Nodup) (hl : (start.length : Int) <= pl) (hb : ∀ t ∈ ts, 0 <= t /\ t < 6) (hL : ts.length <= 1000) {a : Nat} (ha : a <= ts.length) :
  ∀ d, d <= Ax5 pl 0 (ts.drop a) -> (∀ x, inO (rrun pl r ts (rs0 start) (a + d)).m x -> (a : Int) <= rkR r (rrun pl r ts (rs0 start) (a + d)) x -> x ∈ (ts.drop a).take d) /\ (rrun pl r ts (rs0 start) (a + d)).f <= (rrun pl r ts (rs0 start) a).f + Bjv r (rrun pl r ts (rs0 start) (a + d)) a
 | 0, _ => ⟨fun x hx hge => by
   have := Dzt hr h1 hs hn hl hb hL a ha x hx
   rw [Nat.add_zero] at hge
   omega, Nat.le_add_right _ _⟩
 | d + 1, hd => by
  have hpl := Cx7 pl (ts.drop a) 0
  rw [List.length_drop] at hpl
  obtain ⟨ihU, ihC⟩ := Bkr hr h1 hs hn hl hb hL ha d (by omega)
  have h6 := Cq8 (i := a + d) (by omega) hb
  have hok := Bxv pl r ts start hs hb hL (a + d) (by omega)
  have hfit := Bjs (r := r) h1 hs hl hb (a + d) (by omega)
  have hrl := Dzt hr h1 hs hn hl hb hL (a + d) (by omega)
  have htk := Avm (ts := ts) (a := a) (j := a + d) (by omega) (by omega)
  rw [show a + d + 1 - a = d + 1 by omega, show a + d - a = d by omega] at htk
  have hin := Bv3 pl (ts.drop a) 0 (d + 1) (by have : Aqs 0 = 0 := (by decide); omega) hd
  have e : rrun pl r ts (rs0 start) (a + (d + 1)) = rstep pl r ts (a + d) (ts.getD (a + d) 0) (rrun pl r ts (rs0 start) (a + d)) := rfl
  have ef : (rrun pl r ts (rs0 start) (a + (d + 1))).f = (rrun pl r ts (rs0 start) (a + d)).f + Azl (rrun pl r ts (rs0 start) (a + d)).m (ts.getD (a + d) 0) := Ck1 _ _ _ _ _ _
  have em : (rrun pl r ts (rs0 start) (a + (d + 1))).m = Aqx (rrun pl r ts (rs0 start) (a + d)).m (Ajs pl r ts (a + d) (ts.getD (a + d) 0) (rrun pl r ts (rs0 start) (a + d))) (ts.getD (a + d) 0) := rfl
  have hrk := fun x hx => Cx8 (pl := pl) hr (ts := ts) (i := a + d) (t := ts.getD (a + d) 0) (x := x) hok.came hok.asked h6 hx
  rw [<- e] at hrk
  have hcase := Dql (pl := pl) hr (ts := ts) (i := a + d) (t := ts.getD (a + d) 0) (s := rrun pl r ts (rs0 start) (a + d)) h1 h6.1 h6.2
  have hnx := fun x => Azw (m := (rrun pl r ts (rs0 start) (a + d)).m) (x := x) (Avy (pl := pl) (r := r) (ts := ts) (i := a + d) (t := ts.getD (a + d) 0) (s := rrun pl r ts (rs0 start) (a + d))).1 Avy.2 h6.1 h6.2
  rw [<- em] at hnx
  generalize rrun pl r ts (rs0 start) (a + (d + 1)) = S' at *
  generalize rrun pl r ts (rs0 start) (a + d) = S at *
  have hbt : ∀ y ∈ (ts.drop a).take (d + 1), 0 <= y /\ y < 6 := fun y hy => hb y (List.mem_of_mem_drop (List.mem_of_mem_take hy))
  rw [htk] at hbt hin ⊢
  generalize ts.getD (a + d) 0 = t at *
  generalize Ajs pl r ts (a + d) t S = c at *
  have hU : ∀ x, inO S'.m x -> (a : Int) <= rkR r S' x -> x ∈ (ts.drop a).take d ++ [t] := fun x hx hge => by
   rw [List.mem_append, List.mem_singleton]
   rcases (hnx x).1 hx with h | h
   ·exact .inr h
   ·rw [hrk x ⟨hx.1, hx.2.1⟩] at hge
    split at hge
    ·rename_i hc; exact .inr hc.1
    ·exact .inl (ihU x h.1 hge)
  refine ⟨hU, ?_⟩
  have hkeep : ∀ x, inO S.m x -> (a : Int) <= rkR r S x -> x ≠ c := fun x hx hge hxc => by
   rcases hcase with ⟨h2, _⟩ | ⟨h2, h3, h4, h5⟩
   ·rw [h2] at hxc; exact Az8 hx hxc
   ·subst hxc
    have hsub : Aqs (Aqx S.m (-1) t) <= Aqs (metF 0 ((ts.drop a).take d ++ [t])) := Az4 fun y hy => by
     rw [Bvs y hbt, List.mem_append, List.mem_singleton]
     rcases (Azw (by omega) (by omega) h6.1 h6.2).1 hy with h | h
     ·exact .inl (.inr h)
     ·exact .inl (.inl (ihU y h.1 (by have := h5 y h.1; omega)))
    rw [Cjp hfit.lt h6.1 h6.2 h3] at hsub
    omega
  have hmono : ∀ x ∈ List.range 6, (S.m.testBit x && decide ((a : Int) <= rkR r S x)) = true -> (S'.m.testBit x && decide ((a : Int) <= rkR r S' x)) = true := fun x hx h => by
   rw [List.mem_range] at hx
   rw [Bool.and_eq_true, decide_eq_true_eq] at h ⊢
   have hxin : inO S.m (x : Int) := ⟨by omega, by omega, by simpa using h.1⟩
   have hx' := (hnx (x : Int)).2 (.inr ⟨hxin, hkeep _ hxin h.2⟩)
   refine ⟨by simpa using hx'.2.2, ?_⟩
   rw [hrk (x : Int) ⟨by omega, by omega⟩]
   split
   ·omega
   ·exact h.2
  rw [ef]
  by_cases hit : inO S.m t
  ·rw [(Ajj (pl := pl) h6.1 h6.2 hit).2]
   have : Bjv r S a <= Bjv r S' a := List.countP_mono_left hmono
   omega
  ·rw [(Ax3 (pl := pl) hit h6.1 h6.2).2]
   have : Bjv r S a + 1 <= Bjv r S' a := Bz7 hmono (y := t.toNat) (List.mem_range.2 (by omega)) (by
    have htc : inO S'.m t := (hnx t).2 (.inl rfl)
    rw [Bool.and_eq_true, decide_eq_true_eq]
    refine ⟨htc.2.2, ?_⟩
    rw [show ((t.toNat : Nat) : Int) = t by omega, hrk t h6, if_pos ⟨rfl, .inr ((Bw6 h6.1 h6.2).1 hit)⟩]
    omega) (by
    cases hbt' : S.m.testBit t.toNat
    ·simp
    ·exact absurd ⟨h6.1, h6.2, hbt'⟩ hit)
   omega
theorem phase_few {pl r : Int} (hr : r = 1 ∨ r = 2) {ts start : List Int} (h1 : 1 <= pl) (hs : ∀ y ∈ start, 0 <= y /\ y < 6) (hn : start.Nodup) (hl : (start.length : Int) <= pl) (hb : ∀ t ∈ ts, 0 <= t /\ t < 6) (hL : ts.length <= 1000) {a : Nat} (ha : a <= ts.length) :
  ((rrun pl r ts (rs0 start) (a + Ax5 pl 0 (ts.drop a))).f : Int) <= (rrun pl r ts (rs0 start) a).f + pl := by
 obtain ⟨hU, hC⟩ := Bkr hr h1 hs hn hl hb hL ha (Ax5 pl 0 (ts.drop a)) (Nat.le_refl _)
 have hin := Bv3 pl (ts.drop a) 0 (Ax5 pl 0 (ts.drop a)) (by have : Aqs 0 = 0 := (by decide); omega) (Nat.le_refl _)
 have hle : Bjv r (rrun pl r ts (rs0 start) (a + Ax5 pl 0 (ts.drop a))) a <= Aqs (metF 0 ((ts.drop a).take (Ax5 pl 0 (ts.drop a)))) := by
  unfold Bjv Aqs
  refine List.countP_mono_left fun x hx h => ?_
  rw [List.mem_range] at hx
  rw [Bool.and_eq_true, decide_eq_true_eq] at h
  have hxm := hU (x : Int) ⟨by omega, by omega, by simpa using h.1⟩ h.2
  have := (Bvs (m := 0) (x : Int) fun y hy => hb y (List.mem_of_mem_drop (List.mem_of_mem_take hy))).2 (.inl hxm)
  simpa using this.2.2
 omega
theorem fresh_count {ts : List Int} (hb : ∀ t ∈ ts, 0 <= t /\ t < 6) : (Avb [] ts).length = Aqs (metF 0 ts) := by
 have hn : ∀ i, i <= ts.length -> (Avb [] (ts.take i)).Nodup := fun i => by
  induction i with
  | zero => intro _; simp [Avb]
  | succ i ih =>
   intro hi
   rw [Bjz (by omega), Bqf]
   split
   ·exact ih (by omega)
   ·rename_i hc
    rw [List.nodup_append]
    exact ⟨ih (by omega), List.pairwise_singleton _ _, fun x hx y hy e => hc (.inr (by rw [List.mem_singleton] at hy; rw [<- hy, <- e]; exact hx))⟩
 have hn' := hn ts.length (Nat.le_refl _)
 rw [List.take_length] at hn'
 have hm : ∀ x, inO (metF 0 ts) x ↔ x ∈ Avb [] ts := fun x => by
  have := Bkk [] ts x ts.length (Nat.le_refl _)
  rw [List.take_length] at this
  rw [Bvs x hb, this]
  constructor
  ·rintro (h | h)
   ·exact ⟨h, by simp⟩
   ·exact absurd h (Bvm x)
  ·rintro ⟨h, _⟩; exact .inl h
 exact (OffA.len ⟨hm, hn'⟩).symm
end Go.Proofs.YtgniilnljeedlaaGreatDoor
end
