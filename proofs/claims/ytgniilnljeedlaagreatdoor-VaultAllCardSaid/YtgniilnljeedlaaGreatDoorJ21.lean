/- Texts VOver VNums VFew VRule VPhase VPhases. -/
import Derived.Test.YtgniilnljeedlaaGreatDoorJ20
set_option linter.defProp false
set_option linter.unusedSimpArgs false
set_option linter.unusedVariables false
set_option maxRecDepth 100000
set_option maxHeartbeats 2000000
section
namespace Go.Proofs.YtgniilnljeedlaaGreatDoor
open Go Go.X
def Axu := And.intro (fun H => Aq1 (H := H) (P := Tryz.prog) (h := Tryz.zeroValue120)) (And.intro (fun H => Aqh (H := H) Tryz.underlying25 (i := 3) rfl (off := 3) rfl Tryz.sizeOf23) (And.intro (fun H => Aqd (H := H) Tryz.underlying23 rfl) (And.intro (fun H => Aq5 (H := H) Tryz.underlying23) (And.intro (fun H => Aqh (H := H) Tryz.underlying124 (i := 0) rfl (off := 0) rfl Tryz.sizeOf122) (And.intro (fun H => Aqd (H := H) Tryz.underlying122 rfl) (And.intro (fun H => Aqx (H := H) Tryz.underlying25 rfl Tryz.sizeOf25) (And.intro @Bz1 (And.intro @Axp (And.intro (fun H => Aqx (H := H) Tryz.underlying120 rfl Tryz.sizeOf120) (And.intro (fun H => Aq3 (H := H) Tryz.sizeOf120) (And.intro @Bz5 (And.intro (fun H => Bjf (H := H) Tryz.underlying166 Tryz.typeInfo120 (by decide)) (And.intro (fun H => Aq1 (H := H) (P := Tryz.prog) (h := Tryz.zeroValue166)) (And.intro (fun H => Bzc (H := H) Tryz.sizeOf166) (And.intro (fun H => Aq1 (H := H) (P := Tryz.prog) (h := Tryz.zeroValue174)) (And.intro (fun H => Aqq (H := H) Tryz.underlying23 Tryz.sizeOf22) (And.intro (fun H => Aqd (H := H) Tryz.underlying22 rfl) (And.intro (fun H => Aq5 (H := H) Tryz.underlying22) (And.intro (fun H => Aqq (H := H) Tryz.underlying22 Tryz.sizeOf3) (And.intro (fun H => Aqd (H := H) Tryz.underlying3 rfl) (And.intro (fun H => Aq1 (H := H) (P := Tryz.prog) (h := Tryz.zeroValue3)) (And.intro (fun H => Axo (H := H) Tryz.sizeOf3) (And.intro (fun H => Aqd (H := H) Tryz.underlying166 rfl) (And.intro (fun H => Aqh (H := H) Tryz.underlying120 (i := 0) rfl (off := 0) rfl Tryz.sizeOf3) (And.intro (fun H => Aqh (H := H) Tryz.underlying120 (i := 1) rfl (off := 1) rfl Tryz.sizeOf3) @Ajg)))))))))))))))))))))))))
open Go.Conc (G baseD rcase scase)
theorem SlR.cl {H H' : Hp} {w : Value} {xss : List (List Int)} (hw : SlR H w xss) (hl : Aj4 H H') : SlR H' w xss := by
 obtain ⟨a, cap, h1, h2, h3⟩ := hw
 refine ⟨a, cap, h1, h2, fun i x hx => ?_⟩
 obtain ⟨b, o, p, c, fr, u, h4, h5, h6, h7⟩ := h3 i x hx
 obtain ⟨p', h8⟩ := hl _ _ _ _ _ h5
 exact ⟨b, o, p', c, fr, u, h4, h8, h6, h7.cl hl⟩
theorem Bq7 (H : Hp) (places pieces : Int) (sv cv : Value) (start : List Int) (xss : List (List Int)) (mv : Value) (F : List Int -> Int)
  (hst : SlI H sv start) (hcs : SlR H cv xss) (hok : Az5 places pieces start xss) (hl8 : xss.length <= 8) (hmv : Bv8 H mv places start F) :
  FnX Tryz.prog (.wg Tryz.prog) 97 #[.agg #[.int .i64 places, .int .i64 pieces, sv, cv], .agg #[mv]] H fun e H' => e = .returned (bdV (bdT F (Aqz xss))) /\ H.le H' := by
 obtain ⟨sa, sn, sc, rfl⟩ := hst.isSlice
 obtain ⟨ca, cc, rfl, hcc, _⟩ := id hcs
 refine Aqk Tryz.func97 rfl Tryz.ntmps97 (by simp) ?_
 (refine @unH _ ?_; refine zA Axu ?_; (repeat (refine inC ?_; intro hc)); try (refine inK ?_; intro K hK))
 intro vx hvx mx hmx ob hob
 replace hmx : (Hp.set H vx (.cells #[.int .i64 places, .int .i64 pieces, .slice sa sn sc, .slice ca xss.length cc] 25 (0, 0))) mx = none := hmx
 replace hob : (Hp.set (Hp.set H vx (.cells #[.int .i64 places, .int .i64 pieces, .slice sa sn sc, .slice ca xss.length cc] 25 (0, 0))) mx (.cells #[mv] 124 (0, 0))) ob = none := hob
 generalize hG : Hp.set H vx _ = H1 at hmx hob ⊢
 have lH1 := Aqg hG hvx
 have vvx := Aqf hG
 clear hG
 generalize hG : Hp.set H1 mx _ = H2 at hob ⊢
 have lH2 := Aqg hG hmx
 have vmx := Aqf hG
 clear hG
 generalize hG : Hp.set H2 ob _ = H3
 have lH3 := Aqg hG hob
 have vob := Aqf hG
 clear hG
 have l13 := Hp.le_trans lH2 lH3
 have l03 := Hp.le_trans lH1 l13
 have vvx3 := l13 _ _ vvx
 have vmx3 := lH3 _ _ vmx
 have h0ob : H ob = none := Hp.le_none (Hp.le_trans lH1 lH2) hob
 have hst3 := hst.le l03
 have hcs3 := hcs.le l03
 have hmv3 := hmv.le (Aj4.of l03)
 clear vvx vmx lH1 lH2 lH3 l13 hvx hmx hob
 ((try (refine @unH _ ?_; refine zX Axu ?_)); (try (refine hK _ _ ?_; clear hK K; (try simp only [nq, ↓reduceIte, Nat.reduceEqDiff]))); refine @unH _ ?_; refine zA Axu ?_; (repeat (refine inC ?_; intro hc)); try (refine inK ?_; intro K hK))
 (intro bb hbb; generalize hG : Hp.set _ bb _ = H4; have lH4 := Aqg hG hbb; have vbb := Aqf hG; clear hG)
 have l04 := Hp.le_trans l03 lH4
 have vvx4 := lH4 _ _ vvx3
 have vmx4 := lH4 _ _ vmx3
 have vob4 := lH4 _ _ vob
 have h0bb : H bb = none := Hp.le_none l03 hbb
 have nbo : bb ≠ ob := (Ax0 vob hbb).symm
 have hst4 := hst3.le lH4
 have hcs4 := hcs3.le lH4
 have hmv4 := hmv3.le (Aj4.of lH4)
 clear vvx3 vmx3 vob l03 lH4 hst3 hcs3 hmv3 hbb
 replace hmv : Aqs _ := hmv
 replace hmv4 : Aqs _ := hmv4
 by_cases hz : (xss.length : Int) = 0
 ·((try (refine @unH _ ?_; refine zX Axu ?_)); (try (refine hK _ _ ?_; clear hK K; (try simp only [nq, ↓reduceIte, Nat.reduceEqDiff]))); refine @unH _ ?_; refine zA Axu ?_; (repeat (refine inC ?_; intro hc)); try (refine inK ?_; intro K hK))
  obtain rfl : xss = [] := List.eq_nil_of_length_eq_zero (by omega)
  refine Ajl (fun HX => H4.le HX) [5, 6, 7] (.free 0 (.free 1 (.take 2 (.take 3 (.one 4 (.one 5 (.one 6 (.one 7 .nil)))))))) (by kernel_rfl) (by kernel_rfl) (by decide) (by kernel_rfl) ?_; intro K hK
  have hle0 : H4.le H4 := Hp.le_refl _
  (apply Ax5 rfl rfl rfl; (focus (intro HX; simp -implicitDefEqProofs (disch := first | omega | (simp only [qd] <;> omega)) only [xq, ↓xp, qc, Nat.reduceAdd, List.range, List.range.loop, fine, Nat.reduceEqDiff, ↓reduceIte, yielded, reduceCtorEq, Nat.reduceLT, Nat.reduceMul, Nat.reduceSub, one, Nat.reduceLeDiff, Aqa, Axu, aq, ↓ap, qe0, qe1, qe2, *, -hK, Aq0] <;> (first | exact rfl | exact ⟨rfl, rfl⟩ | exact ⟨rfl, trivial⟩))); simp -implicitDefEqProofs (disch := first | omega | (simp only [qd] <;> omega)) only [Aqn, Aqc])
  (apply Ax5 rfl rfl rfl; (focus (intro HX; simp -implicitDefEqProofs (disch := first | omega | (simp only [qd] <;> omega)) only [xq, ↓xp, qc, Nat.reduceAdd, List.range, List.range.loop, fine, Nat.reduceEqDiff, ↓reduceIte, yielded, reduceCtorEq, Nat.reduceLT, Nat.reduceMul, Nat.reduceSub, one, Nat.reduceLeDiff, Aqa, Axu, aq, ↓ap, qe0, qe1, qe2, *, -hK, Aq0] <;> (first | exact rfl | exact ⟨rfl, rfl⟩ | exact ⟨rfl, trivial⟩))); simp -implicitDefEqProofs (disch := first | omega | (simp only [qd] <;> omega)) only [Aqn, Aqc])
  (apply Axd rfl rfl rfl ‹_›; (focus (intro HX hHX; simp -implicitDefEqProofs (disch := first | omega | (simp only [qd] <;> omega)) only [xq, ↓xp, qc, Nat.reduceAdd, List.range, List.range.loop, fine, Nat.reduceEqDiff, ↓reduceIte, yielded, reduceCtorEq, Nat.reduceLT, Nat.reduceMul, Nat.reduceSub, one, Nat.reduceLeDiff, Aqa, Axu, aq, ↓ap, qe0, qe1, qe2, *, -hK, Aq0, hHX _ _ vmx4] <;> (first | exact rfl | exact ⟨rfl, rfl⟩ | exact ⟨rfl, trivial⟩))); simp -implicitDefEqProofs (disch := first | omega | (simp only [qd] <;> omega)) only [Aqn, Aqc])
  (apply Axd rfl rfl rfl ‹_›; (focus (intro HX hHX; simp -implicitDefEqProofs (disch := first | omega | (simp only [qd] <;> omega)) only [xq, ↓xp, qc, Nat.reduceAdd, List.range, List.range.loop, fine, Nat.reduceEqDiff, ↓reduceIte, yielded, reduceCtorEq, Nat.reduceLT, Nat.reduceMul, Nat.reduceSub, one, Nat.reduceLeDiff, Aqa, Axu, aq, ↓ap, qe0, qe1, qe2, *, -hK, Aq0, hHX _ _ vvx4] <;> (first | exact rfl | exact ⟨rfl, rfl⟩ | exact ⟨rfl, trivial⟩))); simp -implicitDefEqProofs (disch := first | omega | (simp only [qd] <;> omega)) only [Aqn, Aqc])
  refine Aq6 ?_
  (refine @unH _ ?_; refine zX Axu ?_)
  refine (Ayn _ H4 places pieces _ _ _ _ _ _ _ _ _).runs.mono ?_
  rintro _ Hc ⟨db, mb, rfl, lHc, ndm, hdb, hmb, vdb, vmb2⟩
  (refine @unH _ ?_; refine zX Axu ?_)
  refine ⟨.inr (by intro _; first | exact lHc | trivial), Aq6 ?_⟩
  (refine @unH _ ?_; refine zX Axu ?_)
  have hnil : SlI Hc (.slice none 0 0) [] := ⟨none, 0, rfl, Nat.le_refl _, fun i x h => by simp at h⟩
  refine Bj3.use ((show Bv8 H4 mv places start F from hmv4) _ H4 (fun b p c t fr h => ⟨p, h⟩) Hc pieces _ _ _ [] db mb lHc ⟨vdb, vmb2, ndm, hst4.le lHc, hnil⟩ ⟨by simp, fun t h => by simp at h⟩) ?_
  rintro _ Hd ⟨rfl, lHd⟩
  have l0d : Aqs (H.le Hd) := fun b x hx => lHd.keeps (lHc _ _ (l04 _ _ hx)) fun e => by rw [e] at hx; have := l04 _ _ hx; rw [hmb] at this; cases this
  have vbd := lHd.keeps (lHc _ _ vbb) fun e => by rw [e, hmb] at vbb; cases vbb
  have vod := lHd.keeps (lHc _ _ vob4) fun e => by rw [e, hmb] at vob4; cases vob4
  have hres : Aqs (bdT F (Aqz []) = ⟨F [], F [], true⟩) := rfl
  clear lHd lHc vdb vmb2 hdb hmb ndm hnil
  generalize F [] = fx at *
  (refine @unH _ ?_; refine zX Axu ?_)
  refine ⟨.inl (by decide), Aq6 ?_⟩
  (refine @unH _ ?_; refine zX Axu ?_)
  (intro g2 hg2; generalize hG : Hp.set _ g2 _ = He; have lHe := Aqg hG hg2; have vg2 := Aqf hG; clear hG)
  have vbe := lHe _ _ vbd
  have voe := lHe _ _ vod
  have l0e : Aqs (H.le He) := Hp.le_trans (show H.le Hd from l0d) lHe
  have hsl : SlI He (.slice (some ⟨g2, 0, none⟩) 1 1) [fx] := ⟨_, _, rfl, by simp, fun i y hi => by
   obtain rfl : i = 0 := by have := (List.getElem?_eq_some_iff.1 hi).1; simpa using this
   simp at hi; subst hi
   exact ⟨g2, 0, _, _, _, rfl, vg2, by simp⟩⟩
  clear l0d vbd vod lHe vg2 hg2
  refine ⟨.inl (by decide), Aq6 ?_⟩
  (refine @unH _ ?_; refine zX Axu ?_)
  rw [Bk1, Ax8]
  simp only [Array.append_empty, List.append_toArray, List.cons_append, List.nil_append]
  refine (Bkt _ He bb bd0 _ [fx] hsl vbe (by simp)).runs.mono ?_
  rintro _ Hf ⟨rfl, vbf, hoth⟩
  have vof := (hoth ob nbo.symm).trans voe
  have l0f : Aqs (H.le Hf) := fun b x hx => (hoth b fun e => by rw [e, h0bb] at hx; cases hx).trans ((show H.le He from l0e) _ _ hx)
  replace vbf : Hf bb = some (true, .cells #[.int .i64 fx, .int .i64 fx, .bool true] 120 (0, 0)) := vbf
  clear hoth hsl vbe voe l0e hle0 vbb vob4 vmx4 vvx4
  (refine @unH _ ?_; refine zX Axu ?_)
  refine ⟨.inl (by decide), Azw (hK _ _ ?_)⟩
  clear hK K
  (try simp only [nq, ↓reduceIte, Nat.reduceEqDiff])
  (refine @unH _ ?_; refine zA Axu ?_; (repeat (refine inC ?_; intro hc)); try (refine inK ?_; intro K hK))
  (refine Ax7 ?_; (try simp only [nq, ↓reduceIte, Nat.reduceEqDiff]); rw [Axw, Az8 Tryz.results97 (by decide) (b := ob) (o := 0) rfl Tryz.underlying120 rfl Tryz.sizeOf120]; simp -implicitDefEqProofs (disch := first | omega | (simp only [qd] <;> omega)) only [xq, ↓xp, qc, Nat.reduceAdd, List.range, List.range.loop, fine, Nat.reduceEqDiff, ↓reduceIte, yielded, reduceCtorEq, Nat.reduceLT, Nat.reduceMul, Nat.reduceSub, one, Nat.reduceLeDiff, Aqa, Axu, Ajh])
  refine ⟨by rw [show bdT F (Aqz []) = _ from hres]; rfl, fun b x hx => ?_⟩
  rw [Aqp (fun e => by rw [e, h0ob] at hx; cases hx)]
  exact (show H.le Hf from l0f) _ _ hx
 ·((try (refine @unH _ ?_; refine zX Axu ?_)); (try (refine hK _ _ ?_; clear hK K; (try simp only [nq, ↓reduceIte, Nat.reduceEqDiff]))); refine @unH _ ?_; refine zA Axu ?_; (repeat (refine inC ?_; intro hc)); try (refine inK ?_; intro K hK))
  intro c hc0 tb htb
  replace htb : (Hp.set H4 c _) tb = none := htb
  generalize hG : Hp.set H4 c _ = H5 at htb ⊢
  have lH5 := Aqg hG hc0
  have vc5 := Aqf hG
  clear hG
  ((try (refine @unH _ ?_; refine zX (And.intro Axu @cells_chan) ?_)); (try (refine hK _ _ ?_; clear hK K; (try simp only [nq, ↓reduceIte, Nat.reduceEqDiff]))); refine @unH _ ?_; refine zA (And.intro Axu @cells_chan) ?_; (repeat (refine inC ?_; intro hc)); try (refine inK ?_; intro K hK))
  intro wg hwg
  replace hwg : (Hp.set H5 tb (.cells #[.chan (some c)] 166 (0, 0))) wg = none := hwg
  generalize hG : Hp.set H5 tb _ = H6 at hwg ⊢
  have lH6 := Aqg hG htb
  have vtb6 := Aqf hG
  clear hG
  have vc6 := lH6 _ _ vc5
  have nct : c ≠ tb := Ax0 vc5 htb
  have l46 := Hp.le_trans lH5 lH6
  have h4c := hc0
  have h4tb : H4 tb = none := Hp.le_none lH5 htb
  clear lH5 lH6 vc5 hc0 htb
  generalize hG : Hp.set H6 wg _ = H8
  have lH8 := Aqg hG hwg
  have vwg := Aqf hG
  clear hG
  have vwg8 : H8 wg = some (true, wgO lk.tWg 0 0) := vwg
  have h6wg := hwg
  have vc8 := lH8 _ _ vc6
  have vtb8 := lH8 _ _ vtb6
  have l48 := Hp.le_trans l46 lH8
  have l08 := Hp.le_trans l04 l48
  have ncw : c ≠ wg := Ax0 vc6 hwg
  have ntw : tb ≠ wg := Ax0 vtb6 hwg
  have n4 : ∀ b x, H4 b = some x -> b ≠ c /\ b ≠ tb /\ b ≠ wg := fun b x hx => ⟨Ax0 hx h4c, Ax0 hx h4tb, Ax0 (l46 _ _ hx) hwg⟩
  have vbb8 := l48 _ _ vbb
  have vob8 := l48 _ _ vob4
  have vvx8 := l48 _ _ vvx4
  have vmx8 := l48 _ _ vmx4
  obtain ⟨nbc, nbt, nbw⟩ := n4 _ _ vbb
  obtain ⟨nvc, nvt, nvw⟩ := n4 _ _ vvx4
  obtain ⟨nmc, nmt, nmw⟩ := n4 _ _ vmx4
  obtain ⟨noc, not, now⟩ := n4 _ _ vob4
  have n0 : ∀ b x, H b = some x -> b ≠ c /\ b ≠ wg /\ b ≠ bb := fun b x hx => ⟨(n4 _ _ (l04 _ _ hx)).1, (n4 _ _ (l04 _ _ hx)).2.2, fun e => by rw [e, h0bb] at hx; cases hx⟩
  have nvb : vx ≠ bb := fun e => by rw [e, vbb] at vvx4; simp at vvx4
  have nmb : mx ≠ bb := fun e => by rw [e, vbb] at vmx4; simp at vmx4
  have ntb : tb ≠ bb := Ne.symm nbt
  clear vwg lH8 hwg vc6 vtb6 l46 vbb vob4 vvx4 vmx4 hst4 hcs4 hmv4 n4 h4c h4tb l48 hc
  refine hK _ _ ?_
  clear hK K
  (try simp only [nq, ↓reduceIte, Nat.reduceEqDiff])
  refine Byt ?_
  refine Cjx (fun e => e 2 = .pointer (some ⟨vx, 0, none⟩) /\ e 3 = .pointer (some ⟨mx, 0, none⟩) /\ e 4 = .pointer (some ⟨ob, 0, none⟩) /\ e 5 = .pointer (some ⟨bb, 0, none⟩) /\ e 6 = .func (.func 122) #[.pointer (some ⟨bb, 0, none⟩)] #[] /\ e 7 = .pointer (some ⟨tb, 0, none⟩) /\ e 8 = .pointer (some ⟨wg, 0, none⟩)) ⟨rfl, rfl, rfl, rfl, rfl, rfl, rfl⟩ ?_
  rintro e ⟨e2, e3, e4, e5, e6, e7, e8⟩
  refine Dzp (fun b => ∃ o, H8 b = some (true, o)) vc8 vwg8 (fun _ h => h) ?_
  have hdel : ∀ b, b ≠ c -> b ≠ wg -> ((H8.del c).del wg) b = H8 b := fun b hb hb2 => by unfold Hp.del; rw [if_neg hb2, if_neg hb]
  have lB : ∀ b p o, ((H8.del c).del wg) b = some (p, o) -> H8 b = some (p, o) := fun b p o h => by
   unfold Hp.del at h
   split at h
   ·cases h
   ·split at h
    ·cases h
    ·exact h
  have hBle : H.le ((H8.del c).del wg) := fun x u hx => by rw [hdel x (n0 _ _ hx).1 (n0 _ _ hx).2.1]; exact l08 _ _ hx
  have vbbB := (hdel bb nbc nbw).trans vbb8
  have vobB := (hdel ob noc now).trans vob8
  have vvxB := (hdel vx nvc nvw).trans vvx8
  have vmxB := (hdel mx nmc nmw).trans vmx8
  have vtbB := (hdel tb nct.symm ntw).trans vtb8
  generalize (H8.del c).del wg = B at *
  clear vbb8 vvx8 vmx8 vtb8 vc8 vwg8 hdel
  have hCB : (B.del bb).leS B := fun b p o h => by
   unfold Hp.del at h
   split at h
   ·cases h
   ·exact ⟨p, h, id⟩
  have hdel : ∀ b x, b ≠ bb -> B b = some x -> (B.del bb) b = some x := fun b x hb h => by
   unfold Hp.del
   rw [if_neg hb]
   exact h
  have hCle : H.le (B.del bb) := fun x u hx => hdel _ _ (n0 _ _ hx).2.2 (hBle _ _ hx)
  have hCB8 : ∀ b p o, (B.del bb) b = some (p, o) -> H8 b = some (p, o) := fun b p o h => by
   unfold Hp.del at h
   split at h
   ·cases h
   ·exact lB _ _ _ h
  have vobC := hdel _ _ nbo.symm vobB
  have vvxC := hdel _ _ nvb vvxB
  have vmxC := hdel _ _ nmb vmxB
  have vtbC := hdel _ _ ntb vtbB
  have hCbb : (B.del bb) bb = none := Hp.del_same _ _
  generalize B.del bb = C at *
  clear hdel lB vobB vmxB vtbB
  obtain ⟨l, hx0⟩ : ∃ l, xss[0]? = some l := ⟨_, List.getElem?_eq_getElem (by omega)⟩
  obtain ⟨kb, ko, kp, kx, kfr, kw, rfl, hkb0, hkx, hrow0⟩ := SlR.get hcs hx0
  have hkx' : kx[ko + (0 : Int).toNat]? = some kw := by simpa using hkx
  obtain ⟨ra, rc, rfl, hrc, _⟩ := id hrow0
  have hkb := hBle _ _ hkb0
  have hl6 : l.length <= 6 := by
   have h1 := (hok.2.2.2.2.2.2.2 l (List.mem_of_getElem? hx0)).len
   have h2 := hok.2.2.2.1
   omega
  have hrowC := hrow0.le hCle
  have hne : ∀ l ∈ xss, l ≠ [] := fun l hl => (hok.2.2.2.2.2.2.2 l hl).1
  clear hkb0 hrow0
  refine Ajz (Ajz (Bqo ?_))
  (refine @unH _ ?_; refine zA Axu ?_; (repeat (refine inC ?_; intro hc)); try (refine inK ?_; intro K hK))
  obtain ⟨f, hf⟩ : ∃ f : Int -> Bd, f = fun p => bdT F ((Aqz (xss.drop 1)).map (p :: ·)) := ⟨_, rfl⟩
  replace hf : Aqs _ := hf
  refine Bjx (Cza (fun w γ a' H' => ∃ e i, w = l.length - i /\ i <= l.length /\ γ = .busy c wg lk.tWg i 0 ((l.take i).reverse.map fun p => bdV (f p)) false (fun b => ∃ o, H8 b = some (true, o)) /\ a' = act 52 e [] /\
   e 2 = .pointer (some ⟨vx, 0, none⟩) /\ e 3 = .pointer (some ⟨mx, 0, none⟩) /\ e 4 = .pointer (some ⟨ob, 0, none⟩) /\ e 5 = .pointer (some ⟨bb, 0, none⟩) /\ e 6 = .func (.func 122) #[.pointer (some ⟨bb, 0, none⟩)] #[] /\ e 7 = .pointer (some ⟨tb, 0, none⟩) /\ e 8 = .pointer (some ⟨wg, 0, none⟩) /\
   e 30 = .slice ra l.length rc /\ e 31 = .int .i64 l.length /\ e 32 = .int .i64 (i : Nat) /\ C.leS H' /\ H' bb = some (true, bdO bd0)) (n := l.length) ?_ ?_)
  ·exact ⟨_, 0, by omega, by omega, rfl, rfl, e2, e3, e4, e5, e6, e7, e8, rfl, rfl, rfl, hCB, vbbB⟩
  ·have hcs0 := hcs
   replace hcs0 : SlR H _ xss := hcs0
   clear e2 e3 e4 e5 e6 e7 e8 hkb hkx hkx' hcs
   rename_i eold
   clear eold
   rintro w γ a' H9 ⟨e, i, rfl, hi, rfl, rfl, e2, e3, e4, e5, e6, e7, e8, e30, e31, e32, lS9, vbb9⟩
   refine Ajz (Bqo ?_)
   (refine @unH _ ?_; refine zA Axu ?_; (repeat (refine inC ?_; intro hc)); try (refine inK ?_; intro K hK))
   refine Ajz (Bjy (by simp only [Aqm, Aqr, Nat.reduceEqDiff, Nat.reduceLT, ↓reduceIte, *]; rfl) ?_ ?_) <;> intro hc
   ·have hlt : i < l.length := by simpa using hc
    refine Czb ?_
    (try simp only [nq, ↓reduceIte, Nat.reduceEqDiff])
    obtain ⟨b6, o6, p6, c6, fr6, rfl, hb6, hc6⟩ := SlI.get hrowC (List.getElem?_eq_getElem hlt)
    have hpi := List.getElem?_eq_getElem hlt
    have hpl : l[i] ∈ l := List.getElem_mem hlt
    have htk : (l.take (i + 1)).reverse = l[i] :: (l.take i).reverse := by rw [List.take_add_one, hpi]; simp
    generalize l[i] = p at *
    obtain ⟨p6', hb6', _⟩ := lS9 _ _ _ hb6
    have hc6' : c6[o6 + (i : Int).toNat * 1]? = some (.int .i64 p) := by simpa using hc6
    replace hpi : Aqs _ := hpi
    replace htk : Aqs _ := htk
    refine Ajz (Bjx (Ajz (Bqo ?_)))
    (refine @unH _ ?_; refine zA Axu ?_; (repeat (refine inC ?_; intro hc)); try (refine inK ?_; intro K hK))
    intro pb hpb
    have npb : bb ≠ pb := Ax0 vbb9 hpb
    ((try (refine @unH _ ?_; refine zX Axu ?_)); (try (refine hK _ _ ?_; clear hK K; (try simp only [nq, ↓reduceIte, Nat.reduceEqDiff]))); refine @unH _ ?_; refine zA Axu ?_; (repeat (refine inC ?_; intro hc)); try (refine inK ?_; intro K hK))
    obtain ⟨H10, hG⟩ : ∃ H10, H10 = H9.set pb (.cells #[.int .i64 p] 3 (0, 0)) := ⟨_, rfl⟩
    rw [<- hG]
    have vpb := Aqf hG.symm
    have vbb10 := Aze hG.symm vbb9 npb
    have lS10 : C.leS H10 := by rw [hG]; exact lS9.set (Bvi lS9 hpb)
    clear hG lS9 vbb9 hpb hb6 hb6' hc6 hc6'
    refine Ajz (Avx (Cy8 wgLib rfl rfl rfl (by rw [Aqm (by decide)]; exact e8) rfl (by omega) (Bvq ?_)))
    show wpV _ _ _ _ ((act 52 _ []).put (some 36) _) _
    rw [Aqn (by decide)]
    have hcl : Aj4 H (H10.hand bb) := fun b p c t fr hb => by
     obtain ⟨p', h1, _⟩ := lS10 _ _ _ (hCle _ _ hb)
     exact ⟨false, Hp.hand_some h1 (n0 _ _ hb).2.2⟩
    have hfix : ∀ b p c t fr, C b = some (p, .cells c t fr) -> b ≠ bb -> (H10.hand bb) b = some (false, .cells c t fr) := fun b p c t fr hb hn => by
     obtain ⟨p', h1, _⟩ := lS10 _ _ _ hb
     exact Hp.hand_some h1 hn
    have hch := Cq4 (H10.hand bb) c wg tb vx pb mx places pieces _ _ start xss p mv F (hfix _ _ _ _ _ vvxC nvb) (Hp.hand_some vpb npb.symm) (hfix _ _ _ _ _ vmxC nmb) (hfix _ _ _ _ _ vtbC ntb) (SlI.cl hst hcl) (SlR.cl hcs0 hcl) hok hl8 (by omega) (fun l hl => Nat.le_trans ((hok.2.2.2.2.2.2.2 l hl).len) (by have := hok.2.2.2.1; omega)) (fun l' h' => by rw [hx0] at h'; cases h'; exact hpl) ((show Bv8 H mv places start F from hmv) _ _ hcl)
    refine Avx (Bw2 rfl rfl (Bzs (K := fun a' H' => ∃ e', a' = act 52 e' [] /\ H10 = H' /\ e' 37 = .func (.func 124) #[] #[.pointer (some ⟨wg, 0, none⟩), .pointer (some ⟨vx, 0, none⟩), .pointer (some ⟨pb, 0, none⟩), .pointer (some ⟨mx, 0, none⟩), .pointer (some ⟨tb, 0, none⟩)] /\
     e' 2 = .pointer (some ⟨vx, 0, none⟩) /\ e' 3 = .pointer (some ⟨mx, 0, none⟩) /\ e' 4 = .pointer (some ⟨ob, 0, none⟩) /\ e' 5 = .pointer (some ⟨bb, 0, none⟩) /\ e' 6 = .func (.func 122) #[.pointer (some ⟨bb, 0, none⟩)] #[] /\ e' 7 = .pointer (some ⟨tb, 0, none⟩) /\ e' 8 = .pointer (some ⟨wg, 0, none⟩) /\
     e' 30 = .slice (some ⟨b6, o6, none⟩) l.length rc /\ e' 31 = .int .i64 l.length /\ e' 32 = .int .i64 (i : Nat)) ?_ ?_))
    ·unfold opX
     change wpS _ (execOp _ ⟨some 37, .makeFunc (.func 124) #[] #[.tmp 8, .tmp 2, .tmp 10, .tmp 3, .tmp 7], _, _, _, _⟩) _ _ _
     rw [Bqd]
     refine ⟨_, Aqn (by decide), rfl, ?_, e2, e3, e4, e5, e6, e7, e8, e30, e31, e32⟩
     simp only [Aqr, ↓reduceIte, List.map_toArray, List.map_cons, List.map_nil, Aqm, Nat.reduceLT, Nat.reduceEqDiff, e7, e2, e3, e8]
    ·clear e2 e3 e4 e5 e6 e7 e8 e30 e31 e32
     rintro _ _ ⟨e', rfl, rfl, e37, e2, e3, e4, e5, e6, e7, e8, e30, e31, e32⟩
     refine Dzg rfl rfl (fun w hw => Cvb (by rw [Aqm (by decide)]; exact e37) w) rfl Hp.hand_lend Hp.lend_own hch (Bvq ?_)
     show blk 1 _ .normal (act 52 e' []) _
     (try simp only [nq, ↓reduceIte, Nat.reduceEqDiff])
     refine Bqo ?_
     have hle10 := lS10.trans (Hp.lend_leS (eb := bb))
     have vbbL : (H10.lend bb) bb = _ := Hp.lend_at.trans vbb10
     generalize H10.lend bb = H11 at *
     clear hch hfix hcl vpb vbb10 lS10
     (refine @unH _ ?_; refine zA Axu ?_; (repeat (refine inC ?_; intro hc)); try (refine inK ?_; intro K hK))
     refine ⟨_, by omega, _, i + 1, rfl, hlt, ?_, rfl, e2, e3, e4, e5, e6, e7, e8, e30, e31, rfl, hle10, vbbL⟩
     rw [show (l.take (i + 1)).reverse = _ from htk, List.map_cons, show f p = _ from congrFun (show f = _ from hf) p]
   ·have hge : ¬ i < l.length := by simpa using hc
    obtain rfl : i = l.length := by omega
    refine Cx9 ?_
    (try simp only [nq, ↓reduceIte, Nat.reduceEqDiff])
    rw [List.take_length]
    have hxs : xss = l :: xss.drop 1 := by
     cases xss with
     | nil => simp at hx0
     | cons a t => simp at hx0; subst hx0; rfl
    refine Cvx H H8 C H9 c wg tb ob bb l f _ (bdT F (Aqz xss)) e4 e5 e6 e7 e8 lS9 vbb9 hCle l08 vtbC vobC vob8 hl6 ntb nbo.symm h0ob h0bb hCbb (fun Rp hR => ?_)
    rw [show f = _ from hf, Czn F l (xss.drop 1) (hne _ (List.mem_of_getElem? hx0)) (fun l' hl' => hne _ (List.mem_of_mem_drop hl')) Rp hR, <- hxs]
end Go.Proofs.YtgniilnljeedlaaGreatDoor
end
section
namespace Go.Proofs.YtgniilnljeedlaaGreatDoor
open Go Go.X
def Bv3 := And.intro (fun H st => Ajf (H := H) (st := st) Tryz.underlying142 rfl Tryz.zeroValue142) (And.intro (fun H st => Ajf (H := H) (st := st) Tryz.underlying143 rfl Tryz.zeroValue143) (fun H st => Ajf (H := H) (st := st) Tryz.underlying144 rfl Tryz.zeroValue144))
structure Akt (H : Hp) (places pieces : Int) (sv cv : Value) (start : List Int) (xss : List (List Int)) : Prop where
 st : SlI H sv start
 calls : SlR H cv xss
 ok : Az5 places pieces start xss
 few : xss.length <= 8
theorem Akt.le {H H' : Hp} {places pieces : Int} {sv cv : Value} {start : List Int} {xss : List (List Int)} (h : Akt H places pieces sv cv start xss) (hl : H.le H') : Akt H' places pieces sv cv start xss :=
 ⟨h.st.le hl, h.calls.le hl, h.ok, h.few⟩
theorem Akt.stA {H : Hp} {places pieces : Int} {sv cv : Value} {start : List Int} {xss : List (List Int)} (h : Akt H places pieces sv cv start xss) : StA start :=
 ⟨by have h1 := h.ok.2.2.2.2.1; have h2 := h.ok.2.1; omega, fun x hx => by have h1 := h.ok.2.2.2.2.2.2.1 x hx; have h2 := h.ok.2.2.2.1; omega⟩
theorem Czl (H : Hp) (r : Int) (hr0 : 0 <= r) (hr3 : r <= 3) (st : TypeId) (K : Value -> Hp -> Prop) (E : Value -> Hp -> Prop) : wpS Tryz.prog (Instr.typeAssert (Ajr r) st 142 true) H K E = K (.tuple #[.agg #[], .bool (decide (r = 0))]) H := by
 unfold Ajr
 rw [Ajf Tryz.underlying142 rfl Tryz.zeroValue142]
 have hcase : r = 0 ∨ r = 1 ∨ r = 2 ∨ r = 3 := by omega
 rcases hcase with rfl | rfl | rfl | rfl <;> rfl
theorem Czm (H : Hp) (r : Int) (hr0 : 0 <= r) (hr3 : r <= 3) (st : TypeId) (K : Value -> Hp -> Prop) (E : Value -> Hp -> Prop) : wpS Tryz.prog (Instr.typeAssert (Ajr r) st 143 true) H K E = K (.tuple #[.agg #[], .bool (decide (r = 1))]) H := by
 unfold Ajr
 rw [Ajf Tryz.underlying143 rfl Tryz.zeroValue143]
 have hcase : r = 0 ∨ r = 1 ∨ r = 2 ∨ r = 3 := by omega
 rcases hcase with rfl | rfl | rfl | rfl <;> rfl
theorem Bwd (H : Hp) (r : Int) (hr0 : 0 <= r) (hr3 : r <= 3) (st : TypeId) (K : Value -> Hp -> Prop) (E : Value -> Hp -> Prop) : wpS Tryz.prog (Instr.typeAssert (Ajr r) st 144 true) H K E = K (.tuple #[.agg #[], .bool (decide (r = 2))]) H := by
 unfold Ajr
 rw [Ajf Tryz.underlying144 rfl Tryz.zeroValue144]
 have hcase : r = 0 ∨ r = 1 ∨ r = 2 ∨ r = 3 := by omega
 rcases hcase with rfl | rfl | rfl | rfl <;> rfl
theorem Czt (main : Md) (H : Hp) (r : Int) (hr0 : 0 <= r) (hr3 : r <= 3) :
  FnX Tryz.prog main 102 #[Ajr r] H fun e H' => e = .returned (.bool (decide (r < 3))) /\ H' = H := by
 refine Aqk Tryz.func102 rfl Tryz.ntmps102 (by simp) ?_
 have ha0 := fun H st K E => Czl H r hr0 hr3 st K E
 have ha1 := fun H st K E => Czm H r hr0 hr3 st K E
 have ha2 := fun H st K E => Bwd H r hr0 hr3 st K E
 have hcase : r = 0 ∨ r = 1 ∨ r = 2 ∨ r = 3 := by omega
 (refine @unH _ ?_; refine zA Bv3 ?_; (repeat (refine inC ?_; intro hc)); try (refine inK ?_; intro K hK))
 have hvv : (if decide (r = 0) = true then Value.bool true else if decide (r = 1) = true then Value.bool true else Value.bool (decide (r = 2))) = .bool (decide (r < 3)) := by
  rcases hcase with rfl | rfl | rfl | rfl <;> rfl
 rw [hvv]
 clear ha0 ha1 ha2 hcase hvv
 by_cases hr : r < 3
 ·rw [decide_eq_true hr]
  (refine @unH _ ?_; refine zA Bv3 ?_; (repeat (refine inC ?_; intro hc)); try (refine inK ?_; intro K hK))
  (refine @unH _ ?_; refine z9 Tryz.results102 ?_)
  exact ⟨by first | rfl | trivial, by first | rfl | trivial⟩
 ·rw [decide_eq_false hr]
  (refine @unH _ ?_; refine zA Bv3 ?_; (repeat (refine inC ?_; intro hc)); try (refine inK ?_; intro K hK))
  (refine @unH _ ?_; refine z9 Tryz.results102 ?_)
  exact ⟨by first | rfl | trivial, by first | rfl | trivial⟩
def Akm := And.intro (fun H => Aq1 (H := H) (P := Tryz.prog) (h := Tryz.zeroValue61)) (And.intro (fun H => Aqx (H := H) Tryz.underlying25 rfl Tryz.sizeOf25) (And.intro @Bk3 (And.intro @Ckc (And.intro (fun H => Aq3 (H := H) Tryz.sizeOf61) (And.intro @Ckn (And.intro @By7 (And.intro (fun H => Aq1 (H := H) (P := Tryz.prog) (h := Tryz.zeroValue120)) (And.intro (fun H => Aq3 (H := H) Tryz.sizeOf120) (And.intro (fun H => Aqh (H := H) Tryz.underlying120 (i := 0) rfl (off := 0) rfl Tryz.sizeOf3) (And.intro (fun H => Aqd (H := H) Tryz.underlying3 rfl) (And.intro (fun H => Aqh (H := H) Tryz.underlying120 (i := 1) rfl (off := 1) rfl Tryz.sizeOf3) @Bx6)))))))))))
def Bxg := And.intro (fun H => Aqx (H := H) Tryz.underlying25 rfl Tryz.sizeOf25) (And.intro @Bzz (And.intro @Bz0 (And.intro @By7 (fun H => Ck6 (H := H) Tryz.underlying120 (i := 1) rfl (off := 1) rfl Tryz.underlying3 rfl))))
theorem Byj (H : Hp) (places pieces : Int) (sv cv : Value) (start : List Int) (xss : List (List Int)) (hv : Akt H places pieces sv cv start xss) :
  FnX Tryz.prog (.wg Tryz.prog) 52 #[.agg #[.int .i64 places, .int .i64 pieces, sv, cv]] H fun e H' => e = .returned (.tuple #[.agg #[.int .i64 (bdT (fewF places start) (Aqz xss)).lo, .int .i64 (bdT (fewF places start) (Aqz xss)).hi], .int .i64 0]) /\ H.le H' := by
 obtain ⟨sa, sn, sc, rfl⟩ := hv.st.isSlice
 obtain ⟨ca, cc, rfl, hcc, _⟩ := id hv.calls
 refine Aqk Tryz.func52 rfl Tryz.ntmps52 (by simp) ?_
 (refine @unH _ ?_; refine zA Akm ?_; (repeat (refine inC ?_; intro hc)); try (refine inK ?_; intro K hK))
 intro vb hvb ob hob
 replace hob : (Hp.set H vb (.cells #[.int .i64 places, .int .i64 pieces, .slice sa sn sc, .slice ca xss.length cc] 25 (0, 0))) ob = none := hob
 generalize hG : Hp.set H vb _ = H1 at hob ⊢
 have lH1 := Aqg hG hvb
 have vvb := Aqf hG
 clear hG
 generalize hG : Hp.set H1 ob _ = H2
 have lH2 := Aqg hG hob
 have vob := Aqf hG
 clear hG
 have l02 := Hp.le_trans lH1 lH2
 have vvb2 := lH2 _ _ vvb
 have h0ob : H ob = none := Hp.le_none lH1 hob
 have hv2 := hv.le l02
 clear vvb hvb hob lH1 lH2
 ((try (refine @unH _ ?_; refine zX Akm ?_)); (try (refine hK _ _ ?_; clear hK K; (try simp only [nq, ↓reduceIte, Nat.reduceEqDiff]))); refine @unH _ ?_; refine zA Akm ?_; (repeat (refine inC ?_; intro hc)); try (refine inK ?_; intro K hK))
 refine (Ayf _ H2 places pieces _ _ start xss hv2.st hv2.calls hv2.ok hv2.few).runs.mono ?_
 rintro _ H3 ⟨rfl, lH3⟩
 have hv3 := hv2.le lH3
 have vvb3 := lH3 _ _ vvb2
 have vob3 := lH3 _ _ vob
 have l03 := Hp.le_trans l02 lH3
 clear vvb2 vob lH3 hv2 l02
 ((try (refine @unH _ ?_; refine zX Akm ?_)); (try (refine hK _ _ ?_; clear hK K; (try simp only [nq, ↓reduceIte, Nat.reduceEqDiff]))); refine @unH _ ?_; refine zA Akm ?_; (repeat (refine inC ?_; intro hc)); try (refine inK ?_; intro K hK))
 have hov := fun HX (hX : H3.le HX) => Azo (Bq7 HX places pieces _ _ start xss _ _ (hv3.le hX).st (hv3.le hX).calls hv.ok hv.few (Av4 HX places start hv.stA))
 have hfw := fun HX => Azo (Ayc (.wg Tryz.prog) HX)
 replace hov : Aqs _ := hov
 replace hfw : Aqs _ := hfw
 generalize bdT (fewF places start) (Aqz xss) = B at *
 obtain ⟨blo, bhi, bsm⟩ := B
 simp only [bdV] at hov
 refine Ajl (fun HX => H3.le HX) [4] (.take 0 (.take 1 (.take 2 (.one 3 (.one 4 .nil))))) (by kernel_rfl) (by kernel_rfl) (by decide) (by kernel_rfl) ?_; intro K hK
 have hle0 : H3.le H3 := Hp.le_refl _
 (apply Axd rfl rfl rfl ‹_›; (focus (intro HX hHX; simp -implicitDefEqProofs (disch := first | omega | (simp only [qd] <;> omega)) only [xq, ↓xp, qc, Nat.reduceAdd, List.range, List.range.loop, fine, Nat.reduceEqDiff, ↓reduceIte, yielded, reduceCtorEq, Nat.reduceLT, Nat.reduceMul, Nat.reduceSub, one, Nat.reduceLeDiff, Aqa, Akm, aq, ↓ap, qe0, qe1, qe2, *, -hK, Aq0, hHX _ _ vvb3] <;> (first | exact rfl | exact ⟨rfl, rfl⟩ | exact ⟨rfl, trivial⟩))); simp -implicitDefEqProofs (disch := first | omega | (simp only [qd] <;> omega)) only [Aqn, Aqc])
 (apply Axd rfl rfl rfl ‹_›; (focus (intro HX hHX; simp -implicitDefEqProofs (disch := first | omega | (simp only [qd] <;> omega)) only [xq, ↓xp, qc, Nat.reduceAdd, List.range, List.range.loop, fine, Nat.reduceEqDiff, ↓reduceIte, yielded, reduceCtorEq, Nat.reduceLT, Nat.reduceMul, Nat.reduceSub, one, Nat.reduceLeDiff, Aqa, Akm, aq, ↓ap, qe0, qe1, qe2, *, -hK, Azl]; exact hfw HX)); simp -implicitDefEqProofs (disch := first | omega | (simp only [qd] <;> omega)) only [Aqn, Aqc])
 (apply Axd rfl rfl rfl ‹_›; (focus (intro HX hHX; simp -implicitDefEqProofs (disch := first | omega | (simp only [qd] <;> omega)) only [xq, ↓xp, qc, Nat.reduceAdd, List.range, List.range.loop, fine, Nat.reduceEqDiff, ↓reduceIte, yielded, reduceCtorEq, Nat.reduceLT, Nat.reduceMul, Nat.reduceSub, one, Nat.reduceLeDiff, Aqa, Akm, aq, ↓ap, qe0, qe1, qe2, *, -hK, Azl]; exact hov HX hHX)); simp -implicitDefEqProofs (disch := first | omega | (simp only [qd] <;> omega)) only [Aqn, Aqc])
 refine Aq6 ?_
 (refine @unH _ ?_; refine zX Akm ?_)
 intro bb hbb
 have nbo : ob ≠ bb := Ax0 vob3 hbb
 refine ⟨.inr fun _ => Hp.le_set hbb, ?_⟩
 have vbb : (H3.set bb (.cells #[.int .i64 0, .int .i64 0, .bool false] 120 (0, 0))) bb = _ := Aqw
 refine Aq6 ?_
 (refine @unH _ ?_; refine zX Akm ?_)
 refine ⟨.inl (by decide), ?_⟩
 clear vbb hle0
 refine Azw (hK _ _ ?_)
 clear hK K
 (try simp only [nq, ↓reduceIte, Nat.reduceEqDiff])
 have l34 := Hp.le_set (o := .cells #[.int .i64 blo, .int .i64 bhi, .bool bsm] 120 (0, 0)) hbb
 have vbb4 : (H3.set bb (.cells #[.int .i64 blo, .int .i64 bhi, .bool bsm] 120 (0, 0))) bb = _ := Aqw
 generalize Hp.set H3 bb _ = H4 at l34 vbb4 ⊢
 have vob4 := l34 _ _ vob3
 have l04 := Hp.le_trans l03 l34
 clear l34 vob3 vvb3 hv3 hbb
 (refine @unH _ ?_; refine zA Akm ?_; (repeat (refine inC ?_; intro hc)); try (refine inK ?_; intro K hK))
 (refine Ax7 ?_; (try simp only [nq, ↓reduceIte, Nat.reduceEqDiff]); rw [Axw, results_cell_tmp Tryz.results52 (by decide) (by decide) (b := ob) (o := 0) rfl Tryz.underlying61 rfl Tryz.sizeOf61]; simp -implicitDefEqProofs (disch := first | omega | (simp only [qd] <;> omega)) only [xq, ↓xp, qc, Nat.reduceAdd, List.range, List.range.loop, fine, Nat.reduceEqDiff, ↓reduceIte, yielded, reduceCtorEq, Nat.reduceLT, Nat.reduceMul, Nat.reduceSub, one, Nat.reduceLeDiff, Aqa, Akm, Ajh])
 exact fun b x hx => by
  rw [Aqp (fun h => by rw [h, h0ob] at hx; cases hx)]
  exact l04 _ _ hx
def regF (places r : Int) (start : List Int) (xss : List (List Int)) : Int := (bdT (fun ts => fetF places r start ts - fewF places start ts) (Aqz xss)).hi
theorem Cqv (H : Hp) (places pieces : Int) (sv cv : Value) (start : List Int) (xss : List (List Int)) (hv : Akt H places pieces sv cv start xss) (r : Int) (hr0 : 0 <= r) (hr3 : r <= 3) :
  FnX Tryz.prog (.wg Tryz.prog) 100 #[.agg #[.int .i64 places, .int .i64 pieces, sv, cv], Ajr r] H fun e H' => e = .returned (.int .i64 (regF places r start xss)) /\ H.le H' := by
 obtain ⟨sa, sn, sc, rfl⟩ := hv.st.isSlice
 obtain ⟨ca, cc, rfl, hcc, _⟩ := id hv.calls
 have hcl : (Ajr r).cells = #[Ajr r] := rfl
 refine Aqk Tryz.func100 rfl Tryz.ntmps100 (by simp) ?_
 (refine @unH _ ?_; refine zA Bxg ?_; (repeat (refine inC ?_; intro hc)); try (refine inK ?_; intro K hK))
 intro vb hvb rb hrb
 replace hrb : (Hp.set H vb (.cells #[.int .i64 places, .int .i64 pieces, .slice sa sn sc, .slice ca xss.length cc] 25 (0, 0))) rb = none := hrb
 generalize hG : Hp.set H vb _ = H1 at hrb ⊢
 have lH1 := Aqg hG hvb
 have vvb := Aqf hG
 clear hG
 generalize hG : Hp.set H1 rb _ = H2
 have lH2 := Aqg hG hrb
 have vrb := Aqf hG
 clear hG
 have l02 := Hp.le_trans lH1 lH2
 have vvb2 := lH2 _ _ vvb
 have hv2 := hv.le l02
 clear vvb hvb hrb lH1 lH2
 ((try (refine @unH _ ?_; refine zX Bxg ?_)); (try (refine hK _ _ ?_; clear hK K; (try simp only [nq, ↓reduceIte, Nat.reduceEqDiff]))); refine @unH _ ?_; refine zA Bxg ?_; (repeat (refine inC ?_; intro hc)); try (refine inK ?_; intro K hK))
 refine (Bq7 H2 places pieces _ _ start xss _ _ hv2.st hv2.calls hv.ok hv.few (Bvv H2 places start hv.stA r hr0 hr3 rb _ vrb)).runs.mono ?_
 rintro _ H3 ⟨rfl, lH3⟩
 have hres : Aqs (regF places r start xss = (bdT (fun ts => fetF places r start ts - fewF places start ts) (Aqz xss)).hi) := rfl
 generalize bdT (fun ts => fetF places r start ts - fewF places start ts) (Aqz xss) = B at *
 obtain ⟨blo, bhi, bsm⟩ := B
 simp only [bdV]
 ((try (refine @unH _ ?_; refine zX Bxg ?_)); (try (refine hK _ _ ?_; clear hK K; (try simp only [nq, ↓reduceIte, Nat.reduceEqDiff]))); refine @unH _ ?_; refine zA Bxg ?_; (repeat (refine inC ?_; intro hc)); try (refine inK ?_; intro K hK))
 (refine @unH _ ?_; refine z9 Tryz.results100 ?_)
 rw [show regF places r start xss = bhi from hres]
 exact ⟨by first | rfl | trivial, Hp.le_trans l02 lH3⟩
def Azs := And.intro (fun H => Aqx (H := H) Tryz.underlying25 rfl Tryz.sizeOf25) (And.intro @Bk3 (And.intro @Ckj (And.intro @Cwx @Cww)))
def Az1 (g : Int -> Int) : Nat -> Int × Int
 | 0 => (-1, 0)
 | n + 1 => if (n : Int) < 3 then (if (Az1 g n).1 < 0 ∨ g n < (Az1 g n).2 then ((n : Int), g n) else Az1 g n) else Az1 g n
theorem Cju (H : Hp) (places pieces : Int) (sv cv : Value) (start : List Int) (xss : List (List Int)) (hv : Akt H places pieces sv cv start xss) :
  FnX Tryz.prog (.wg Tryz.prog) 57 #[.agg #[.int .i64 places, .int .i64 pieces, sv, cv]] H fun e H' => e = .returned (.tuple #[.int .i64 (Az1 (fun r => regF places r start xss) 4).1, .int .i64 0]) /\ H.le H' := by
 obtain ⟨sa, sn, sc, rfl⟩ := hv.st.isSlice
 obtain ⟨ca, cc, rfl, hcc, _⟩ := id hv.calls
 refine Aqk Tryz.func57 rfl Tryz.ntmps57 (by simp) ?_
 (refine @unH _ ?_; refine zA Azs ?_; (repeat (refine inC ?_; intro hc)); try (refine inK ?_; intro K hK))
 (intro vb hvb; generalize hG : Hp.set _ vb _ = H1; have lH1 := Aqg hG hvb; have vvb := Aqf hG; clear hG)
 have hv1 := hv.le lH1
 ((try (refine @unH _ ?_; refine zX Azs ?_)); (try (refine hK _ _ ?_; clear hK K; (try simp only [nq, ↓reduceIte, Nat.reduceEqDiff]))); refine @unH _ ?_; refine zA Azs ?_; (repeat (refine inC ?_; intro hc)); try (refine inK ?_; intro K hK))
 refine (Ayf _ H1 places pieces _ _ start xss hv1.st hv1.calls hv1.ok hv1.few).runs.mono ?_
 rintro _ H2 ⟨rfl, lH2⟩
 have hv2 := hv1.le lH2
 have vvb2 := lH2 _ _ vvb
 have l02 := Hp.le_trans lH1 lH2
 clear vvb hvb lH1 lH2 hv1
 ((try (refine @unH _ ?_; refine zX Azs ?_)); (try (refine hK _ _ ?_; clear hK K; (try simp only [nq, ↓reduceIte, Nat.reduceEqDiff]))); refine @unH _ ?_; refine zA Azs ?_; (repeat (refine inC ?_; intro hc)); try (refine inK ?_; intro K hK))
 obtain ⟨g, hg⟩ : ∃ g : Int -> Int, g = fun r => regF places r start xss := ⟨_, rfl⟩
 have hreg : ∀ HX (hX : H2.le HX) (r : Int) (hr0 : 0 <= r) (hr3 : r <= 3), FnX Tryz.prog (.wg Tryz.prog) 100 #[.agg #[.int .i64 places, .int .i64 pieces, .slice sa sn sc, .slice ca xss.length cc], Ajr r] HX fun e H' => e = .returned (.int .i64 (g r)) /\ HX.le H' := fun HX hX r h0 h3 => by
  rw [hg]; exact Cqv HX places pieces _ _ start xss (hv2.le hX) r h0 h3
 rw [<- hg]
 replace hreg : Aqs _ := hreg
 clear hg
 refine Axe (fun w a' H' => ∃ (e : Nat -> Value) (n : Nat), w = 4 - n /\ n <= 4 /\ a' = act 36 e [] /\ e 1 = .pointer (some ⟨vb, 0, none⟩) /\ e 5 = .int .i64 (Az1 g n).1 /\ e 6 = .int .i64 (Az1 g n).2 /\ e 15 = .int .i64 (n : Nat) /\ H2.le H') (n := 4) ?_ ?_
 ·exact ⟨_, 0, by omega, by omega, rfl, rfl, rfl, rfl, rfl, Hp.le_refl _⟩
 ·rintro w a' H3 ⟨e, n, rfl, hn, rfl, e1, e5, e6, e15, l23⟩
  have vvb3 := l23 _ _ vvb2
  by_cases hlt : n < 4
  ·have hn0 : (0 : Int) <= (n : Int) := by omega
   have hn3 : (n : Int) <= 3 := by omega
   have hst : Aqs (Az1 g (n + 1) = if (n : Int) < 3 then (if (Az1 g n).1 < 0 ∨ g n < (Az1 g n).2 then ((n : Int), g n) else Az1 g n) else Az1 g n) := rfl
   generalize Az1 g n = st at *
   obtain ⟨b, m⟩ := st
   simp only at e5 e6
   (refine @unH _ ?_; refine zA Azs ?_; (repeat (refine inC ?_; intro hc)); try (refine inK ?_; intro K hK))
   refine (Bjp _ H3 n hn0 hn3).runs.mono ?_
   rintro _ H4 ⟨rfl, hH4⟩
   rw [hH4]; clear hH4 H4
   ((try (refine @unH _ ?_; refine zX Azs ?_)); (try (refine hK _ _ ?_; clear hK K; (try simp only [nq, ↓reduceIte, Nat.reduceEqDiff]))); refine @unH _ ?_; refine zA Azs ?_; (repeat (refine inC ?_; intro hc)); try (refine inK ?_; intro K hK))
   refine (Czt _ H3 n hn0 hn3).runs.mono ?_
   rintro _ H4 ⟨rfl, hH4⟩
   rw [hH4]; clear hH4 H4
   by_cases hb3 : (n : Int) < 3
   ·rw [decide_eq_true hb3]
    ((try (refine @unH _ ?_; refine zX Azs ?_)); (try (refine hK _ _ ?_; clear hK K; (try simp only [nq, ↓reduceIte, Nat.reduceEqDiff]))); refine @unH _ ?_; refine zA Azs ?_; (repeat (refine inC ?_; intro hc)); try (refine inK ?_; intro K hK))
    refine ((show ∀ HX (hX : H2.le HX) (r : Int) (hr0 : 0 <= r) (hr3 : r <= 3), FnX Tryz.prog _ _ #[_, Ajr r] HX _ from hreg) H3 l23 n hn0 hn3).runs.mono ?_
    rintro _ H4 ⟨rfl, l34⟩
    have l24 := Hp.le_trans l23 l34
    have hst1 : Az1 g (n + 1) = (if b < 0 ∨ g n < m then ((n : Int), g n) else (b, m)) := by have h := (show _ = _ from hst); rwa [if_pos hb3] at h
    generalize g (n : Int) = gn at *
    replace hst1 : Aqs _ := hst1
    clear hst hb3 vvb3
    by_cases hb : b < 0
    ·((try (refine @unH _ ?_; refine zX Azs ?_)); (try (refine hK _ _ ?_; clear hK K; (try simp only [nq, ↓reduceIte, Nat.reduceEqDiff]))); refine @unH _ ?_; refine zA Azs ?_; (repeat (refine inC ?_; intro hc)); try (refine inK ?_; intro K hK))
     refine ⟨4 - (n + 1), by omega, _, n + 1, rfl, by omega, rfl, e1, ?_, ?_, rfl, l24⟩
     ·rw [show Az1 g (n + 1) = _ from hst1, if_pos (.inl hb)]; rfl
     ·rw [show Az1 g (n + 1) = _ from hst1, if_pos (.inl hb)]; rfl
    ·by_cases hm : gn < m
     ·((try (refine @unH _ ?_; refine zX Azs ?_)); (try (refine hK _ _ ?_; clear hK K; (try simp only [nq, ↓reduceIte, Nat.reduceEqDiff]))); refine @unH _ ?_; refine zA Azs ?_; (repeat (refine inC ?_; intro hc)); try (refine inK ?_; intro K hK))
      refine ⟨4 - (n + 1), by omega, _, n + 1, rfl, by omega, rfl, e1, ?_, ?_, rfl, l24⟩
      ·rw [show Az1 g (n + 1) = _ from hst1, if_pos (.inr hm)]; rfl
      ·rw [show Az1 g (n + 1) = _ from hst1, if_pos (.inr hm)]; rfl
     ·((try (refine @unH _ ?_; refine zX Azs ?_)); (try (refine hK _ _ ?_; clear hK K; (try simp only [nq, ↓reduceIte, Nat.reduceEqDiff]))); refine @unH _ ?_; refine zA Azs ?_; (repeat (refine inC ?_; intro hc)); try (refine inK ?_; intro K hK))
      refine ⟨4 - (n + 1), by omega, _, n + 1, rfl, by omega, rfl, e1, ?_, ?_, rfl, l24⟩
      ·rw [show Az1 g (n + 1) = _ from hst1, if_neg (fun h => h.elim hb hm)]; exact e5
      ·rw [show Az1 g (n + 1) = _ from hst1, if_neg (fun h => h.elim hb hm)]; exact e6
   ·rw [decide_eq_false hb3]
    have hst1 : Az1 g (n + 1) = (b, m) := by have h := (show _ = _ from hst); rwa [if_neg hb3] at h
    replace hst1 : Aqs _ := hst1
    clear hst
    ((try (refine @unH _ ?_; refine zX Azs ?_)); (try (refine hK _ _ ?_; clear hK K; (try simp only [nq, ↓reduceIte, Nat.reduceEqDiff]))); refine @unH _ ?_; refine zA Azs ?_; (repeat (refine inC ?_; intro hc)); try (refine inK ?_; intro K hK))
    refine ⟨4 - (n + 1), by omega, _, n + 1, rfl, by omega, rfl, e1, ?_, ?_, rfl, l23⟩
    ·rw [show Az1 g (n + 1) = _ from hst1]; exact e5
    ·rw [show Az1 g (n + 1) = _ from hst1]; exact e6
  ·obtain rfl : n = 4 := by omega
   (refine @unH _ ?_; refine zA Azs ?_; (repeat (refine inC ?_; intro hc)); try (refine inK ?_; intro K hK))
   (refine @unH _ ?_; refine zB Tryz.results57 ?_)
   exact ⟨by first | rfl | trivial, Hp.le_trans l02 l23⟩
def Avj (pl : Int) : Nat -> List Int -> Nat
 | _, [] => 0
 | m, t :: ts => if pl < Aq4 (Aky m t.toNat) then 0 else 1 + Avj pl (Aky m t.toNat) ts
def Azi (pl : Int) (ts : List Int) : Nat -> Nat -> List Int
 | 0, _ => []
 | fuel + 1, i => if i < ts.length then (i : Int) :: Azi pl ts fuel (i + Avj pl 0 (ts.drop i)) else []
theorem Bjl {pl : Int} (h1 : 1 <= pl) {t : Int} (h0 : 0 <= t) (h6 : t < 6) (ts : List Int) : 1 <= Avj pl 0 (t :: ts) := by
 have hc : (Aq4 (Aky 0 t.toNat) : Int) = 1 := by
  have : t = 0 ∨ t = 1 ∨ t = 2 ∨ t = 3 ∨ t = 4 ∨ t = 5 := by omega
  rcases this with rfl | rfl | rfl | rfl | rfl | rfl <;> decide
 simp only [Avj]
 rw [if_neg (by omega)]
 omega
theorem Aw2 (pl : Int) (ts : List Int) {i : Nat} (h : i < ts.length) (fuel : Nat) : Azi pl ts (fuel + 1) i = (i : Int) :: Azi pl ts fuel (i + Avj pl 0 (ts.drop i)) := by
 simp [Azi, h]
theorem Awb (pl : Int) (ts : List Int) {i : Nat} (h : ts.length <= i) (fuel : Nat) : Azi pl ts fuel i = [] := by
 cases fuel with
 | zero => rfl
 | succ n => simp [Azi, Nat.not_lt.2 h]
theorem Bza {pl : Int} (h1 : 1 <= pl) {ts : List Int} (hb : ∀ t ∈ ts, 0 <= t /\ t < 6) : ∀ (f f' i : Nat), ts.length - i <= f -> ts.length - i <= f' -> Azi pl ts f i = Azi pl ts f' i
 | f, f', i, h, h' => by
  by_cases hi : i < ts.length
  ·obtain ⟨n, rfl⟩ : ∃ n, f = n + 1 := ⟨f - 1, by omega⟩
   obtain ⟨n', rfl⟩ : ∃ n, f' = n + 1 := ⟨f' - 1, by omega⟩
   have hd : ts.drop i = ts[i] :: ts.drop (i + 1) := List.drop_eq_getElem_cons hi
   have hp : 1 <= Avj pl 0 (ts.drop i) := by
    rw [hd]
    exact Bjl h1 (hb _ (List.getElem_mem hi)).1 (hb _ (List.getElem_mem hi)).2 _
   rw [Aw2 pl ts hi, Aw2 pl ts hi, Bza h1 hb n n' (i + Avj pl 0 (ts.drop i)) (by omega) (by omega)]
  ·rw [Awb pl ts (by omega), Awb pl ts (by omega)]
 termination_by f => f
theorem Bzb {pl : Int} (h1 : 1 <= pl) {ts : List Int} (hb : ∀ t ∈ ts, 0 <= t /\ t < 6) {i : Nat} (hi : i < ts.length) : Azi pl ts (ts.length - i) i = (i : Int) :: Azi pl ts (ts.length - (i + Avj pl 0 (ts.drop i))) (i + Avj pl 0 (ts.drop i)) := by
 obtain ⟨n, hn⟩ : ∃ n, ts.length - i = n + 1 := ⟨ts.length - i - 1, by omega⟩
 have hd : ts.drop i = ts[i] :: ts.drop (i + 1) := List.drop_eq_getElem_cons hi
 have hp : 1 <= Avj pl 0 (ts.drop i) := by
  rw [hd]
  exact Bjl h1 (hb _ (List.getElem_mem hi)).1 (hb _ (List.getElem_mem hi)).2 _
 rw [hn, Aw2 pl ts hi]
 congr 1
 exact Bza h1 hb _ _ _ (by omega) (Nat.le_refl _)
end Go.Proofs.YtgniilnljeedlaaGreatDoor
end
section
namespace Go.X
open Go
def scC : Code -> Code
 | .scope c => c
 | c => c
def sdC : Code -> Code
 | .seq _ y => y
 | c => c
theorem Djy {c : Code} {I : Nat -> Act -> Hp -> Prop} {Q : Exit -> Act -> Hp -> Prop} {l : Nat} {a : Act} {H : Hp} (h : (findLabel c l).isSome = true) : scp c I Q (.goto l) a H = I l a H := by
 simp [scp, h]
theorem Cx5 {c : Code} {I I' : Nat -> Act -> Hp -> Prop} {Q Q' : Exit -> Act -> Hp -> Prop} (hI : ∀ l a H, I l a H -> I' l a H) (hQ : ∀ e a H, Q e a H -> Q' e a H) : ∀ {e : Exit} {a : Act} {H : Hp}, scp c I Q e a H -> scp c I' Q' e a H
 | .normal, _, _, h => hQ _ _ _ h
 | .exit _, _, _, h => hQ _ _ _ h
 | .ret, _, _, h => hQ _ _ _ h
 | .panic _, _, _, h => hQ _ _ _ h
 | .outgrown, _, _, h => h
 | .goto l, a, H, h => by
  simp only [scp] at h ⊢
  split
  ·rename_i hs
   rw [if_pos hs] at h
   exact hI _ _ _ h
  ·rename_i hs
   rw [if_neg hs] at h
   exact hQ _ _ _ h
end Go.X
namespace Go.Proofs.YtgniilnljeedlaaGreatDoor
open Go Go.X
def Azj := And.intro (fun H => Aqx (H := H) Tryz.underlying25 rfl Tryz.sizeOf25) (And.intro @Bxr (And.intro (fun H => Aq5 (H := H) Tryz.underlying22) (And.intro @Axp (And.intro (fun H => Aqq (H := H) Tryz.underlying22 Tryz.sizeOf3) (And.intro (fun H => Aqd (H := H) Tryz.underlying3 rfl) (And.intro @Bk5 (And.intro @Ckk (And.intro (fun H => Aqh (H := H) Tryz.underlying97 (i := 0) rfl (off := 0) rfl Tryz.sizeOf25) (fun H => Aqh (H := H) Tryz.underlying25 (i := 0) rfl (off := 0) rfl Tryz.sizeOf3)))))))))
theorem Azp {H : Hp} {b : Nat} {xs : List Int} {c : Array Value} {q : Bool} (h : H b = some (q, .cells c 3 (0, 0))) (hc : c = (ints xs).toArray) : SlI H (.slice (some ⟨b, 0, none⟩) xs.length xs.length) xs :=
 ⟨_, _, rfl, Nat.le_refl _, fun i x hi => ⟨b, 0, q, c, (0, 0), rfl, h, by
  subst hc
  rw [Nat.zero_add]
  simp [ints, hi]⟩⟩
theorem RowX.rowB_ne {t : Option Nat} {H0 H : Hp} {v : Value} {e : TypeId} {cs : List Value} (h : RowX t H0 H v e cs) {b : Nat} (hb : ∀ c fr, H b ≠ some (true, .cells c e fr)) : rowB v ≠ some b := fun hr => by
 rcases h.2 with ⟨rfl, _⟩ | ⟨b', c, cap, _, hb', rfl, _⟩
 ·cases hr
 ·simp only [rowB, Option.some.injEq] at hr
  subst hr
  exact hb _ _ hb'
def PhI (H1 : Hp) (db mb : Nat) (places pieces : Int) (sv cv : Value) (ta : Option Addr) (tc : Nat) (ts : List Int) (l w : Nat) (a' : Act) (H' : Hp) : Prop := ∃ (e : Nat -> Value) (i : Nat) (os : List Int) (ov : Value), w = ts.length - i /\ i <= ts.length /\ a' = act 50 e [] /\ e 1 = .slice ta ts.length tc /\ e 6 = .pointer (some ⟨db, 0, none⟩) /\ e 8 = ov /\ e 9 = .int .i64 (i : Nat) /\
 H' db = some (true, dayO places pieces sv cv (.slice ta ts.length tc) mb) /\ RowX none H1 H' ov 3 (ints os) /\ os.length <= i /\ os ++ Azi places ts (ts.length - i) i = Azi places ts ts.length 0
theorem Bjm (main : Md) (H1 : Hp) (db mb : Nat) (places pieces : Int) (sv cv : Value) (ta : Option Addr) (tc : Nat) (ts : List Int) (hts : SlI H1 (.slice ta ts.length tc) ts) (h1 : 1 <= places) (hl8 : ts.length <= 8) (h6 : ∀ t ∈ ts, 0 <= t /\ t < 6) (R : Ending -> Hp -> Prop)
  (hR : Aqs (∀ v H', H1.le H' -> SlI H' v (Azi places ts ts.length 0) -> R (.returned (.tuple #[v, .int .i64 0])) H')) (n : Nat) (a : Act) (H' : Hp) (hI : PhI H1 db mb places pieces sv cv ta tc ts 0 n a H') :
  wpX Tryz.prog main none (sdC (sdC (sdC (sdC (sdC (scC (sdC ((Tryz.f31).body.getD .skip))))))))
   (scp (scC (sdC ((Tryz.f31).body.getD .skip))) (fun l a H => ∃ n', n' < n /\ PhI H1 db mb places pieces sv cv ta tc ts l n' a H) (By4 Tryz.prog main Tryz.f31 R)) a H' := by
 obtain ⟨e, i, os, ov, rfl, hi, rfl, e1, e6, e8, e9, vdb, hrow, hos, hph⟩ := hI
 show wpX _ _ _ (.seq _ _) _ _ _
 refine Aql ?_
 by_cases hlt : i < ts.length
 ·(refine @unH _ ?_; refine zS Azj ?_; (repeat (refine inC ?_; intro hc)); try (refine inK ?_; intro K hK))
  intro nb hnb
  generalize hG : Hp.set H' nb _ = H2
  have lH2 := Aqg hG hnb
  have vnb := Aqf hG
  clear hG
  have hw : SlI H2 (.slice (some ⟨nb, 0, none⟩) 1 1) [(i : Int)] := Azp (xs := [(i : Int)]) vnb rfl
  have hsep : rowB ov ≠ some nb := hrow.rowB_ne fun c fr h => by rw [hnb] at h; cases h
  have hsd : rowB ov ≠ some db := hrow.rowB_ne fun c fr h => by rw [vdb] at h; cases h
  have hrow2 := hrow.le lH2
  have vdb2 := lH2 _ _ vdb
  have hts' : SlI H2 (.slice ta ts.length tc) ts := hts.le (hrow2.1.toLe)
  refine Avm hrow2 hw (fun _ b hb => by simp only [rowB, Option.some.injEq] at hb; subst hb; exact hsep) (by simp only [List.length_cons, List.length_nil]; omega) _ _ _ _ (fun v3 H3 hrow3 hkeep => ?_)
  have vdb3 := hkeep _ _ vdb2 hsd
  have hts3 : SlI H3 (.slice ta ts.length tc) ts := hts.le hrow3.1.toLe
  clear hw hsep hsd hrow2 vdb2 hkeep lH2 vnb hnb hrow vdb hts'
  obtain ⟨va, vc, rfl⟩ := hrow3.len
  have hil : (ints (os ++ [(i : Int)])).length <= 100 := by rw [Aq7, List.length_append, List.length_cons, List.length_nil]; omega
  replace hil : Aqs _ := hil
  generalize (ints (os ++ [(i : Int)])).length = vn at *
  ((try (refine @unH _ ?_; refine zX Azj ?_)); (try (refine hK _ _ ?_; clear hK K; (try simp only [nq, ↓reduceIte, Nat.reduceEqDiff]))); refine @unH _ ?_; refine zS Azj ?_; (repeat (refine inC ?_; intro hc)); try (refine inK ?_; intro K hK))
  refine Aql (Aqo ?_)
  refine Axe (fun w a' H' => ∃ e j m, w = ts.length - j /\ i <= j /\ j <= ts.length /\ a' = act 50 e [] /\ e 1 = .slice ta ts.length tc /\ e 6 = .pointer (some ⟨db, 0, none⟩) /\ e 8 = .slice va vn vc /\ e 9 = .int .i64 (j : Nat) /\ e 10 = .int .u8 (m : Nat) /\ m < 64 /\ Avj places 0 (ts.drop i) = (j - i) + Avj places m (ts.drop j) /\ H' = H3) (n := ts.length - i) ?_ ?_
  ·exact ⟨_, i, 0, by omega, by omega, by omega, rfl, e1, e6, rfl, e9, rfl, by omega, by omega, rfl⟩
  ·rintro w a' H' ⟨e, j, m, rfl, hij, hj, rfl, e1, e6, e8, e9, e10, hm, hlen, hH⟩
   rw [hH]; clear hH H'
   by_cases hjl : j < ts.length
   ·have hd : ts.drop j = ts[j] :: ts.drop (j + 1) := List.drop_eq_getElem_cons hjl
    have htj := List.getElem?_eq_getElem hjl
    have htb := h6 _ (List.getElem_mem hjl)
    rw [hd] at hlen
    generalize ts[j] = t at hlen htj htb
    clear hd
    replace hlen : Aqs _ := hlen
    obtain ⟨b, o, cap', p, c, fr, hve, _, hb', hx⟩ := hts3.cons (fun h => absurd (congrArg List.length h) (by simp only [List.length_nil]; omega))
    cases hve
    have hxj := hx j t htj
    have hm2 := Bq3 hm htb.1 htb.2
    (refine @unH _ ?_; refine zA Azj ?_; (repeat (refine inC ?_; intro hc)); try (refine inK ?_; intro K hK))
    refine (Bxc main H3 m t hm htb.1 htb.2).runs.mono ?_; rintro _ HQ ⟨rfl, hHQ⟩; rw [hHQ]; clear hHQ HQ; ((try (refine @unH _ ?_; refine zX Azj ?_)); (try (refine hK _ _ ?_; clear hK K; (try simp only [nq, ↓reduceIte, Nat.reduceEqDiff]))); refine @unH _ ?_; refine zA Azj ?_; (repeat (refine inC ?_; intro hc)); try (refine inK ?_; intro K hK))
    have hlen' : Avj places 0 (ts.drop i) = j - i + (if places < Aq4 (Aky m t.toNat) then 0 else 1 + Avj places (Aky m t.toNat) (ts.drop (j + 1))) := hlen
    generalize Aky m t.toNat = m2 at *
    clear hlen
    replace hlen' : Aqs _ := hlen'
    refine Az2 8 [(true, 0), (true, 1), (true, 2), (true, 3), (true, 4), (true, 5), (true, 6), (true, 7)] (by kernel_rfl) (by kernel_rfl) (by simp) (by kernel_rfl) ?_; intro K hK
    (refine @unH _ ?_; refine z3 Azj ?_)
    (apply Axc rfl rfl rfl; (focus (simp -implicitDefEqProofs (disch := first | omega | (simp only [qd] <;> omega)) only [xq, ↓xp, qc, Nat.reduceAdd, List.range, List.range.loop, fine, Nat.reduceEqDiff, ↓reduceIte, yielded, reduceCtorEq, Nat.reduceLT, Nat.reduceMul, Nat.reduceSub, one, Nat.reduceLeDiff, Aqa, Azj]; exact quiet_of (Bkd main H3 m2 hm2))); simp -implicitDefEqProofs (disch := omega) only [Aqn, Aqc])
    (iterate 6 (refine @unH _ ?_; refine z3 Azj ?_))
    refine Ax1 (hK _ _ ?_); clear hK K
    (try simp only [nq, ↓reduceIte, Nat.reduceEqDiff])
    have hcnt : Aq4 m2 <= 100 := by have : Aq4 m2 <= 6 := Awy m2 hm2; omega
    by_cases hfull : places < Aq4 m2
    ·(refine @unH _ ?_; refine zA Azj ?_; (repeat (refine inC ?_; intro hc)); try (refine inK ?_; intro K hK))
     have hl2 : Avj places 0 (ts.drop i) = j - i + (if places < Aq4 m2 then 0 else 1 + Avj places m2 (ts.drop (j + 1))) := hlen'
     rw [if_pos hfull] at hl2
     have hd : ts.drop i = ts[i] :: ts.drop (i + 1) := List.drop_eq_getElem_cons hlt
     have hp : 1 <= Avj places 0 (ts.drop i) := by
      rw [hd]
      exact Bjl h1 (h6 _ (List.getElem_mem hlt)).1 (h6 _ (List.getElem_mem hlt)).2 _
     rw [Djy (by rfl)]
     refine ⟨ts.length - j, by omega, _, j, os ++ [(i : Int)], _, rfl, hj, rfl, e1, e6, e8, e9, vdb3, hrow3, by simp only [List.length_append, List.length_cons, List.length_nil]; omega, ?_⟩
     rw [<- hph, Bzb h1 h6 hlt, show i + Avj places 0 (ts.drop i) = j by omega, List.append_assoc]
     rfl
    ·(refine @unH _ ?_; refine zA Azj ?_; (repeat (refine inC ?_; intro hc)); try (refine inK ?_; intro K hK))
     have hl2 : Avj places 0 (ts.drop i) = j - i + (if places < Aq4 m2 then 0 else 1 + Avj places m2 (ts.drop (j + 1))) := hlen'
     rw [if_neg hfull] at hl2
     exact ⟨ts.length - (j + 1), by omega, _, j + 1, m2, rfl, by omega, hjl, rfl, e1, e6, e8, rfl, rfl, hm2, by omega, by trivial⟩
   ·obtain rfl : j = ts.length := by omega
    (refine @unH _ ?_; refine zA Azj ?_; (repeat (refine inC ?_; intro hc)); try (refine inK ?_; intro K hK))
    (refine @unH _ ?_; refine zB Tryz.results31 ?_)
    have hl0 : Avj places m (ts.drop ts.length) = 0 := by rw [List.drop_length]; rfl
    refine (show ∀ v H', H1.le H' -> SlI H' v (Azi places ts ts.length 0) -> R (.returned (.tuple #[v, .int .i64 0])) H' from hR) _ _ hrow3.1.toLe ?_
    have hs := hrow3.ints
    rw [<- hph, Bzb h1 h6 hlt, Awb places ts (by omega)]
    exact hs
 ·obtain rfl : i = ts.length := by omega
  (refine @unH _ ?_; refine zA Azj ?_; (repeat (refine inC ?_; intro hc)); try (refine inK ?_; intro K hK))
  (refine @unH _ ?_; refine zB Tryz.results31 ?_)
  refine (show ∀ v H', H1.le H' -> SlI H' v (Azi places ts ts.length 0) -> R (.returned (.tuple #[v, .int .i64 0])) H' from hR) _ _ hrow.1.toLe ?_
  have hs := hrow.ints
  rw [Awb places ts (Nat.le_refl _), List.append_nil] at hph
  rw [<- hph]
  exact hs
theorem Byl (main : Md) (H : Hp) (places pieces : Int) (sv cv tv : Value) (start : List Int) (xss : List (List Int)) (ts : List Int) (hd : Awr H places pieces sv cv tv start xss ts) :
  FnX Tryz.prog main 31 #[.agg #[.int .i64 places, .int .i64 pieces, sv, cv], tv] H fun e H' => ∃ v, e = .returned (.tuple #[v, .int .i64 0]) /\ H.le H' /\ SlI H' v (Azi places ts ts.length 0) := by
 obtain ⟨sa, sn, sc, rfl⟩ := hd.st.isSlice
 obtain ⟨ca, cn, cc, rfl⟩ := hd.calls.isSlice
 obtain ⟨ta, tc, rfl, htc, _⟩ := id hd.truth
 have hl8 : ts.length <= 8 := by have := hd.true.1; have := hd.few; omega
 have h6 := hd.true.bnd hd.ok
 refine Aqk Tryz.func31 rfl Tryz.ntmps31 (by simp) ?_
 (refine @unH _ ?_; refine zS Azj ?_; (repeat (refine inC ?_; intro hc)); try (refine inK ?_; intro K hK))
 (intro vb hvb; generalize hG : Hp.set _ vb _ = H1; have lH1 := Aqg hG hvb; have vvb := Aqf hG; clear hG)
 have hd1 := hd.le lH1
 have lex1 := lH1
 have hPI : ∀ H2, H1.le H2 -> Awr H2 places pieces (.slice sa sn sc) (.slice ca cn cc) (.slice ta ts.length tc) start xss ts := fun H2 h => hd1.le h
 ((try (refine @unH _ ?_; refine zX Azj ?_)); (try (refine hK _ _ ?_; clear hK K; (try simp only [nq, ↓reduceIte, Nat.reduceEqDiff]))); refine @unH _ ?_; refine zS Azj ?_; (repeat (refine inC ?_; intro hc)); try (refine inK ?_; intro K hK))
 refine Bys (fun l w a' H' => ∃ H2 db mb, H.le H2 /\ SlI H2 (.slice ta ts.length tc) ts /\ PhI H2 db mb places pieces (.slice sa sn sc) (.slice ca cn cc) ta tc ts l w a' H') ?_ ?_
 ·(refine @unH _ ?_; refine zS Azj ?_; (repeat (refine inC ?_; intro hc)); try (refine inK ?_; intro K hK))
  refine (Akp main H1 places pieces _ _ _ start xss ts hd1).runs.mono ?_
  rintro _ H2 ⟨db, mb, rfl, lH2, hdm, hdb, hmb, vdb, vmb⟩
  have hd2 := hd1.le lH2
  ((try (refine @unH _ ?_; refine zX Azj ?_)); (try (refine hK _ _ ?_; clear hK K; (try simp only [nq, ↓reduceIte, Nat.reduceEqDiff]))); refine @unH _ ?_; refine zS Azj ?_; (repeat (refine inC ?_; intro hc)); try (refine inK ?_; intro K hK))
  refine Aql ?_
  (refine @unH _ ?_; refine zS Azj ?_; (repeat (refine inC ?_; intro hc)); try (refine inK ?_; intro K hK))
  refine Aql (Axr ?_)
  refine Avf (Bjm main H2 db mb places pieces (.slice sa sn sc) (.slice ca cn cc) ta tc ts hd2.truth hd.ok.1 hl8 h6 (fun e H' => ∃ v, e = .returned (.tuple #[v, .int .i64 0]) /\ H.le H' /\ SlI H' v (Azi places ts ts.length 0)) (fun v H' l h => ⟨v, rfl, Hp.le_trans (Hp.le_trans lH1 lH2) l, h⟩) ts.length _ H2 ?_) ?_
  ·exact ⟨_, 0, [], _, by omega, by omega, rfl, rfl, rfl, rfl, rfl, vdb, RowX.nil, Nat.le_refl _, rfl⟩
  ·exact fun e a H' q => Cx5 (fun l a H' ⟨n', _, h⟩ => ⟨n', H2, db, mb, Hp.le_trans lH1 lH2, hd2.truth, h⟩) (fun _ _ _ h => h) q
 ·rintro l rest w a' H' hf ⟨H2, db, mb, l2, ht2, hI⟩
  have hl : l = 0 := by
   apply Classical.byContradiction
   intro hl
   have h9 : (0 == l) = false := by simp; omega
   simp only [findLabel, h9, Bool.false_eq_true, if_false] at hf
   cases hf
  subst hl
  simp only [findLabel, beq_self_eq_true, if_true, Option.some.injEq] at hf
  subst hf
  refine Aql (Aqu ?_)
  refine Avf (Bjm main H2 db mb places pieces (.slice sa sn sc) (.slice ca cn cc) ta tc ts ht2 hd.ok.1 hl8 h6 (fun e H' => ∃ v, e = .returned (.tuple #[v, .int .i64 0]) /\ H.le H' /\ SlI H' v (Azi places ts ts.length 0)) (fun v H' l h => ⟨v, rfl, Hp.le_trans l2 l, h⟩) w _ H' hI) ?_
  exact fun e a H' q => Cx5 (fun l a H' ⟨n', hlt, h⟩ => ⟨n', hlt, H2, db, mb, l2, ht2, h⟩) (fun _ _ _ h => h) q
end Go.Proofs.YtgniilnljeedlaaGreatDoor
end
