/- Texts VOver1 VBd VTail VOver VNums. -/
import Derived.Test.YtgniilnljeedlaaGreatDoorJ20
set_option linter.defProp false
set_option linter.unusedSimpArgs false
set_option linter.unusedVariables false
set_option maxRecDepth 100000
set_option maxHeartbeats 2000000
section
namespace Go.Proofs.YtgniilnljeedlaaGreatDoor
open Go Go.X
def Axv := And.intro (fun H => Aq1 (H := H) (P := Tryz.prog) (h := Tryz.zeroValue120)) (And.intro (fun H => Aqx (H := H) Tryz.underlying25 rfl Tryz.sizeOf25) (And.intro (fun H => Aqd (H := H) Tryz.underlying3 rfl) (And.intro @Axp (And.intro @Cys (And.intro (fun H => Aqh (H := H) Tryz.underlying124 (i := 0) rfl (off := 0) rfl Tryz.sizeOf122) (And.intro (fun H => Aqd (H := H) Tryz.underlying122 rfl) (And.intro @Bz9 (And.intro @Bvd (And.intro (fun H => Aqd (H := H) Tryz.underlying166 rfl) (fun H => Aqx (H := H) Tryz.underlying120 rfl Tryz.sizeOf120))))))))))
open Go.Conc (G baseD rcase scase)
theorem Cvg {P : Program} {H : Hp} (a : Act) (d : Option Tmp) (ty : TypeId) (pos : String) (af : Array Edge) (g : Option (Nat × Bool)) (K : Next -> Hp -> Prop) (E : Value -> Hp -> Prop) {f : FuncId} {args : Array Operand} {ats : Array TypeId} :
  wpS P (execOp a.eval ⟨d, .defer ⟨.value (.func f), args, ats⟩, ty, pos, af, g⟩) H K E = K (.defer { target := .fn (.func f) #[], args := args.map a.eval }) H := by
 rw [Cx3]
 simp [resolve, Deferred.ofValue, Aqi, Act.eval]
def bdV (b : Bd) : Value := .agg #[.int .i64 b.lo, .int .i64 b.hi, .bool b.some]
def bd0 : Bd := ⟨0, 0, false⟩
def bdT (F : List Int -> Int) (L : List (List Int)) : Bd := L.foldl (fun b t => Ak0 b (F t)) bd0
theorem Cyi (F : List Int -> Int) (L : List (List Int)) (t : List Int) : bdT F (L ++ [t]) = Ak0 (bdT F L) (F t) := by simp [bdT]
def Djy (F : List Int -> Int) (l r bb : Nat) (lo : Loop) (t : Bool) (L : List (List Int)) (H : Hp) : Prop :=
 t = true /\ H l = some (true, .loop lo) /\ H r = some (true, .deferred (some [])) /\ H bb = some (true, bdO (bdT F L))
theorem Cxj (KM : Hp) (c wg cb vx px mx : Nat) (places pieces : Int) (sv cv : Value) (start : List Int) (xss : List (List Int)) (p : Int) (mv : Value) (F : List Int -> Int)
  (vv : KM vx = some (false, .cells #[.int .i64 places, .int .i64 pieces, sv, cv] 25 (0, 0))) (vp : KM px = some (false, .cells #[.int .i64 p] 3 (0, 0)))
  (vm : KM mx = some (false, .cells #[mv] 124 (0, 0))) (vc : KM cb = some (false, .cells #[.chan (some c)] 166 (0, 0)))
  (hst : SlI KM sv start) (hcs : SlR KM cv xss) (hok : Az7 places pieces start xss) (hl8 : xss.length <= 8) (hl1 : 1 <= xss.length) (hrl : ∀ l ∈ xss, l.length <= 1000) (hp : ∀ l, xss[0]? = some l -> p ∈ l) (hmv : Ckl (.own false) KM mv places start TrA F) :
  WPG Tryz.prog (.own false) (Bz6 Tryz.prog c wg lk.tWg (bdV (bdT F ((Aq0 (xss.drop 1)).map (p :: ·)))))
   (Go.Conc.born Tryz.prog { target := .fn (.func 124) #[.pointer (some ⟨wg, 0, none⟩), .pointer (some ⟨vx, 0, none⟩), .pointer (some ⟨px, 0, none⟩), .pointer (some ⟨mx, 0, none⟩), .pointer (some ⟨cb, 0, none⟩)], args := #[] }) KM := by
 obtain ⟨sa, sn, sc, rfl⟩ := hst.isSlice
 obtain ⟨ca, cc, rfl, hcc, _⟩ := id hcs
 refine WPG.born (fun _ _ => Cyr _) ?_
 rw [Ay1 _ Tryz.func124 rfl, Tryz.ntmps124]
 rw [show ((#[] : Array Value) ++ #[.pointer (some ⟨wg, 0, none⟩), .pointer (some ⟨vx, 0, none⟩), .pointer (some ⟨px, 0, none⟩), .pointer (some ⟨mx, 0, none⟩), .pointer (some ⟨cb, 0, none⟩)]) = [Value.pointer (some ⟨wg, 0, none⟩), .pointer (some ⟨vx, 0, none⟩), .pointer (some ⟨px, 0, none⟩), .pointer (some ⟨mx, 0, none⟩), .pointer (some ⟨cb, 0, none⟩)].toArray from rfl]
 rw [Bq6 (by simp)]
 refine WPG.seqX (by simp [baseD]) rfl ?_
 (refine @unH _ ?_; refine zA (And.intro Axv (And.intro @Cvg @Bzm)) ?_; (repeat (refine inC ?_; intro hc)); try (refine inK ?_; intro K hK))
 refine WPG.seqX (by simp [baseD]) rfl ?_
 (refine @unH _ ?_; refine zA Axv ?_; (repeat (refine inC ?_; intro hc)); try (refine inK ?_; intro K hK))
 (intro bb hbb; generalize hG : Hp.set _ bb _ = H1; have lH1 := Aqg hG hbb; have vbb := Aqf hG; clear hG)
 ((try (refine @unH _ ?_; refine zX Axv ?_)); (try (refine hK _ _ ?_; clear hK K; (try simp only [nq, ↓reduceIte, Nat.reduceEqDiff]))); refine @unH _ ?_; refine zA Axv ?_; (repeat (refine inC ?_; intro hc)); try (refine inK ?_; intro K hK))
 refine WPG.seqX (by simp [baseD]) rfl ?_
 have vv1 := lH1 _ _ vv
 have vp1 := lH1 _ _ vp
 have vm1 := lH1 _ _ vm
 have vc1 := lH1 _ _ vc
 (refine @unH _ ?_; refine zA Axv ?_; (repeat (refine inC ?_; intro hc)); try (refine inK ?_; intro K hK))
 (intro gb hgb; generalize hG : Hp.set _ gb _ = H2; have lH2 := Aqg hG hgb; have vgb := Aqf hG; clear hG)
 refine (Cxe _ H2 places pieces _ _ _ _ _ _ _ 1 1).runs.mono ?_
 rintro _ H3 ⟨tv, tb, rfl, vtv, vtb, lH3, htv, htb⟩
 have l03 : KM.le H3 := Hp.le_trans lH1 (Hp.le_trans lH2 lH3)
 have l13 := Hp.le_trans lH2 lH3
 have vbb3 := l13 _ _ vbb
 have vgb3 := lH3 _ _ vgb
 have vv3 := l03 _ _ vv
 have vp3 := l03 _ _ vp
 have vm3 := l03 _ _ vm
 have vc3 := l03 _ _ vc
 clear vv1 vp1 vm1 vc1
 ((try (refine @unH _ ?_; refine zX Axv ?_)); (try (refine hK _ _ ?_; clear hK K; (try simp only [nq, ↓reduceIte, Nat.reduceEqDiff]))); refine @unH _ ?_; refine zA Axv ?_; (repeat (refine inC ?_; intro hc)); try (refine inK ?_; intro K hK))
 refine Av4 (fun e => e 1 = .pointer (some ⟨vx, 0, none⟩) /\ e 3 = .pointer (some ⟨mx, 0, none⟩) /\ e 4 = .pointer (some ⟨cb, 0, none⟩) /\ e 5 = .pointer (some ⟨bb, 0, none⟩) /\ e 10 = .func (.func 153) #[] #[.pointer (some ⟨tv, 0, none⟩), .pointer (some ⟨tb, 0, none⟩)]) ⟨rfl, rfl, rfl, rfl, rfl⟩ ?_
 rintro e ⟨e1, e3, e4, e5, e10⟩
 refine Ayv (g := 153) (fi := #[]) (cap := #[.pointer (some ⟨tv, 0, none⟩), .pointer (some ⟨tb, 0, none⟩)]) (by rw [Aqm (by omega), e10]) (by omega) (fun _ _ _ _ => Cyy _ _ _) (fun r l lo hr hl hlo1 hlo2 hround => ?_)
 have hlr : r ≠ l := fun e => by rw [<- e, Aqw] at hl; cases hl
 have hnl : H3 l = none := by
  rw [Aqp (Ne.symm hlr)] at hl; exact hl
 have hloe : ({ ({ lo with state := LoopState.busy } : Loop) with state := .ready, pending := none } : Loop) = lo := by
  cases lo; simp only [] at hlo1 hlo2; subst hlo1 hlo2; rfl
 have hC : Akq Tryz.prog (.own false) (.func (.yield l) #[] #[]) (fun b => b = l ∨ b = r ∨ b = bb) (fun H v xs => SlI H v xs /\ KM.le H) (fun xs => Az1 xss xs) (Djy F l r bb lo) := by
  refine ⟨?_, ?_, ?_⟩
  ·rintro t L H H' ⟨h0, h1, h2, h3⟩ hk
   exact ⟨h0, hk _ _ (.inl rfl) h1, hk _ _ (.inr (.inl rfl)) h2, hk _ _ (.inr (.inr rfl)) h3⟩
  ·rintro t L H b ⟨h0, h1, h2, h3⟩ hb
   rcases hb with rfl | rfl | rfl
   ·rw [h1]; simp
   ·rw [h2]; simp
   ·rw [h3]; simp
  ·rintro L H v' xs ⟨_, h1, h2, h3⟩ ⟨hti, hKH⟩ hA
   refine hround H _ _ h1 ?_
   obtain ⟨xa, xc, rfl, hxc, _⟩ := id hti
   (refine @unH _ ?_; refine zA (And.intro Axv @Bool.or_true) ?_; (repeat (refine inC ?_; intro hc)); try (refine inK ?_; intro K hK))
   refine ⟨h1, ?_⟩
   have nbl : bb ≠ l := fun e => by rw [e, h1] at h3; cases h3
   have nrb : r ≠ bb := fun e => by rw [e, h3] at h2; cases h2
   have hKl : ∀ b x, KM b = some x -> b ≠ l := fun b x hx e => by have := l03 _ _ hx; rw [e, hnl] at this; cases this
   generalize hB : Hp.set H l (.loop { lo with state := .busy }) = Hb
   have vlb : Hb l = some (true, .loop { lo with state := .busy }) := by rw [<- hB, Aqw]
   have hbf : ∀ b x, b ≠ l -> H b = some x -> Hb b = some x := fun b x hn hx => by rw [<- hB, Aqp hn]; exact hx
   have hb3 := hbf _ _ nbl h3
   have hb2 := hbf _ _ hlr h2
   have hKb : KM.le Hb := fun b x hx => hbf _ _ (hKl b x hx) (hKH _ _ hx)
   have htb := hti.move (H' := Hb) fun b p c fr hx => hbf _ _ (fun e => by rw [e, h1] at hx; cases hx) hx
   replace hbf : Aqs _ := hbf
   replace hloe : Aqs _ := hloe
   clear hB h1 h2 h3 hKH hti hKl
   have vvb := hKb _ _ vv
   have vmb := hKb _ _ vm
   have hTr : TrA xs := ⟨by have := hA.1; omega, hA.bnd hok⟩
   have hstb := hst.le hKb
   (refine @unH _ ?_; refine zA (And.intro Axv @Bool.or_true) ?_; (repeat (refine inC ?_; intro hc)); try (refine inK ?_; intro K hK))
   refine Ajo (fun HX => Hb.le HX) [5, 6, 7] (.free 0 (.take 1 (.take 2 (.free 3 (.one 4 (.one 5 (.one 6 (.one 7 .nil)))))))) (by kernel_rfl) (by kernel_rfl) (by decide) (by kernel_rfl) ?_; intro K hK
   have hle0 : Hb.le Hb := Hp.le_refl _
   (apply Ax6 rfl rfl rfl; (focus (intro HX; simp -implicitDefEqProofs (disch := first | omega | (simp only [qd] <;> omega)) only [xq, ↓xp, qc, Nat.reduceAdd, List.range, List.range.loop, fine, Nat.reduceEqDiff, ↓reduceIte, yielded, reduceCtorEq, Nat.reduceLT, Nat.reduceMul, Nat.reduceSub, one, Nat.reduceLeDiff, Aqa, Axv, aq, ↓ap, qe0, qe1, qe2, *, -hK, Aqz, Bool.or_true] <;> (first | exact rfl | exact ⟨rfl, rfl⟩ | exact ⟨rfl, trivial⟩))); simp -implicitDefEqProofs (disch := first | omega | (simp only [qd] <;> omega)) only [Aqn, Aqc])
   (apply Axd rfl rfl rfl ‹_›; (focus (intro HX hHX; simp -implicitDefEqProofs (disch := first | omega | (simp only [qd] <;> omega)) only [xq, ↓xp, qc, Nat.reduceAdd, List.range, List.range.loop, fine, Nat.reduceEqDiff, ↓reduceIte, yielded, reduceCtorEq, Nat.reduceLT, Nat.reduceMul, Nat.reduceSub, one, Nat.reduceLeDiff, Aqa, Axv, aq, ↓ap, qe0, qe1, qe2, *, -hK, Aqz, Bool.or_true, hHX _ _ vmb] <;> (first | exact rfl | exact ⟨rfl, rfl⟩ | exact ⟨rfl, trivial⟩))); simp -implicitDefEqProofs (disch := first | omega | (simp only [qd] <;> omega)) only [Aqn, Aqc])
   (apply Axd rfl rfl rfl ‹_›; (focus (intro HX hHX; simp -implicitDefEqProofs (disch := first | omega | (simp only [qd] <;> omega)) only [xq, ↓xp, qc, Nat.reduceAdd, List.range, List.range.loop, fine, Nat.reduceEqDiff, ↓reduceIte, yielded, reduceCtorEq, Nat.reduceLT, Nat.reduceMul, Nat.reduceSub, one, Nat.reduceLeDiff, Aqa, Axv, aq, ↓ap, qe0, qe1, qe2, *, -hK, Aqz, Bool.or_true, hHX _ _ vvb] <;> (first | exact rfl | exact ⟨rfl, rfl⟩ | exact ⟨rfl, trivial⟩))); simp -implicitDefEqProofs (disch := first | omega | (simp only [qd] <;> omega)) only [Aqn, Aqc])
   (apply Ax6 rfl rfl rfl; (focus (intro HX; simp -implicitDefEqProofs (disch := first | omega | (simp only [qd] <;> omega)) only [xq, ↓xp, qc, Nat.reduceAdd, List.range, List.range.loop, fine, Nat.reduceEqDiff, ↓reduceIte, yielded, reduceCtorEq, Nat.reduceLT, Nat.reduceMul, Nat.reduceSub, one, Nat.reduceLeDiff, Aqa, Axv, aq, ↓ap, qe0, qe1, qe2, *, -hK, Aqz, Bool.or_true] <;> (first | exact rfl | exact ⟨rfl, rfl⟩ | exact ⟨rfl, trivial⟩))); simp -implicitDefEqProofs (disch := first | omega | (simp only [qd] <;> omega)) only [Aqn, Aqc])
   refine Aq6 ?_
   (refine @unH _ ?_; refine zX (And.intro Axv @Bool.or_true) ?_)
   refine (Ayu _ Hb places pieces _ _ _ _ _ _ _ _ _).runs.mono ?_
   rintro _ Hc ⟨db, mb, rfl, lHc, ndm, hdb, hmb, vdb, vmb2⟩
   (refine @unH _ ?_; refine zX (And.intro Axv @Bool.or_true) ?_)
   refine ⟨.inr (by intro _; first | exact lHc | trivial), Aq6 ?_⟩
   (refine @unH _ ?_; refine zX (And.intro Axv @Bool.or_true) ?_)
   refine Bkb.use ((show Ckl _ KM mv places start TrA F from hmv) Hc pieces _ _ _ xs db mb (Hp.le_trans hKb lHc) ⟨vdb, vmb2, ndm, hstb.le lHc, htb.le lHc⟩ hTr) ?_
   rintro _ Hd ⟨rfl, lHd⟩
   have hbd : ∀ b x, Hb b = some x -> Hd b = some x := fun b x hx => lHd.keeps (lHc _ _ hx) fun e => by rw [e, hmb] at hx; cases hx
   have vbd := hbd _ _ hb3
   have hsn := Cyi F L xs
   generalize F xs = fx at *
   generalize hB1e : bdT F (L ++ [xs]) = B1 at *
   replace hB1e : Aqs _ := hB1e
   generalize bdT F L = B0 at *
   replace hbd : Aqs _ := hbd
   replace hsn : Aqs _ := hsn
   clear lHd lHc vdb vmb2 hdb hmb ndm
   (refine @unH _ ?_; refine zX (And.intro Axv @Bool.or_true) ?_)
   refine ⟨.inl (by decide), Aq6 ?_⟩
   (refine @unH _ ?_; refine zX (And.intro Axv @Bool.or_true) ?_)
   (intro g2 hg2; generalize hG : Hp.set _ g2 _ = He; have lHe := Aqg hG hg2; have vg2 := Aqf hG; clear hG)
   have hbe : Aqs (∀ b x, Hb b = some x -> He b = some x) := fun b x hx => lHe _ _ ((show ∀ b x, Hb b = some x -> Hd b = some x from hbd) b x hx)
   have vbe := lHe _ _ vbd
   have hsl : SlI He (.slice (some ⟨g2, 0, none⟩) 1 1) [fx] := ⟨_, _, rfl, by simp, fun i y hi => by
    obtain rfl : i = 0 := by have := (List.getElem?_eq_some_iff.1 hi).1; simpa using this
    simp at hi; subst hi
    exact ⟨g2, 0, _, _, _, rfl, vg2, by simp⟩⟩
   clear hbd vbd lHe vg2 hg2
   refine ⟨.inl (by decide), Aq6 ?_⟩
   (refine @unH _ ?_; refine zX (And.intro Axv @Bool.or_true) ?_)
   refine (Bk5 _ He bb B0 _ [fx] hsl vbe (by simp)).runs.mono ?_
   rintro _ Hf ⟨rfl, vbf, hoth⟩
   have vlf : Hf l = some (true, .loop { lo with state := .busy }) := (hoth l (Ne.symm nbl)).trans ((show ∀ b x, Hb b = some x -> He b = some x from hbe) _ _ vlb)
   have vrf : Hf r = some (true, .deferred (some [])) := (hoth r nrb).trans ((show ∀ b x, Hb b = some x -> He b = some x from hbe) _ _ hb2)
   have hfr : Aqs (∀ b x, ¬ (b = l ∨ b = r ∨ b = bb) -> H b = some x -> Hf b = some x) := fun b x hb hx =>
    (hoth b fun e => hb (.inr (.inr e))).trans ((show ∀ b x, Hb b = some x -> He b = some x from hbe) _ _ ((show ∀ b x, b ≠ l -> H b = some x -> Hb b = some x from hbf) b x (fun e => hb (.inl e)) hx))
   clear hoth hbe vbe hsl hbf hb2 hb3 vlb hle0
   replace vbf : Hf bb = some (true, bdO B1) := by rw [vbf, show B1 = _ from hsn]; rfl
   (refine @unH _ ?_; refine zX (And.intro Axv @Bool.or_true) ?_)
   refine ⟨.inl (by decide), Azy (hK _ _ ?_)⟩
   clear hK K
   (try simp only [nq, ↓reduceIte, Nat.reduceEqDiff])
   refine ⟨rfl, _, vlf, true, rfl, ?_, ?_⟩
   ·have hloe' : ({ ({ lo with state := LoopState.busy } : Loop) with state := .ready, pending := none } : Loop) = lo := hloe
    rw [hloe']
    exact ⟨rfl, Aqw, (Aqp hlr).trans vrf, (Aqp nbl).trans (by rw [vbf, show bdT F (L ++ [xs]) = B1 from hB1e])⟩
   ·intro b x hb hx
    rw [Aqp (fun e => hb (.inl e))]
    exact (show ∀ b x, ¬ (b = l ∨ b = r ∨ b = bb) -> H b = some x -> Hf b = some x from hfr) b x hb hx
 generalize hG : Hp.set (Hp.set H3 r (.deferred (some []))) l (.loop lo) = H6
 have l36 : H3.le H6 := fun b x hx => by rw [<- hG]; exact Hp.le_set hl _ _ (Hp.le_set hr _ _ hx)
 have vl6 : H6 l = some (true, .loop lo) := by rw [<- hG, Aqw]
 have vr6 : H6 r = some (true, .deferred (some [])) := by rw [<- hG, Aqp hlr, Aqw]
 clear hG
 have hbx : ∀ b x, KM b = some x -> b ≠ bb := fun b x hx e => by rw [e, hbb] at hx; cases hx
 obtain ⟨KB, hKBe⟩ : ∃ KB : Hp, KB = fun b => if b = bb then none else H3 b := ⟨_, rfl⟩
 have hKB1 : ∀ b x, KB b = some x -> b ≠ bb /\ H3 b = some x := fun b x hx => by
  rw [hKBe] at hx
  simp only at hx
  split at hx
  ·cases hx
  ·exact ⟨by assumption, hx⟩
 have hKB2 : ∀ b x, b ≠ bb -> H3 b = some x -> KB b = some x := fun b x hn hx => by
  rw [hKBe]; simp only [if_neg hn]; exact hx
 clear hKBe
 have hKK : KM.le KB := fun b x hx => hKB2 b x (hbx b x hx) (l03 b x hx)
 have ntvb : tv ≠ bb := fun e => by have := lH2 _ _ vbb; rw [<- e, htv] at this; cases this
 have hC' : Akq Tryz.prog (.own false) (.func (.yield l) #[] #[]) (fun b => b = l ∨ b = r ∨ b = bb) (fun H v xs => SlI H v xs /\ KB.le H) (fun xs => Az1 xss xs) (Djy F l r bb lo) :=
  ⟨hC.keep, hC.ex, fun L H v l hT ha hA => hC.call L H v l hT ⟨ha.1, Hp.le_trans hKK ha.2⟩ hA⟩
 have hrun := Byy (.own false) (S := fun b => b = l ∨ b = r ∨ b = bb) (KB := KB) (vb := tv) (q := true) (places := places) (pieces := pieces) (sv := .slice sa sn sc) hl8 hl1 hrl hC' (fun L H h => by cases h.1) (fun _ h => h) (hcs.le hKK) (hKB2 _ _ ntvb vtv) (fun b x hx h => by
  obtain ⟨h1, h3⟩ := hKB1 b x hx
  rcases h with rfl | rfl | rfl
  ·rw [hnl] at h3; cases h3
  ·rw [hr] at h3; cases h3
  ·exact h1 rfl) H6 (fun b x hx => l36 _ _ (hKB1 b x hx).2) ⟨rfl, vl6, vr6, l36 _ _ vbb3⟩ p hp (l36 _ _ vtb) (l36 _ _ vgb3)
 refine hrun.runs.mono ?_
 clear hrun hC hC' hround
 rintro _ H7 ⟨rfl, ⟨_, vl7, vr7, vbb7⟩, hfr7⟩
 refine Bqe vl7 hlo1 hlo2 ?_
 have ncS : ¬ (cb = l ∨ cb = r ∨ cb = bb) := fun h => by
  rcases h with rfl | rfl | rfl
  ·rw [hnl] at vc3; cases vc3
  ·rw [hr] at vc3; cases vc3
  ·exact hbx _ _ vc rfl
 have vc7 := hfr7 _ _ ncS (l36 _ _ vc3)
 have nbl : bb ≠ l := fun e => by rw [e, vl7] at vbb7; cases vbb7
 have vc9 : (H7.set l (.loop { lo with state := .exhausted })) cb = _ := (Aqp (fun e => ncS (.inl e))).trans vc7
 have vbb9 : (H7.set l (.loop { lo with state := .exhausted })) bb = _ := (Aqp nbl).trans vbb7
 have vr9 : (H7.set l (.loop { lo with state := .exhausted })) r = _ := (Aqp hlr).trans vr7
 generalize H7.set l (.loop { lo with state := .exhausted }) = H9 at *
 generalize bdT F ((Aq0 (xss.drop 1)).map (p :: ·)) = B at *
 clear vl7 vr7 vbb7 vc7 hfr7 vl6 vr6 l36 hKB1 hKB2 hKK hbx
 refine (show WPG Tryz.prog (.own false) _ (G (fat (baseD 124) _ _) _) H9 from ?_)
 refine WPG.regionX (WPG.op (rest := [1, 2]) rfl rfl (by simp [baseD]) rfl ?_)
 unfold opX
 change wpS _ (execOp _ ⟨some 20, .load _ (.tmp 4), _, _, _, _⟩) _ _ _
 (refine @unH _ ?_; refine z7 Axv ?_)
 refine (show WPG Tryz.prog (.own false) _ (G (fat (baseD 124) ((act 22 e _).put (some 20) _) _) _) H9 from ?_)
 rw [Aqn (by decide)]
 refine WPG.op (rest := [2]) rfl rfl (by simp [baseD]) rfl ?_
 unfold opX
 change wpS _ (execOp _ ⟨some 21, .load _ (.tmp 5), _, _, _, _⟩) _ _ _
 obtain ⟨lo, hi, sm⟩ := B
 (refine @unH _ ?_; refine z7 Axv ?_)
 refine (show WPG Tryz.prog (.own false) _ (G (fat (baseD 124) ((act 22 _ _).put (some 21) _) _) _) H9 from ?_)
 rw [Aqn (by decide)]
 refine .stop (Dkl wgLib rfl rfl (fun w => Cwn (by rw [Aqm (by decide)]; rfl) (by rw [Aqm (by decide)]; rfl) w) rfl vr9 Tryz.func124 Tryz.results124) (Hp.le_refl _)
end Go.Proofs.YtgniilnljeedlaaGreatDoor
end
section
namespace Go.Proofs.YtgniilnljeedlaaGreatDoor
open Go Go.X
def IsBd (b : Bd) (P : Int -> Prop) : Prop := b.some = true /\ P b.lo /\ P b.hi /\ ∀ x, P x -> b.lo <= x /\ x <= b.hi
theorem IsBd.ext {b b' : Bd} {P : Int -> Prop} (h : IsBd b P) (h' : IsBd b' P) : b = b' := by
 obtain ⟨lo, hi, sm⟩ := b
 obtain ⟨lo', hi', sm'⟩ := b'
 obtain ⟨h1, h2, h3, h4⟩ := h
 obtain ⟨k1, k2, k3, k4⟩ := h'
 simp only at *
 have a1 := h4 _ k2
 have a2 := h4 _ k3
 have b1 := k4 _ h2
 have b2 := k4 _ h3
 subst h1 k1
 simp only [Bd.mk.injEq, and_true]
 omega
theorem IsBd.congr {b : Bd} {P Q : Int -> Prop} (h : IsBd b P) (hq : ∀ x, P x ↔ Q x) : IsBd b Q := ⟨h.1, (hq _).1 h.2.1, (hq _).1 h.2.2.1, fun x hx => h.2.2.2 x ((hq x).2 hx)⟩
theorem IsBd.add {b : Bd} {P : Int -> Prop} (h : IsBd b P) (x : Int) : IsBd (Ak0 b x) fun y => P y ∨ y = x := by
 obtain ⟨lo, hi, sm⟩ := b
 obtain ⟨h1, h2, h3, h4⟩ := h
 simp only at *
 subst h1
 have h5 := h4 _ h2
 simp only [Ak0, if_true]
 refine ⟨rfl, ?_, ?_, fun y hy => ?_⟩
 ·simp only
  rcases Int.le_total lo x with hl | hl
  ·rw [Int.min_eq_left hl]; exact .inl h2
  ·rw [Int.min_eq_right hl]; exact .inr rfl
 ·simp only
  rcases Int.le_total hi x with hl | hl
  ·rw [Int.max_eq_right hl]; exact .inr rfl
  ·rw [Int.max_eq_left hl]; exact .inl h3
 ·simp only
  rcases hy with hy | rfl
  ·have := h4 y hy; omega
  ·omega
theorem IsBd.one {b : Bd} (h : b.some = false) (x : Int) : IsBd (Ak0 b x) fun y => y = x := by
 obtain ⟨lo, hi, sm⟩ := b
 simp only at h
 subst h
 exact ⟨rfl, rfl, rfl, fun y hy => by subst hy; exact ⟨Int.le_refl _, Int.le_refl _⟩⟩
theorem Cks (F : List Int -> Int) : ∀ (L : List (List Int)), L ≠ [] -> IsBd (bdT F L) fun x => ∃ t ∈ L, F t = x
 | [], h => absurd rfl h
 | t :: L, _ => by
  have key : ∀ (L : List (List Int)) (b : Bd) (P : Int -> Prop), IsBd b P -> IsBd (L.foldl (fun b t => Ak0 b (F t)) b) fun x => P x ∨ ∃ t ∈ L, F t = x := by
   intro L
   induction L with
   | nil => intro b P h; exact h.congr fun x => by simp
   | cons t L ih =>
    intro b P h
    refine (ih _ _ (h.add (F t))).congr fun x => ?_
    simp only [List.mem_cons, exists_eq_or_imp]
    constructor
    ·rintro ((h | h) | h)
     ·exact .inl h
     ·exact .inr (.inl h.symm)
     ·exact .inr (.inr h)
    ·rintro (h | h | h)
     ·exact .inl (.inl h)
     ·exact .inl (.inr h.symm)
     ·exact .inr h
  refine (key L _ _ (IsBd.one (b := bd0) rfl (F t))).congr fun x => ?_
  simp only [List.mem_cons, exists_eq_or_imp]
  exact ⟨fun h => h.imp (fun h => h.symm) id, fun h => h.imp (fun h => h.symm) id⟩
def bdJ (b : Bd) (L : List Bd) : Bd := L.foldl (fun b x => Ak0 (Ak0 b x.lo) x.hi) b
theorem Cyh (b : Bd) (L : List Bd) (x : Bd) : bdJ b (L ++ [x]) = [x.lo, x.hi].foldl Ak0 (bdJ b L) := by simp [bdJ]
theorem Djo {α : Type} (P : α -> Int -> Prop) (f : α -> Bd) (h : ∀ a, IsBd (f a) (P a)) : ∀ (L : List α), L ≠ [] -> IsBd (bdJ bd0 (L.map f)) fun x => ∃ a ∈ L, P a x := by
 have key : ∀ (L : List α) (b : Bd) (Q : Int -> Prop), IsBd b Q -> IsBd (bdJ b (L.map f)) fun x => Q x ∨ ∃ a ∈ L, P a x := by
  intro L
  induction L with
  | nil => intro b Q h; exact h.congr fun x => by simp
  | cons a L ih =>
   intro b Q hb
   have h1 : IsBd (Ak0 (Ak0 b (f a).lo) (f a).hi) fun x => Q x ∨ P a x := by
    obtain ⟨k1, k2, k3, k4⟩ := (hb.add (f a).lo).add (f a).hi
    have ha := h a
    have hin : ∀ x, (Q x ∨ x = (f a).lo) ∨ x = (f a).hi -> Q x ∨ P a x := by
     rintro x ((hx | rfl) | rfl)
     ·exact .inl hx
     ·exact .inr ha.2.1
     ·exact .inr ha.2.2.1
    refine ⟨k1, hin _ k2, hin _ k3, fun x hx => ?_⟩
    rcases hx with hx | hx
    ·exact k4 x (.inl (.inl hx))
    ·have h5 := ha.2.2.2 x hx
     have h6 := k4 _ (.inl (.inr rfl))
     have h7 := k4 _ (.inr rfl)
     omega
   refine (ih _ _ h1).congr fun x => ?_
   simp only [List.mem_cons, exists_eq_or_imp]
   exact or_assoc
 intro L hL
 cases L with
 | nil => exact absurd rfl hL
 | cons a L =>
  have h1 : IsBd (Ak0 (Ak0 bd0 (f a).lo) (f a).hi) (P a) := by
   obtain ⟨k1, k2, k3, k4⟩ := (IsBd.one (b := bd0) rfl (f a).lo).add (f a).hi
   have ha := h a
   have hin : ∀ x, x = (f a).lo ∨ x = (f a).hi -> P a x := by
    rintro x (rfl | rfl)
    ·exact ha.2.1
    ·exact ha.2.2.1
   refine ⟨k1, hin _ k2, hin _ k3, fun x hx => ?_⟩
   have h5 := ha.2.2.2 x hx
   have h6 := k4 _ (.inl rfl)
   have h7 := k4 _ (.inr rfl)
   omega
  refine (key L _ _ h1).congr fun x => ?_
  simp only [List.mem_cons, exists_eq_or_imp]
theorem Ays : ∀ (xss : List (List Int)), (∀ l ∈ xss, l ≠ []) -> Aq0 xss ≠ []
 | [], _ => by simp [Aq0]
 | l :: xss, h => by
  have h1 := Ays xss fun l hl => h l (List.mem_cons_of_mem _ hl)
  have h2 := h l List.mem_cons_self
  obtain ⟨p, hp⟩ := List.exists_mem_of_ne_nil _ h2
  obtain ⟨t, ht⟩ := List.exists_mem_of_ne_nil _ h1
  simp only [Aq0]
  exact List.ne_nil_of_mem (List.mem_flatMap.2 ⟨p, hp, List.mem_map.2 ⟨t, ht, rfl⟩⟩)
theorem Cz2 (F : List Int -> Int) (l : List Int) (xss : List (List Int)) (hl : l ≠ []) (h : ∀ l ∈ xss, l ≠ []) (R : List Int) (hR : R.Perm l) :
  bdJ bd0 (R.map fun p => bdT F ((Aq0 xss).map (p :: ·))) = bdT F (Aq0 (l :: xss)) := by
 have hne := Ays xss h
 have h1 := Djo (fun p x => ∃ t ∈ (Aq0 xss).map (p :: ·), F t = x) (fun p : Int => bdT F ((Aq0 xss).map (p :: ·))) (fun p => Cks F _ (by simpa using hne)) R (fun e => by subst e; exact hl (List.nil_perm.1 hR))
 have h2 := Cks F (Aq0 (l :: xss)) (Ays _ fun l' hl' => (List.mem_cons.1 hl').elim (fun e => e ▸ hl) (h l'))
 refine h1.ext (h2.congr fun x => ?_)
 simp only [Aq0, List.mem_flatMap]
 constructor
 ·rintro ⟨t, ⟨p, hp, ht⟩, rfl⟩
  exact ⟨p, hR.mem_iff.2 hp, t, ht, rfl⟩
 ·rintro ⟨p, hp, t, ht, rfl⟩
  exact ⟨t, ⟨p, hR.mem_iff.1 hp, ht⟩, rfl⟩
def Bwm (H : Hp) (mv : Value) (pl : Int) (start : List Int) (F : List Int -> Int) : Prop := ∀ main base, Aj6 H base -> Ckl main base mv pl start TrA F
theorem Aj6.of {H H' : Hp} (h : H.le H') : Aj6 H H' := fun b p c t fr hb => ⟨p, h _ _ hb⟩
theorem Aj6.trans {H H' H'' : Hp} (h : Aj6 H H') (h' : Aj6 H' H'') : Aj6 H H'' := fun b p c t fr hb => let ⟨p', h1⟩ := h b p c t fr hb; h' b p' c t fr h1
theorem Bwm.le {H H' : Hp} {mv : Value} {pl : Int} {start : List Int} {F : List Int -> Int} (h : Bwm H mv pl start F) (hl : Aj6 H H') : Bwm H' mv pl start F := fun main base hb => h main base (hl.trans hb)
theorem Awa (H : Hp) (pl : Int) (start : List Int) (hs : StA start) : Bwm H (.func (.func 129) #[] #[]) pl start (fewF pl start) := fun main base _ => Bw6 main base pl start hs
theorem Bv7 (H : Hp) (pl : Int) (start : List Int) (hs : StA start) (r : Int) (hr0 : 0 <= r) (hr3 : r <= 3) (rb : Nat) (q : Bool) (hrb : H rb = some (q, .cells #[Aju r] 82 (0, 0))) :
 Bwm H (.func (.func 130) #[] #[.pointer (some ⟨rb, 0, none⟩)]) pl start (fun ts => fetF pl r start ts - fewF pl start ts) := fun main base hb => let ⟨q', h⟩ := hb _ _ _ _ _ hrb; Bym main base pl start hs r hr0 hr3 rb q' h
end Go.Proofs.YtgniilnljeedlaaGreatDoor
end
section
namespace Go.X
open Go
open Go.Conc
theorem Bj6 {P : Program} {γ : GhW} {Q : Ckm} {a : Act} {H : Hp} {c : Operand} {x y : Code} {t : Bool} (ht : a.eval c = .bool t) (h1 : t = true -> wpV P x Q γ a H) (h2 : t = false -> wpV P y Q γ a H) : wpV P (.cond c x y) Q γ a H := by
 refine Dxb ht ?_
 cases t
 ·exact h2 rfl
 ·exact h1 rfl
theorem Byh {P : Program} {γ : GhW} {Q : Ckm} {a : Act} {H : Hp} {ops : Array Oper} {todo : List Nat} (h : ∀ K : Act -> Hp -> Prop, (∀ a' H', Q γ .normal a' H' -> K a' H') -> runX P (.own true) none ops (only K) todo a H) : opsV P ops todo Q γ a H :=
 Dqw fun b k cs Stop hk hl hc => Avz (h _ fun _ _ h => h) b k cs Stop hk hl fun e a' H' q => by
  cases e <;> first | exact hc _ _ _ q | exact q.elim
theorem Byk {P : Program} {a : Act} {d : Option Tmp} {ty t : TypeId} {pos : String} {af : Array Edge} {g : Option (Nat × Bool)} {x : Operand} {c : Nat} {z : Value} {e : TypeId} {dir : ChanDir} (hx : a.eval x = .chan (some c)) (hu : P.underlying t = some (.chan dir e)) (hz : ∀ w, (zeroValue e).run P w = .ok z w) (w : World) :
  (execOp a.eval ⟨d, .recv t x true, ty, pos, af, g⟩).runT P w #[] = (.ok (.comm #[rcase c z] true (.recv true)) w, #[]) := by
 simp [execOp, hx, rcase, hz, underlying, program, Sem.run, hu]
 rfl
end Go.X
namespace Go.Proofs.YtgniilnljeedlaaGreatDoor
open Go Go.X
def Avn := And.intro (fun H => Aq1 (H := H) (P := Tryz.prog) (h := Tryz.zeroValue120)) (And.intro (fun H => Aqh (H := H) Tryz.underlying25 (i := 3) rfl (off := 3) rfl Tryz.sizeOf23) (And.intro (fun H => Aqd (H := H) Tryz.underlying23 rfl) (And.intro (fun H => Aq5 (H := H) Tryz.underlying23) (And.intro (fun H => Aqh (H := H) Tryz.underlying124 (i := 0) rfl (off := 0) rfl Tryz.sizeOf122) (And.intro (fun H => Aqd (H := H) Tryz.underlying122 rfl) (And.intro (fun H => Aqx (H := H) Tryz.underlying25 rfl Tryz.sizeOf25) (And.intro @Bz9 (And.intro @Axp (And.intro (fun H => Aqx (H := H) Tryz.underlying120 rfl Tryz.sizeOf120) (And.intro (fun H => Aq4 (H := H) Tryz.sizeOf120) (And.intro @Bjd (And.intro (fun H => Bjn (H := H) Tryz.underlying166 Tryz.typeInfo120 (by decide)) (And.intro (fun H => Aq1 (H := H) (P := Tryz.prog) (h := Tryz.zeroValue166)) (And.intro (fun H => Bzk (H := H) Tryz.sizeOf166) (And.intro (fun H => Aq1 (H := H) (P := Tryz.prog) (h := Tryz.zeroValue174)) (And.intro (fun H => Aqq (H := H) Tryz.underlying23 Tryz.sizeOf22) (And.intro (fun H => Aqd (H := H) Tryz.underlying22 rfl) (And.intro (fun H => Aq5 (H := H) Tryz.underlying22) (And.intro (fun H => Aqq (H := H) Tryz.underlying22 Tryz.sizeOf3) (And.intro (fun H => Aqd (H := H) Tryz.underlying3 rfl) (And.intro (fun H => Aq1 (H := H) (P := Tryz.prog) (h := Tryz.zeroValue3)) (And.intro (fun H => Axo (H := H) Tryz.sizeOf3) (And.intro (fun H => Aqd (H := H) Tryz.underlying166 rfl) (And.intro (fun H => Aqh (H := H) Tryz.underlying120 (i := 0) rfl (off := 0) rfl Tryz.sizeOf3) (And.intro (fun H => Aqh (H := H) Tryz.underlying120 (i := 1) rfl (off := 1) rfl Tryz.sizeOf3) @Ajl)))))))))))))))))))))))))
open Go.Conc (G baseD rcase scase)
def sndC : Code -> Code
 | .seq _ y => y
 | c => c
theorem Cwf (H H8 C H9 : Hp) (c wg tb ob bb : Nat) (l : List Int) (f : Int -> Bd) (e : Nat -> Value) (X : Bd)
  (e4 : e 4 = .pointer (some ⟨ob, 0, none⟩)) (e5 : e 5 = .pointer (some ⟨bb, 0, none⟩)) (e6 : e 6 = .func (.func 122) #[.pointer (some ⟨bb, 0, none⟩)] #[]) (e7 : e 7 = .pointer (some ⟨tb, 0, none⟩)) (e8 : e 8 = .pointer (some ⟨wg, 0, none⟩))
  (lS9 : C.leS H9) (vbb9 : H9 bb = some (true, bdO bd0)) (hCle : H.le C) (l08 : H.le H8) (vtbC : C tb = some (true, .cells #[.chan (some c)] 166 (0, 0))) (vobC : C ob = some (true, bdO bd0)) (vob8 : H8 ob = some (true, bdO bd0)) (hl6 : l.length <= 6) (ntb : tb ≠ bb) (nob : ob ≠ bb) (h0ob : H ob = none) (h0bb : H bb = none) (hCbb : C bb = none)
  (hres : ∀ Rp : List Int, Rp.Perm l -> bdJ bd0 (Rp.map f) = X) :
  wpV Tryz.prog (sndC (sndC (sndC (sndC (sndC (sndC (sndC ((Tryz.f97).body.getD .skip)))))))) (fun γ e a H' => γ = .idle /\ Cqj Tryz.prog (.wg Tryz.prog) Tryz.f97 (fun e H' => e = .returned (bdV X) /\ H.le H') e a H') (.busy c wg lk.tWg l.length 0 (l.reverse.map fun p => bdV (f p)) false (fun b => ∃ o, H8 b = some (true, o))) (act 52 e []) H9 := by
 have hcl := fun (m : Nat) => Cqt (H9.hand bb) c wg tb m (by obtain ⟨p', h1, _⟩ := lS9 _ _ _ vtbC; exact Hp.hand_some h1 ntb)
 show wpV _ (.seq (.region _ _ false) (.seq (.seq (.region _ _ false) (.block 2 (.loop _))) _)) _ _ _ _
 refine Aj2 (Av3 (Byg rfl rfl (Bz0 (K := fun a' H' => ∃ e', a' = act 52 e' [] /\ H9 = H' /\ e' 39 = .func (.func 127) #[] #[.pointer (some ⟨wg, 0, none⟩), .pointer (some ⟨tb, 0, none⟩)] /\
   e' 4 = .pointer (some ⟨ob, 0, none⟩) /\ e' 5 = .pointer (some ⟨bb, 0, none⟩) /\ e' 6 = .func (.func 122) #[.pointer (some ⟨bb, 0, none⟩)] #[] /\ e' 7 = .pointer (some ⟨tb, 0, none⟩)) ?_ ?_)))
 ·unfold opX
  change wpS _ (execOp _ ⟨some 39, .makeFunc (.func 127) #[] #[.tmp 8, .tmp 7], _, _, _, _⟩) _ _ _
  rw [Bqm]
  refine ⟨_, Aqn (by decide), rfl, ?_, e4, e5, e6, e7⟩
  simp only [Aqr, ↓reduceIte, List.map_toArray, List.map_cons, List.map_nil, Aqm, Nat.reduceLT, Nat.reduceEqDiff, e7, e8]
 ·clear e4 e5 e6 e7 e8
  rintro _ _ ⟨e', rfl, rfl, e39, e4, e5, e6, e7⟩
  refine Cv8 rfl rfl (by simp) (fun w hw => Cvu (by rw [Aqm (by decide)]; exact e39) w) rfl Hp.hand_lend Hp.lend_own (hcl _) (Bv1 ?_)
  have hle10 := lS9.trans (Hp.lend_leS (eb := bb))
  have vbbL : (H9.lend bb) bb = _ := Hp.lend_at.trans vbb9
  generalize H9.lend bb = H11 at *
  clear hcl lS9 vbb9 e39
  show wpV _ _ _ _ (act 52 e' []) _
  obtain ⟨pt, vtb11, _⟩ := hle10 _ _ _ vtbC
  refine Aj2 (Aj2 (Bqw ?_))
  (refine @unH _ ?_; refine zA Avn ?_; (repeat (refine inC ?_; intro hc)); try (refine inK ?_; intro K hK))
  have hLV0 : (l.reverse.map fun p => bdV (f p)).Perm (l.map fun p => bdV (f p)) := (List.reverse_perm l).map _
  have hn : (l.reverse.map fun p => bdV (f p)).length = l.length := by simp
  generalize (l.reverse.map fun p => bdV (f p)) = LV0 at *
  refine Bj5 (Czp (fun w γ a' H' => ∃ (e : Nat -> Value) (L : List Int) (LV : List Value) (R : List Int), w = L.length + 1 /\ γ = .busy c wg lk.tWg l.length 0 LV true (fun b => ∃ o, H8 b = some (true, o)) /\ LV.Perm (L.map fun p => bdV (f p)) /\ (R ++ L).Perm l /\ a' = act 52 e [] /\ e 4 = .pointer (some ⟨ob, 0, none⟩) /\ e 5 = .pointer (some ⟨bb, 0, none⟩) /\ e 6 = .func (.func 122) #[.pointer (some ⟨bb, 0, none⟩)] #[] /\ e 40 = .chan (some c) /\
   C.leS H' /\ H' bb = some (true, bdO (bdJ bd0 (R.map f)))) (n := l.length + 1) ?_ ?_)
  ·exact ⟨_, l, LV0, [], rfl, rfl, hLV0, .refl _, rfl, e4, e5, e6, rfl, hle10, vbbL⟩
  ·clear e4 e5 e6 e7 hle10 vbbL hLV0 hn vtb11
   rename_i eold
   clear eold
   rintro w γ a' H12 ⟨e, L, LV, R, rfl, rfl, hLV, hperm, rfl, e4, e5, e6, e40, lS12, vbb12⟩
   cases L with
   | nil =>
    obtain rfl : LV = [] := by simpa using hLV
    refine Aj2 (Av3 (Cwa (z := .agg #[.int .i64 0, .int .i64 0, .bool false]) (fun b => (H12 b).map fun z => (z.1 || @decide (∃ o, H8 b = some (true, o)) (Classical.propDecidable _), z.2)) rfl rfl (fun w hw => Byk (by rw [Aqm (by decide)]; exact e40) Tryz.underlying166 Tryz.zeroValue120 w) (fun b p o hb => ?_) (Byh ?_)))
    ·simp only [Option.map_eq_some_iff] at hb
     obtain ⟨⟨p', o'⟩, h1, h2⟩ := hb
     simp only [Prod.mk.injEq] at h2
     obtain ⟨h2, rfl⟩ := h2
     refine ⟨p', h1, fun hp => ?_⟩
     rw [hp] at h2
     rcases Bool.or_eq_true_iff.1 h2 with h2 | h2
     ·exact .inl h2
     ·exact .inr (@of_decide_eq_true _ (Classical.propDecidable _) h2)
    ·obtain ⟨G', hGe⟩ : ∃ G' : Hp, G' = fun b => (H12 b).map fun z => (z.1 || @decide (∃ o, H8 b = some (true, o)) (Classical.propDecidable _), z.2) := ⟨_, rfl⟩
     rw [<- hGe]
     have hGx : ∀ b o, (∃ o', H8 b = some (true, o')) -> (∃ p, H12 b = some (p, o)) -> G' b = some (true, o) := fun b o h8 ⟨p, h12⟩ => by
      rw [hGe]
      simp only [h12, Option.map_some, Option.some.injEq, Prod.mk.injEq, and_true]
      rw [Bool.or_eq_true_iff]
      exact .inr (@decide_eq_true _ (Classical.propDecidable _) h8)
     have hback : Aqs (H.le G') := fun x u hx => by
      obtain ⟨p, o⟩ := u
      obtain ⟨p', h1, h2⟩ := lS12 _ _ _ (hCle _ _ hx)
      have h8 := l08 _ _ hx
      rw [hGe]
      simp only [h1, Option.map_some, Option.some.injEq, Prod.mk.injEq, and_true]
      cases p with
      | true => rw [Bool.or_eq_true_iff]; exact .inr (@decide_eq_true _ (Classical.propDecidable _) ⟨_, h8⟩)
      | false =>
       rw [Bool.or_eq_false_iff]
       refine ⟨by cases hp : p' with | false => rfl | true => exact absurd (h2 hp) (by simp), @decide_eq_false _ (Classical.propDecidable _) (fun ⟨o', h9⟩ => by rw [h8] at h9; cases h9)⟩
     have vobG := hGx ob _ ⟨_, vob8⟩ (let ⟨p', h1, _⟩ := lS12 _ _ _ vobC; ⟨p', h1⟩)
     have vbbG : G' bb = some (true, bdO (bdJ bd0 (R.map f))) := by rw [hGe]; simp [vbb12]
     have hX : Aqs (bdJ bd0 (R.map f) = X) := hres R (by simpa using hperm)
     clear hGx hGe vbb12 lS12
     generalize bdJ bd0 (R.map f) = B at *
     obtain ⟨blo, bhi, bsm⟩ := B
     intro K hK
     change runX _ _ _ _ _ _ ((act 52 e []).put (some 41) (.tuple #[.agg #[.int .i64 0, .int .i64 0, .bool false], .bool false])) _
     rw [Aqn (by decide)]
     (refine @unH _ ?_; refine zX Avn ?_)
     refine hK _ _ ?_
     clear hK K
     (try simp only [nq, ↓reduceIte, Nat.reduceEqDiff])
     refine Aj2 (Bj6 (by simp only [Aqm, Aqr, Nat.reduceEqDiff, Nat.reduceLT, ↓reduceIte, *]; rfl) ?_ ?_) <;> intro hc
     ·cases hc
     ·clear hc
      refine Czo ?_
      (try simp only [nq, ↓reduceIte, Nat.reduceEqDiff])
      refine Bqw ?_
      (refine @unH _ ?_; refine zA Avn ?_; (repeat (refine inC ?_; intro hc)); try (refine inK ?_; intro K hK))
      refine Ax8 ?_
      (try simp only [nq, ↓reduceIte, Nat.reduceEqDiff])
      refine ⟨by trivial, ?_⟩
      rw [Axw, Ajb Tryz.results97 (by decide) (b := ob) (o := 0) ?hcell Tryz.underlying120 rfl Tryz.sizeOf120]
      case hcell => exact e4
      (refine @unH _ ?_; refine z7 (And.intro Avn @Ajm) ?_)
      refine ⟨?_, fun b x hx => ?_⟩
      ·rw [<- show (⟨blo, bhi, bsm⟩ : Bd) = X from hX]; first | rfl | done
      ·rw [Aqp (fun h => by rw [h, h0ob] at hx; cases hx)]
       exact (show H.le G' from hback) _ _ hx
   | cons q0 L0 =>
    have hne : LV ≠ [] := fun h => by rw [h] at hLV; simp at hLV
    refine Aj2 (Av3 (Cv9 (z := .agg #[.int .i64 0, .int .i64 0, .bool false]) rfl rfl hne (fun w hw => Byk (by rw [Aqm (by decide)]; exact e40) Tryz.underlying166 Tryz.zeroValue120 w) fun v L' hpv => Byh ?_))
    obtain ⟨q, L1, rfl, hpq, hL1⟩ : ∃ q L1, v = bdV (f q) /\ (q0 :: L0).Perm (q :: L1) /\ L'.Perm (L1.map fun p => bdV (f p)) := by
     have hmem : v ∈ (q0 :: L0).map fun p => bdV (f p) := (hLV.symm.trans hpv).mem_iff.2 (by simp)
     obtain ⟨q, hq, rfl⟩ := List.mem_map.1 hmem
     have h1 := List.perm_cons_erase hq
     exact ⟨q, _, rfl, h1, (List.perm_cons _).1 (hpv.symm.trans (hLV.trans (h1.map _)))⟩
    have hlen1 : (q0 :: L0).length = L1.length + 1 := by rw [hpq.length_eq]; rfl
    have hperm' : ((R ++ [q]) ++ L1).Perm l := by
     rw [List.append_assoc]
     exact ((hpq.symm.append_left R)).trans hperm
    have hsn : bdJ bd0 ((R ++ [q]).map f) = [(f q).lo, (f q).hi].foldl Ak0 (bdJ bd0 (R.map f)) := by rw [List.map_append, List.map_singleton, Cyh]
    rw [hlen1]
    generalize hB1e : bdJ bd0 ((R ++ [q]).map f) = B1 at *
    replace hB1e : Aqs _ := hB1e
    generalize bdJ bd0 (R.map f) = B0 at *
    generalize f q = x at *
    replace hsn : Aqs _ := hsn
    clear hperm hLV hpq hpv hlen1
    obtain ⟨xlo, xhi, xsm⟩ := x
    intro K hK
    change runX _ _ _ _ _ _ ((act 52 e []).put (some 41) (.tuple #[.agg #[.int .i64 xlo, .int .i64 xhi, .bool xsm], .bool true])) _
    rw [Aqn (by decide)]
    (refine @unH _ ?_; refine zX Avn ?_)
    refine hK _ _ ?_
    clear hK K
    (try simp only [nq, ↓reduceIte, Nat.reduceEqDiff])
    refine Aj2 (Bj6 (by simp only [Aqm, Aqr, Nat.reduceEqDiff, Nat.reduceLT, ↓reduceIte, *]; rfl) ?_ ?_) <;> intro hc
    ·clear hc
     refine Czq ?_
     (try simp only [nq, ↓reduceIte, Nat.reduceEqDiff])
     refine Bqw ?_
     (refine @unH _ ?_; refine zA Avn ?_; (repeat (refine inC ?_; intro hc)); try (refine inK ?_; intro K hK))
     intro xb hxb
     have nxb : bb ≠ xb := Ax1 vbb12 hxb
     ((try (refine @unH _ ?_; refine zX Avn ?_)); (try (refine hK _ _ ?_; clear hK K; (try simp only [nq, ↓reduceIte, Nat.reduceEqDiff]))); refine @unH _ ?_; refine zA Avn ?_; (repeat (refine inC ?_; intro hc)); try (refine inK ?_; intro K hK))
     intro g2 hg2
     replace hg2 : (Hp.set H12 xb (.cells #[.int .i64 xlo, .int .i64 xhi, .bool xsm] 120 (0, 0))) g2 = none := hg2
     generalize hG : Hp.set H12 xb _ = H13 at hg2 ⊢
     have vbb13 := Azf hG vbb12 nxb
     have lS13 : C.leS H13 := by rw [<- hG]; exact lS12.set (Bvt lS12 hxb)
     clear hG
     generalize hG : Hp.set H13 g2 _ = H14
     have vg2 := Aqf hG
     have vbb14 := Azf hG vbb13 (Ax1 vbb13 hg2)
     have lS14 : C.leS H14 := by rw [<- hG]; exact lS13.set (Bvt lS13 hg2)
     clear hG vbb13 lS13 vbb12 lS12
     have hsl : SlI H14 (.slice (some ⟨g2, 0, none⟩) 2 2) [xlo, xhi] := ⟨_, _, rfl, by simp, fun i y hi => by
      have := (List.getElem?_eq_some_iff.1 hi).1
      rcases (by simp at this; omega : i = 0 ∨ i = 1) with rfl | rfl
      ·simp at hi; subst hi; exact ⟨g2, 0, _, _, _, rfl, vg2, by simp⟩
      ·simp at hi; subst hi; exact ⟨g2, 0, _, _, _, rfl, vg2, by simp⟩⟩
     rw [Bvd, Ax9]
     simp only [Array.append_empty, List.append_toArray, List.cons_append, List.nil_append]
     refine (Bk5 _ H14 bb B0 _ [xlo, xhi] hsl vbb14 (by simp)).runs.mono ?_
     rintro _ H15 ⟨rfl, vbb15, hoth⟩
     replace vbb15 : H15 bb = some (true, bdO B1) := by rw [vbb15, show B1 = _ from hsn]
     clear hsl vbb14 vg2
     replace hoth : Aqs _ := hoth
     ((try (refine @unH _ ?_; refine zX Avn ?_)); (try (refine hK _ _ ?_; clear hK K; (try simp only [nq, ↓reduceIte, Nat.reduceEqDiff]))); refine @unH _ ?_; refine zA Avn ?_; (repeat (refine inC ?_; intro hc)); try (refine inK ?_; intro K hK))
     refine ⟨L1.length + 1, by omega, _, L1, L', R ++ [q], rfl, rfl, hL1, hperm', rfl, e4, e5, e6, e40, fun b p o hb => ?_, ?_⟩
     ·obtain ⟨p', h1, h2⟩ := lS14 b p o hb
      exact ⟨p', ((show ∀ x, x ≠ bb -> H15 x = H14 x from hoth) b fun h => by rw [h, hCbb] at hb; cases hb).trans h1, h2⟩
     ·rw [vbb15, show bdJ bd0 ((R ++ [q]).map f) = B1 from hB1e]
    ·cases hc
end Go.Proofs.YtgniilnljeedlaaGreatDoor
end
section
namespace Go.Proofs.YtgniilnljeedlaaGreatDoor
open Go Go.X
def Axu := And.intro (fun H => Aq1 (H := H) (P := Tryz.prog) (h := Tryz.zeroValue120)) (And.intro (fun H => Aqh (H := H) Tryz.underlying25 (i := 3) rfl (off := 3) rfl Tryz.sizeOf23) (And.intro (fun H => Aqd (H := H) Tryz.underlying23 rfl) (And.intro (fun H => Aq5 (H := H) Tryz.underlying23) (And.intro (fun H => Aqh (H := H) Tryz.underlying124 (i := 0) rfl (off := 0) rfl Tryz.sizeOf122) (And.intro (fun H => Aqd (H := H) Tryz.underlying122 rfl) (And.intro (fun H => Aqx (H := H) Tryz.underlying25 rfl Tryz.sizeOf25) (And.intro @Bz9 (And.intro @Axp (And.intro (fun H => Aqx (H := H) Tryz.underlying120 rfl Tryz.sizeOf120) (And.intro (fun H => Aq4 (H := H) Tryz.sizeOf120) (And.intro @Bjd (And.intro (fun H => Bjn (H := H) Tryz.underlying166 Tryz.typeInfo120 (by decide)) (And.intro (fun H => Aq1 (H := H) (P := Tryz.prog) (h := Tryz.zeroValue166)) (And.intro (fun H => Bzk (H := H) Tryz.sizeOf166) (And.intro (fun H => Aq1 (H := H) (P := Tryz.prog) (h := Tryz.zeroValue174)) (And.intro (fun H => Aqq (H := H) Tryz.underlying23 Tryz.sizeOf22) (And.intro (fun H => Aqd (H := H) Tryz.underlying22 rfl) (And.intro (fun H => Aq5 (H := H) Tryz.underlying22) (And.intro (fun H => Aqq (H := H) Tryz.underlying22 Tryz.sizeOf3) (And.intro (fun H => Aqd (H := H) Tryz.underlying3 rfl) (And.intro (fun H => Aq1 (H := H) (P := Tryz.prog) (h := Tryz.zeroValue3)) (And.intro (fun H => Axo (H := H) Tryz.sizeOf3) (And.intro (fun H => Aqd (H := H) Tryz.underlying166 rfl) (And.intro (fun H => Aqh (H := H) Tryz.underlying120 (i := 0) rfl (off := 0) rfl Tryz.sizeOf3) (And.intro (fun H => Aqh (H := H) Tryz.underlying120 (i := 1) rfl (off := 1) rfl Tryz.sizeOf3) @Ajl)))))))))))))))))))))))))
open Go.Conc (G baseD rcase scase)
theorem SlR.cl {H H' : Hp} {w : Value} {xss : List (List Int)} (hw : SlR H w xss) (hl : Aj6 H H') : SlR H' w xss := by
 obtain ⟨a, cap, h1, h2, h3⟩ := hw
 refine ⟨a, cap, h1, h2, fun i x hx => ?_⟩
 obtain ⟨b, o, p, c, fr, u, h4, h5, h6, h7⟩ := h3 i x hx
 obtain ⟨p', h8⟩ := hl _ _ _ _ _ h5
 exact ⟨b, o, p', c, fr, u, h4, h8, h6, h7.cl hl⟩
theorem Bxg (H : Hp) (places pieces : Int) (sv cv : Value) (start : List Int) (xss : List (List Int)) (mv : Value) (F : List Int -> Int)
  (hst : SlI H sv start) (hcs : SlR H cv xss) (hok : Az7 places pieces start xss) (hl8 : xss.length <= 8) (hmv : Bwm H mv places start F) :
  FnX Tryz.prog (.wg Tryz.prog) 97 #[.agg #[.int .i64 places, .int .i64 pieces, sv, cv], .agg #[mv]] H fun e H' => e = .returned (bdV (bdT F (Aq0 xss))) /\ H.le H' := by
 obtain ⟨sa, sn, sc, rfl⟩ := hst.isSlice
 obtain ⟨ca, cc, rfl, hcc, _⟩ := id hcs
 refine Aqk Tryz.func97 rfl Tryz.ntmps97 (by simp) ?_
 (refine @unH _ ?_; refine zA Axu ?_; (repeat (refine inC ?_; intro hc)); try (refine inK ?_; intro K hK))
 intro vx hvx mx hmx ob hob
 replace hmx : (Hp.set H vx (.cells #[.int .i64 places, .int .i64 pieces, .slice sa sn sc, .slice ca xss.length cc] 25 (0, 0))) mx = none := hmx
 replace hob : (Hp.set (Hp.set H vx (.cells #[.int .i64 places, .int .i64 pieces, .slice sa sn sc, .slice ca xss.length cc] 25 (0, 0))) mx (.cells #[mv] 124 (0, 0))) ob = none := hob
 generalize hG : Hp.set H vx _ = H1 at hmx hob ⊢
 have lH1 := Aqg hG hvx
 have vvx := Aqf hG
 clear hG
 generalize hG : Hp.set H1 mx _ = H2 at hob ⊢
 have lH2 := Aqg hG hmx
 have vmx := Aqf hG
 clear hG
 generalize hG : Hp.set H2 ob _ = H3
 have lH3 := Aqg hG hob
 have vob := Aqf hG
 clear hG
 have l13 := Hp.le_trans lH2 lH3
 have l03 := Hp.le_trans lH1 l13
 have vvx3 := l13 _ _ vvx
 have vmx3 := lH3 _ _ vmx
 have h0ob : H ob = none := Hp.le_none (Hp.le_trans lH1 lH2) hob
 have hst3 := hst.le l03
 have hcs3 := hcs.le l03
 have hmv3 := hmv.le (Aj6.of l03)
 clear vvx vmx lH1 lH2 lH3 l13 hvx hmx hob
 ((try (refine @unH _ ?_; refine zX Axu ?_)); (try (refine hK _ _ ?_; clear hK K; (try simp only [nq, ↓reduceIte, Nat.reduceEqDiff]))); refine @unH _ ?_; refine zA Axu ?_; (repeat (refine inC ?_; intro hc)); try (refine inK ?_; intro K hK))
 (intro bb hbb; generalize hG : Hp.set _ bb _ = H4; have lH4 := Aqg hG hbb; have vbb := Aqf hG; clear hG)
 have l04 := Hp.le_trans l03 lH4
 have vvx4 := lH4 _ _ vvx3
 have vmx4 := lH4 _ _ vmx3
 have vob4 := lH4 _ _ vob
 have h0bb : H bb = none := Hp.le_none l03 hbb
 have nbo : bb ≠ ob := (Ax1 vob hbb).symm
 have hst4 := hst3.le lH4
 have hcs4 := hcs3.le lH4
 have hmv4 := hmv3.le (Aj6.of lH4)
 clear vvx3 vmx3 vob l03 lH4 hst3 hcs3 hmv3 hbb
 replace hmv : Aqs _ := hmv
 replace hmv4 : Aqs _ := hmv4
 by_cases hz : (xss.length : Int) = 0
 ·((try (refine @unH _ ?_; refine zX Axu ?_)); (try (refine hK _ _ ?_; clear hK K; (try simp only [nq, ↓reduceIte, Nat.reduceEqDiff]))); refine @unH _ ?_; refine zA Axu ?_; (repeat (refine inC ?_; intro hc)); try (refine inK ?_; intro K hK))
  obtain rfl : xss = [] := List.eq_nil_of_length_eq_zero (by omega)
  refine Ajo (fun HX => H4.le HX) [5, 6, 7] (.free 0 (.free 1 (.take 2 (.take 3 (.one 4 (.one 5 (.one 6 (.one 7 .nil)))))))) (by kernel_rfl) (by kernel_rfl) (by decide) (by kernel_rfl) ?_; intro K hK
  have hle0 : H4.le H4 := Hp.le_refl _
  (apply Ax6 rfl rfl rfl; (focus (intro HX; simp -implicitDefEqProofs (disch := first | omega | (simp only [qd] <;> omega)) only [xq, ↓xp, qc, Nat.reduceAdd, List.range, List.range.loop, fine, Nat.reduceEqDiff, ↓reduceIte, yielded, reduceCtorEq, Nat.reduceLT, Nat.reduceMul, Nat.reduceSub, one, Nat.reduceLeDiff, Aqa, Axu, aq, ↓ap, qe0, qe1, qe2, *, -hK, Aqz] <;> (first | exact rfl | exact ⟨rfl, rfl⟩ | exact ⟨rfl, trivial⟩))); simp -implicitDefEqProofs (disch := first | omega | (simp only [qd] <;> omega)) only [Aqn, Aqc])
  (apply Ax6 rfl rfl rfl; (focus (intro HX; simp -implicitDefEqProofs (disch := first | omega | (simp only [qd] <;> omega)) only [xq, ↓xp, qc, Nat.reduceAdd, List.range, List.range.loop, fine, Nat.reduceEqDiff, ↓reduceIte, yielded, reduceCtorEq, Nat.reduceLT, Nat.reduceMul, Nat.reduceSub, one, Nat.reduceLeDiff, Aqa, Axu, aq, ↓ap, qe0, qe1, qe2, *, -hK, Aqz] <;> (first | exact rfl | exact ⟨rfl, rfl⟩ | exact ⟨rfl, trivial⟩))); simp -implicitDefEqProofs (disch := first | omega | (simp only [qd] <;> omega)) only [Aqn, Aqc])
  (apply Axd rfl rfl rfl ‹_›; (focus (intro HX hHX; simp -implicitDefEqProofs (disch := first | omega | (simp only [qd] <;> omega)) only [xq, ↓xp, qc, Nat.reduceAdd, List.range, List.range.loop, fine, Nat.reduceEqDiff, ↓reduceIte, yielded, reduceCtorEq, Nat.reduceLT, Nat.reduceMul, Nat.reduceSub, one, Nat.reduceLeDiff, Aqa, Axu, aq, ↓ap, qe0, qe1, qe2, *, -hK, Aqz, hHX _ _ vmx4] <;> (first | exact rfl | exact ⟨rfl, rfl⟩ | exact ⟨rfl, trivial⟩))); simp -implicitDefEqProofs (disch := first | omega | (simp only [qd] <;> omega)) only [Aqn, Aqc])
  (apply Axd rfl rfl rfl ‹_›; (focus (intro HX hHX; simp -implicitDefEqProofs (disch := first | omega | (simp only [qd] <;> omega)) only [xq, ↓xp, qc, Nat.reduceAdd, List.range, List.range.loop, fine, Nat.reduceEqDiff, ↓reduceIte, yielded, reduceCtorEq, Nat.reduceLT, Nat.reduceMul, Nat.reduceSub, one, Nat.reduceLeDiff, Aqa, Axu, aq, ↓ap, qe0, qe1, qe2, *, -hK, Aqz, hHX _ _ vvx4] <;> (first | exact rfl | exact ⟨rfl, rfl⟩ | exact ⟨rfl, trivial⟩))); simp -implicitDefEqProofs (disch := first | omega | (simp only [qd] <;> omega)) only [Aqn, Aqc])
  refine Aq6 ?_
  (refine @unH _ ?_; refine zX Axu ?_)
  refine (Ayu _ H4 places pieces _ _ _ _ _ _ _ _ _).runs.mono ?_
  rintro _ Hc ⟨db, mb, rfl, lHc, ndm, hdb, hmb, vdb, vmb2⟩
  (refine @unH _ ?_; refine zX Axu ?_)
  refine ⟨.inr (by intro _; first | exact lHc | trivial), Aq6 ?_⟩
  (refine @unH _ ?_; refine zX Axu ?_)
  have hnil : SlI Hc (.slice none 0 0) [] := ⟨none, 0, rfl, Nat.le_refl _, fun i x h => by simp at h⟩
  refine Bkb.use ((show Bwm H4 mv places start F from hmv4) _ H4 (fun b p c t fr h => ⟨p, h⟩) Hc pieces _ _ _ [] db mb lHc ⟨vdb, vmb2, ndm, hst4.le lHc, hnil⟩ ⟨by simp, fun t h => by simp at h⟩) ?_
  rintro _ Hd ⟨rfl, lHd⟩
  have l0d : Aqs (H.le Hd) := fun b x hx => lHd.keeps (lHc _ _ (l04 _ _ hx)) fun e => by rw [e] at hx; have := l04 _ _ hx; rw [hmb] at this; cases this
  have vbd := lHd.keeps (lHc _ _ vbb) fun e => by rw [e, hmb] at vbb; cases vbb
  have vod := lHd.keeps (lHc _ _ vob4) fun e => by rw [e, hmb] at vob4; cases vob4
  have hres : Aqs (bdT F (Aq0 []) = ⟨F [], F [], true⟩) := rfl
  clear lHd lHc vdb vmb2 hdb hmb ndm hnil
  generalize F [] = fx at *
  (refine @unH _ ?_; refine zX Axu ?_)
  refine ⟨.inl (by decide), Aq6 ?_⟩
  (refine @unH _ ?_; refine zX Axu ?_)
  (intro g2 hg2; generalize hG : Hp.set _ g2 _ = He; have lHe := Aqg hG hg2; have vg2 := Aqf hG; clear hG)
  have vbe := lHe _ _ vbd
  have voe := lHe _ _ vod
  have l0e : Aqs (H.le He) := Hp.le_trans (show H.le Hd from l0d) lHe
  have hsl : SlI He (.slice (some ⟨g2, 0, none⟩) 1 1) [fx] := ⟨_, _, rfl, by simp, fun i y hi => by
   obtain rfl : i = 0 := by have := (List.getElem?_eq_some_iff.1 hi).1; simpa using this
   simp at hi; subst hi
   exact ⟨g2, 0, _, _, _, rfl, vg2, by simp⟩⟩
  clear l0d vbd vod lHe vg2 hg2
  refine ⟨.inl (by decide), Aq6 ?_⟩
  (refine @unH _ ?_; refine zX Axu ?_)
  rw [Bvd, Ax9]
  simp only [Array.append_empty, List.append_toArray, List.cons_append, List.nil_append]
  refine (Bk5 _ He bb bd0 _ [fx] hsl vbe (by simp)).runs.mono ?_
  rintro _ Hf ⟨rfl, vbf, hoth⟩
  have vof := (hoth ob nbo.symm).trans voe
  have l0f : Aqs (H.le Hf) := fun b x hx => (hoth b fun e => by rw [e, h0bb] at hx; cases hx).trans ((show H.le He from l0e) _ _ hx)
  replace vbf : Hf bb = some (true, .cells #[.int .i64 fx, .int .i64 fx, .bool true] 120 (0, 0)) := vbf
  clear hoth hsl vbe voe l0e hle0 vbb vob4 vmx4 vvx4
  (refine @unH _ ?_; refine zX Axu ?_)
  refine ⟨.inl (by decide), Azy (hK _ _ ?_)⟩
  clear hK K
  (try simp only [nq, ↓reduceIte, Nat.reduceEqDiff])
  (refine @unH _ ?_; refine zA Axu ?_; (repeat (refine inC ?_; intro hc)); try (refine inK ?_; intro K hK))
  (refine Ax8 ?_; (try simp only [nq, ↓reduceIte, Nat.reduceEqDiff]); rw [Axw, Ajb Tryz.results97 (by decide) (b := ob) (o := 0) rfl Tryz.underlying120 rfl Tryz.sizeOf120]; simp -implicitDefEqProofs (disch := first | omega | (simp only [qd] <;> omega)) only [xq, ↓xp, qc, Nat.reduceAdd, List.range, List.range.loop, fine, Nat.reduceEqDiff, ↓reduceIte, yielded, reduceCtorEq, Nat.reduceLT, Nat.reduceMul, Nat.reduceSub, one, Nat.reduceLeDiff, Aqa, Axu, Ajm])
  refine ⟨by rw [show bdT F (Aq0 []) = _ from hres]; rfl, fun b x hx => ?_⟩
  rw [Aqp (fun e => by rw [e, h0ob] at hx; cases hx)]
  exact (show H.le Hf from l0f) _ _ hx
 ·((try (refine @unH _ ?_; refine zX Axu ?_)); (try (refine hK _ _ ?_; clear hK K; (try simp only [nq, ↓reduceIte, Nat.reduceEqDiff]))); refine @unH _ ?_; refine zA Axu ?_; (repeat (refine inC ?_; intro hc)); try (refine inK ?_; intro K hK))
  intro c hc0 tb htb
  replace htb : (Hp.set H4 c _) tb = none := htb
  generalize hG : Hp.set H4 c _ = H5 at htb ⊢
  have lH5 := Aqg hG hc0
  have vc5 := Aqf hG
  clear hG
  ((try (refine @unH _ ?_; refine zX (And.intro Axu @cells_chan) ?_)); (try (refine hK _ _ ?_; clear hK K; (try simp only [nq, ↓reduceIte, Nat.reduceEqDiff]))); refine @unH _ ?_; refine zA (And.intro Axu @cells_chan) ?_; (repeat (refine inC ?_; intro hc)); try (refine inK ?_; intro K hK))
  intro wg hwg
  replace hwg : (Hp.set H5 tb (.cells #[.chan (some c)] 166 (0, 0))) wg = none := hwg
  generalize hG : Hp.set H5 tb _ = H6 at hwg ⊢
  have lH6 := Aqg hG htb
  have vtb6 := Aqf hG
  clear hG
  have vc6 := lH6 _ _ vc5
  have nct : c ≠ tb := Ax1 vc5 htb
  have l46 := Hp.le_trans lH5 lH6
  have h4c := hc0
  have h4tb : H4 tb = none := Hp.le_none lH5 htb
  clear lH5 lH6 vc5 hc0 htb
  generalize hG : Hp.set H6 wg _ = H8
  have lH8 := Aqg hG hwg
  have vwg := Aqf hG
  clear hG
  have vwg8 : H8 wg = some (true, wgO lk.tWg 0 0) := vwg
  have h6wg := hwg
  have vc8 := lH8 _ _ vc6
  have vtb8 := lH8 _ _ vtb6
  have l48 := Hp.le_trans l46 lH8
  have l08 := Hp.le_trans l04 l48
  have ncw : c ≠ wg := Ax1 vc6 hwg
  have ntw : tb ≠ wg := Ax1 vtb6 hwg
  have n4 : ∀ b x, H4 b = some x -> b ≠ c /\ b ≠ tb /\ b ≠ wg := fun b x hx => ⟨Ax1 hx h4c, Ax1 hx h4tb, Ax1 (l46 _ _ hx) hwg⟩
  have vbb8 := l48 _ _ vbb
  have vob8 := l48 _ _ vob4
  have vvx8 := l48 _ _ vvx4
  have vmx8 := l48 _ _ vmx4
  obtain ⟨nbc, nbt, nbw⟩ := n4 _ _ vbb
  obtain ⟨nvc, nvt, nvw⟩ := n4 _ _ vvx4
  obtain ⟨nmc, nmt, nmw⟩ := n4 _ _ vmx4
  obtain ⟨noc, not, now⟩ := n4 _ _ vob4
  have n0 : ∀ b x, H b = some x -> b ≠ c /\ b ≠ wg /\ b ≠ bb := fun b x hx => ⟨(n4 _ _ (l04 _ _ hx)).1, (n4 _ _ (l04 _ _ hx)).2.2, fun e => by rw [e, h0bb] at hx; cases hx⟩
  have nvb : vx ≠ bb := fun e => by rw [e, vbb] at vvx4; simp at vvx4
  have nmb : mx ≠ bb := fun e => by rw [e, vbb] at vmx4; simp at vmx4
  have ntb : tb ≠ bb := Ne.symm nbt
  clear vwg lH8 hwg vc6 vtb6 l46 vbb vob4 vvx4 vmx4 hst4 hcs4 hmv4 n4 h4c h4tb l48 hc
  refine hK _ _ ?_
  clear hK K
  (try simp only [nq, ↓reduceIte, Nat.reduceEqDiff])
  refine By9 ?_
  refine Ckh (fun e => e 2 = .pointer (some ⟨vx, 0, none⟩) /\ e 3 = .pointer (some ⟨mx, 0, none⟩) /\ e 4 = .pointer (some ⟨ob, 0, none⟩) /\ e 5 = .pointer (some ⟨bb, 0, none⟩) /\ e 6 = .func (.func 122) #[.pointer (some ⟨bb, 0, none⟩)] #[] /\ e 7 = .pointer (some ⟨tb, 0, none⟩) /\ e 8 = .pointer (some ⟨wg, 0, none⟩)) ⟨rfl, rfl, rfl, rfl, rfl, rfl, rfl⟩ ?_
  rintro e ⟨e2, e3, e4, e5, e6, e7, e8⟩
  refine Djc (fun b => ∃ o, H8 b = some (true, o)) vc8 vwg8 (fun _ h => h) ?_
  have hdel : ∀ b, b ≠ c -> b ≠ wg -> ((H8.del c).del wg) b = H8 b := fun b hb hb2 => by unfold Hp.del; rw [if_neg hb2, if_neg hb]
  have lB : ∀ b p o, ((H8.del c).del wg) b = some (p, o) -> H8 b = some (p, o) := fun b p o h => by
   unfold Hp.del at h
   split at h
   ·cases h
   ·split at h
    ·cases h
    ·exact h
  have hBle : H.le ((H8.del c).del wg) := fun x u hx => by rw [hdel x (n0 _ _ hx).1 (n0 _ _ hx).2.1]; exact l08 _ _ hx
  have vbbB := (hdel bb nbc nbw).trans vbb8
  have vobB := (hdel ob noc now).trans vob8
  have vvxB := (hdel vx nvc nvw).trans vvx8
  have vmxB := (hdel mx nmc nmw).trans vmx8
  have vtbB := (hdel tb nct.symm ntw).trans vtb8
  generalize (H8.del c).del wg = B at *
  clear vbb8 vvx8 vmx8 vtb8 vc8 vwg8 hdel
  have hCB : (B.del bb).leS B := fun b p o h => by
   unfold Hp.del at h
   split at h
   ·cases h
   ·exact ⟨p, h, id⟩
  have hdel : ∀ b x, b ≠ bb -> B b = some x -> (B.del bb) b = some x := fun b x hb h => by
   unfold Hp.del
   rw [if_neg hb]
   exact h
  have hCle : H.le (B.del bb) := fun x u hx => hdel _ _ (n0 _ _ hx).2.2 (hBle _ _ hx)
  have hCB8 : ∀ b p o, (B.del bb) b = some (p, o) -> H8 b = some (p, o) := fun b p o h => by
   unfold Hp.del at h
   split at h
   ·cases h
   ·exact lB _ _ _ h
  have vobC := hdel _ _ nbo.symm vobB
  have vvxC := hdel _ _ nvb vvxB
  have vmxC := hdel _ _ nmb vmxB
  have vtbC := hdel _ _ ntb vtbB
  have hCbb : (B.del bb) bb = none := Hp.del_same _ _
  generalize B.del bb = C at *
  clear hdel lB vobB vmxB vtbB
  obtain ⟨l, hx0⟩ : ∃ l, xss[0]? = some l := ⟨_, List.getElem?_eq_getElem (by omega)⟩
  obtain ⟨kb, ko, kp, kx, kfr, kw, rfl, hkb0, hkx, hrow0⟩ := SlR.get hcs hx0
  have hkx' : kx[ko + (0 : Int).toNat]? = some kw := by simpa using hkx
  obtain ⟨ra, rc, rfl, hrc, _⟩ := id hrow0
  have hkb := hBle _ _ hkb0
  have hl6 : l.length <= 6 := by
   have h1 := (hok.2.2.2.2.2.2.2 l (List.mem_of_getElem? hx0)).len
   have h2 := hok.2.2.2.1
   omega
  have hrowC := hrow0.le hCle
  have hne : ∀ l ∈ xss, l ≠ [] := fun l hl => (hok.2.2.2.2.2.2.2 l hl).1
  clear hkb0 hrow0
  refine Aj2 (Aj2 (Bqw ?_))
  (refine @unH _ ?_; refine zA Axu ?_; (repeat (refine inC ?_; intro hc)); try (refine inK ?_; intro K hK))
  obtain ⟨f, hf⟩ : ∃ f : Int -> Bd, f = fun p => bdT F ((Aq0 (xss.drop 1)).map (p :: ·)) := ⟨_, rfl⟩
  replace hf : Aqs _ := hf
  refine Bj5 (Czp (fun w γ a' H' => ∃ e i, w = l.length - i /\ i <= l.length /\ γ = .busy c wg lk.tWg i 0 ((l.take i).reverse.map fun p => bdV (f p)) false (fun b => ∃ o, H8 b = some (true, o)) /\ a' = act 52 e [] /\
   e 2 = .pointer (some ⟨vx, 0, none⟩) /\ e 3 = .pointer (some ⟨mx, 0, none⟩) /\ e 4 = .pointer (some ⟨ob, 0, none⟩) /\ e 5 = .pointer (some ⟨bb, 0, none⟩) /\ e 6 = .func (.func 122) #[.pointer (some ⟨bb, 0, none⟩)] #[] /\ e 7 = .pointer (some ⟨tb, 0, none⟩) /\ e 8 = .pointer (some ⟨wg, 0, none⟩) /\
   e 30 = .slice ra l.length rc /\ e 31 = .int .i64 l.length /\ e 32 = .int .i64 (i : Nat) /\ C.leS H' /\ H' bb = some (true, bdO bd0)) (n := l.length) ?_ ?_)
  ·exact ⟨_, 0, by omega, by omega, rfl, rfl, e2, e3, e4, e5, e6, e7, e8, rfl, rfl, rfl, hCB, vbbB⟩
  ·have hcs0 := hcs
   replace hcs0 : SlR H _ xss := hcs0
   clear e2 e3 e4 e5 e6 e7 e8 hkb hkx hkx' hcs
   rename_i eold
   clear eold
   rintro w γ a' H9 ⟨e, i, rfl, hi, rfl, rfl, e2, e3, e4, e5, e6, e7, e8, e30, e31, e32, lS9, vbb9⟩
   refine Aj2 (Bqw ?_)
   (refine @unH _ ?_; refine zA Axu ?_; (repeat (refine inC ?_; intro hc)); try (refine inK ?_; intro K hK))
   refine Aj2 (Bj6 (by simp only [Aqm, Aqr, Nat.reduceEqDiff, Nat.reduceLT, ↓reduceIte, *]; rfl) ?_ ?_) <;> intro hc
   ·have hlt : i < l.length := by simpa using hc
    refine Czq ?_
    (try simp only [nq, ↓reduceIte, Nat.reduceEqDiff])
    obtain ⟨b6, o6, p6, c6, fr6, rfl, hb6, hc6⟩ := SlI.get hrowC (List.getElem?_eq_getElem hlt)
    have hpi := List.getElem?_eq_getElem hlt
    have hpl : l[i] ∈ l := List.getElem_mem hlt
    have htk : (l.take (i + 1)).reverse = l[i] :: (l.take i).reverse := by rw [List.take_add_one, hpi]; simp
    generalize l[i] = p at *
    obtain ⟨p6', hb6', _⟩ := lS9 _ _ _ hb6
    have hc6' : c6[o6 + (i : Int).toNat * 1]? = some (.int .i64 p) := by simpa using hc6
    replace hpi : Aqs _ := hpi
    replace htk : Aqs _ := htk
    refine Aj2 (Bj5 (Aj2 (Bqw ?_)))
    (refine @unH _ ?_; refine zA Axu ?_; (repeat (refine inC ?_; intro hc)); try (refine inK ?_; intro K hK))
    intro pb hpb
    have npb : bb ≠ pb := Ax1 vbb9 hpb
    ((try (refine @unH _ ?_; refine zX Axu ?_)); (try (refine hK _ _ ?_; clear hK K; (try simp only [nq, ↓reduceIte, Nat.reduceEqDiff]))); refine @unH _ ?_; refine zA Axu ?_; (repeat (refine inC ?_; intro hc)); try (refine inK ?_; intro K hK))
    obtain ⟨H10, hG⟩ : ∃ H10, H10 = H9.set pb (.cells #[.int .i64 p] 3 (0, 0)) := ⟨_, rfl⟩
    rw [<- hG]
    have vpb := Aqf hG.symm
    have vbb10 := Azf hG.symm vbb9 npb
    have lS10 : C.leS H10 := by rw [hG]; exact lS9.set (Bvt lS9 hpb)
    clear hG lS9 vbb9 hpb hb6 hb6' hc6 hc6'
    refine Aj2 (Av3 (Dqv wgLib rfl rfl rfl (by rw [Aqm (by decide)]; exact e8) rfl (by omega) (Bv1 ?_)))
    show wpV _ _ _ _ ((act 52 _ []).put (some 36) _) _
    rw [Aqn (by decide)]
    have hcl : Aj6 H (H10.hand bb) := fun b p c t fr hb => by
     obtain ⟨p', h1, _⟩ := lS10 _ _ _ (hCle _ _ hb)
     exact ⟨false, Hp.hand_some h1 (n0 _ _ hb).2.2⟩
    have hfix : ∀ b p c t fr, C b = some (p, .cells c t fr) -> b ≠ bb -> (H10.hand bb) b = some (false, .cells c t fr) := fun b p c t fr hb hn => by
     obtain ⟨p', h1, _⟩ := lS10 _ _ _ hb
     exact Hp.hand_some h1 hn
    have hch := Cxj (H10.hand bb) c wg tb vx pb mx places pieces _ _ start xss p mv F (hfix _ _ _ _ _ vvxC nvb) (Hp.hand_some vpb npb.symm) (hfix _ _ _ _ _ vmxC nmb) (hfix _ _ _ _ _ vtbC ntb) (SlI.cl hst hcl) (SlR.cl hcs0 hcl) hok hl8 (by omega) (fun l hl => Nat.le_trans ((hok.2.2.2.2.2.2.2 l hl).len) (by have := hok.2.2.2.1; omega)) (fun l' h' => by rw [hx0] at h'; cases h'; exact hpl) ((show Bwm H mv places start F from hmv) _ _ hcl)
    refine Av3 (Byg rfl rfl (Bz0 (K := fun a' H' => ∃ e', a' = act 52 e' [] /\ H10 = H' /\ e' 37 = .func (.func 124) #[] #[.pointer (some ⟨wg, 0, none⟩), .pointer (some ⟨vx, 0, none⟩), .pointer (some ⟨pb, 0, none⟩), .pointer (some ⟨mx, 0, none⟩), .pointer (some ⟨tb, 0, none⟩)] /\
     e' 2 = .pointer (some ⟨vx, 0, none⟩) /\ e' 3 = .pointer (some ⟨mx, 0, none⟩) /\ e' 4 = .pointer (some ⟨ob, 0, none⟩) /\ e' 5 = .pointer (some ⟨bb, 0, none⟩) /\ e' 6 = .func (.func 122) #[.pointer (some ⟨bb, 0, none⟩)] #[] /\ e' 7 = .pointer (some ⟨tb, 0, none⟩) /\ e' 8 = .pointer (some ⟨wg, 0, none⟩) /\
     e' 30 = .slice (some ⟨b6, o6, none⟩) l.length rc /\ e' 31 = .int .i64 l.length /\ e' 32 = .int .i64 (i : Nat)) ?_ ?_))
    ·unfold opX
     change wpS _ (execOp _ ⟨some 37, .makeFunc (.func 124) #[] #[.tmp 8, .tmp 2, .tmp 10, .tmp 3, .tmp 7], _, _, _, _⟩) _ _ _
     rw [Bqm]
     refine ⟨_, Aqn (by decide), rfl, ?_, e2, e3, e4, e5, e6, e7, e8, e30, e31, e32⟩
     simp only [Aqr, ↓reduceIte, List.map_toArray, List.map_cons, List.map_nil, Aqm, Nat.reduceLT, Nat.reduceEqDiff, e7, e2, e3, e8]
    ·clear e2 e3 e4 e5 e6 e7 e8 e30 e31 e32
     rintro _ _ ⟨e', rfl, rfl, e37, e2, e3, e4, e5, e6, e7, e8, e30, e31, e32⟩
     refine Dz4 rfl rfl (fun w hw => Cvu (by rw [Aqm (by decide)]; exact e37) w) rfl Hp.hand_lend Hp.lend_own hch (Bv1 ?_)
     show blk 1 _ .normal (act 52 e' []) _
     (try simp only [nq, ↓reduceIte, Nat.reduceEqDiff])
     refine Bqw ?_
     have hle10 := lS10.trans (Hp.lend_leS (eb := bb))
     have vbbL : (H10.lend bb) bb = _ := Hp.lend_at.trans vbb10
     generalize H10.lend bb = H11 at *
     clear hch hfix hcl vpb vbb10 lS10
     (refine @unH _ ?_; refine zA Axu ?_; (repeat (refine inC ?_; intro hc)); try (refine inK ?_; intro K hK))
     refine ⟨_, by omega, _, i + 1, rfl, hlt, ?_, rfl, e2, e3, e4, e5, e6, e7, e8, e30, e31, rfl, hle10, vbbL⟩
     rw [show (l.take (i + 1)).reverse = _ from htk, List.map_cons, show f p = _ from congrFun (show f = _ from hf) p]
   ·have hge : ¬ i < l.length := by simpa using hc
    obtain rfl : i = l.length := by omega
    refine Czo ?_
    (try simp only [nq, ↓reduceIte, Nat.reduceEqDiff])
    rw [List.take_length]
    have hxs : xss = l :: xss.drop 1 := by
     cases xss with
     | nil => simp at hx0
     | cons a t => simp at hx0; subst hx0; rfl
    refine Cwf H H8 C H9 c wg tb ob bb l f _ (bdT F (Aq0 xss)) e4 e5 e6 e7 e8 lS9 vbb9 hCle l08 vtbC vobC vob8 hl6 ntb nbo.symm h0ob h0bb hCbb (fun Rp hR => ?_)
    rw [show f = _ from hf, Cz2 F l (xss.drop 1) (hne _ (List.mem_of_getElem? hx0)) (fun l' hl' => hne _ (List.mem_of_mem_drop hl')) Rp hR, <- hxs]
end Go.Proofs.YtgniilnljeedlaaGreatDoor
end
section
namespace Go.Proofs.YtgniilnljeedlaaGreatDoor
open Go Go.X
def Bwh := And.intro (fun H st => Ajj (H := H) (st := st) Tryz.underlying142 rfl Tryz.zeroValue142) (And.intro (fun H st => Ajj (H := H) (st := st) Tryz.underlying143 rfl Tryz.zeroValue143) (fun H st => Ajj (H := H) (st := st) Tryz.underlying144 rfl Tryz.zeroValue144))
structure Aky (H : Hp) (places pieces : Int) (sv cv : Value) (start : List Int) (xss : List (List Int)) : Prop where
 st : SlI H sv start
 calls : SlR H cv xss
 ok : Az7 places pieces start xss
 few : xss.length <= 8
theorem Aky.le {H H' : Hp} {places pieces : Int} {sv cv : Value} {start : List Int} {xss : List (List Int)} (h : Aky H places pieces sv cv start xss) (hl : H.le H') : Aky H' places pieces sv cv start xss :=
 ⟨h.st.le hl, h.calls.le hl, h.ok, h.few⟩
theorem Aky.stA {H : Hp} {places pieces : Int} {sv cv : Value} {start : List Int} {xss : List (List Int)} (h : Aky H places pieces sv cv start xss) : StA start :=
 ⟨by have h1 := h.ok.2.2.2.2.1; have h2 := h.ok.2.1; omega, fun x hx => by have h1 := h.ok.2.2.2.2.2.2.1 x hx; have h2 := h.ok.2.2.2.1; omega⟩
theorem Cz0 (H : Hp) (r : Int) (hr0 : 0 <= r) (hr3 : r <= 3) (st : TypeId) (K : Value -> Hp -> Prop) (E : Value -> Hp -> Prop) : wpS Tryz.prog (Instr.typeAssert (Aju r) st 142 true) H K E = K (.tuple #[.agg #[], .bool (decide (r = 0))]) H := by
 unfold Aju
 rw [Ajj Tryz.underlying142 rfl Tryz.zeroValue142]
 have hcase : r = 0 ∨ r = 1 ∨ r = 2 ∨ r = 3 := by omega
 rcases hcase with rfl | rfl | rfl | rfl <;> rfl
theorem Cz1 (H : Hp) (r : Int) (hr0 : 0 <= r) (hr3 : r <= 3) (st : TypeId) (K : Value -> Hp -> Prop) (E : Value -> Hp -> Prop) : wpS Tryz.prog (Instr.typeAssert (Aju r) st 143 true) H K E = K (.tuple #[.agg #[], .bool (decide (r = 1))]) H := by
 unfold Aju
 rw [Ajj Tryz.underlying143 rfl Tryz.zeroValue143]
 have hcase : r = 0 ∨ r = 1 ∨ r = 2 ∨ r = 3 := by omega
 rcases hcase with rfl | rfl | rfl | rfl <;> rfl
theorem Bwq (H : Hp) (r : Int) (hr0 : 0 <= r) (hr3 : r <= 3) (st : TypeId) (K : Value -> Hp -> Prop) (E : Value -> Hp -> Prop) : wpS Tryz.prog (Instr.typeAssert (Aju r) st 144 true) H K E = K (.tuple #[.agg #[], .bool (decide (r = 2))]) H := by
 unfold Aju
 rw [Ajj Tryz.underlying144 rfl Tryz.zeroValue144]
 have hcase : r = 0 ∨ r = 1 ∨ r = 2 ∨ r = 3 := by omega
 rcases hcase with rfl | rfl | rfl | rfl <;> rfl
theorem Cz8 (main : Md) (H : Hp) (r : Int) (hr0 : 0 <= r) (hr3 : r <= 3) :
  FnX Tryz.prog main 102 #[Aju r] H fun e H' => e = .returned (.bool (decide (r < 3))) /\ H' = H := by
 refine Aqk Tryz.func102 rfl Tryz.ntmps102 (by simp) ?_
 have ha0 := fun H st K E => Cz0 H r hr0 hr3 st K E
 have ha1 := fun H st K E => Cz1 H r hr0 hr3 st K E
 have ha2 := fun H st K E => Bwq H r hr0 hr3 st K E
 have hcase : r = 0 ∨ r = 1 ∨ r = 2 ∨ r = 3 := by omega
 (refine @unH _ ?_; refine zA Bwh ?_; (repeat (refine inC ?_; intro hc)); try (refine inK ?_; intro K hK))
 have hvv : (if decide (r = 0) = true then Value.bool true else if decide (r = 1) = true then Value.bool true else Value.bool (decide (r = 2))) = .bool (decide (r < 3)) := by
  rcases hcase with rfl | rfl | rfl | rfl <;> rfl
 rw [hvv]
 clear ha0 ha1 ha2 hcase hvv
 by_cases hr : r < 3
 ·rw [decide_eq_true hr]
  (refine @unH _ ?_; refine zA Bwh ?_; (repeat (refine inC ?_; intro hc)); try (refine inK ?_; intro K hK))
  (refine @unH _ ?_; refine z9 Tryz.results102 ?_)
  exact ⟨by first | rfl | trivial, by first | rfl | trivial⟩
 ·rw [decide_eq_false hr]
  (refine @unH _ ?_; refine zA Bwh ?_; (repeat (refine inC ?_; intro hc)); try (refine inK ?_; intro K hK))
  (refine @unH _ ?_; refine z9 Tryz.results102 ?_)
  exact ⟨by first | rfl | trivial, by first | rfl | trivial⟩
end Go.Proofs.YtgniilnljeedlaaGreatDoor
end
