/- Texts SmS SmN SmD PlanW. -/
import Derived.Test.YtnfnaehonkbknaaGreatDoorJ14
set_option linter.defProp false
set_option linter.unusedSimpArgs false
set_option linter.unusedVariables false
set_option maxRecDepth 100000
set_option maxHeartbeats 2000000
section
namespace Go.Proofs.YtnfnaehonkbknaaGreatDoor
open Go Go.X Go.Proofs.Tryz
def Azc := aN @Dwx (aN @Dvm (aN @Dv8 (aN @Dwg (aN @Dwp (aN @Dwf (aN @Dvc (aN @Dyi (aN @Dvh (aN @Dwc (aN @Dvl (aN @Dvo (aN @Dwa (aN @Dye (aN @Dw9 (aN @Dwm (aN @Dw5 (aN @Dwu (aN @Dvv (aN @Dvw (aN @Dvi (aN @Dvg (aN @Ax1 @Bw2))))))))))))))))))))))
theorem Bx5 (main : Md) (H : Hp) (hb mb : Nat) (q : Bool) (pl : Int) (da : Option Addr) (dc : Nat) (hv nv : Value) (p : Int) (ts : List Int) (ds : List Dr) (vh : H hb = some (q, hsO pl (.slice da ds.length dc) hv nv mb)) (kn : Az5 ds mb H) (dd : SlD H (.slice da ds.length dc) ds)
  (hp : pl <= 6) (h0 : 0 <= p) (h1 : p < pl) (hd : Bxd pl ds) (hl6 : ds.length <= 6) (hts : ts.length = 6) (ht : TsOk ds ts) :
  FnX Tryz.prog main 68 #[.pointer (some ⟨hb, 0, none⟩), .agg (.int .i64 p :: ints ts).toArray] H fun e H' => e = .returned (.agg (ints (Axf ds p ts)).toArray) /\ (∀ b x, b ≠ mb -> H b = some x -> H' b = some x) /\ Az5 ds mb H' := by
 have hw6 : (Value.int .i64 p :: ints ts).length = 7 := by simp [Aq1, hts]
 have hw7 : (Value.int .i64 p :: ints ts).toArray.extract 0 7 = (Value.int .i64 p :: ints ts).toArray := by
  rw [List.extract_toArray, List.extract_eq_take_drop, List.drop_zero, List.take_of_length_le (by omega)]
 refine Aql func68 rfl ntmps68 (by simp) ?_
 (refine @unH _ (zS Azc ?_); (try clear hK K); intro K hK hc)
 (intro wb hwb rb hrb; replace hrb : (Hp.set _ wb _) rb = none := hrb; generalize hG : Hp.set _ wb _ = H1 at hrb ⊢; have lH1 := Aqc hG hwb; have wwb := Aqb hG; clear hG; generalize hG : Hp.set _ rb _ = H2; have lH2 := Aqc hG hrb; have vrb := Aqb hG; have vwb := lH2 _ _ wwb; have nwbrb := Aqq wwb hrb; clear hG wwb)
 have l2 := Hp.le_trans lH1 lH2
 have h0wb := hwb
 have h0rb := Hp.le_none lH1 hrb
 have nrw := nwbrb
 have vh2 := l2 _ _ vh
 have vw2 := vwb
 have vr2 := vrb
 have kn2 := kn.le l2
 have dd2 := dd.le l2
 obtain ⟨es, clock, vm2, hmap⟩ := id kn2
 simp only [hsO] at vh2
 clear hwb hrb lH1 lH2 vwb vrb vh kn
 (refine @unH _ (zV Azc ?_); (try clear hK K); intro K hK hc)
 refine Bwl (fun l w a' H' => ∃ nb H0, H2.le H0 /\ H2 nb = none /\ SpH H0 hb wb rb nb mb pl da dc hv nv p ts ds /\ SpI H0 hb wb rb nb mb pl p ts ds l w a' H') ?_ ?_
 ·obtain ⟨v, met, hmet, hunmet, hlk⟩ := Dzm (P := Tryz.prog) underlying145 K7.key zeroValue117 (wayK p ts hts) hmap
  (refine @unH _ (zS Azc ?_); (try clear hK K); intro K hK hc)
  cases met with
  | true =>
   obtain rfl : v = .agg (ints (Axf ds p ts)).toArray := hmet rfl
   have hcl := Avd ds p ts
   have hil : (ints (Axf ds p ts)).length = 6 := by rw [Aq1]; exact hcl
   have hex := Aja hcl
   generalize hC : Axf ds p ts = c at *
   replace hC : Aqo _ := hC
   clear hmet hunmet
   refine Axy ?_
   refine Bwn (fun HX => H2.le HX) [10] (.take 0 (.take 1 (.take 2 (.take 3 (.take 4 (.take 5 (.take 6 (.take 7 (.free 8 (.one 9 (.one 10 (.free 11 .nil)))))))))))) (by kernel_rfl) (by kernel_rfl) (by decide) (by kernel_rfl) ?_; intro K hK
   have hle2 : H2.le H2 := Hp.le_refl _
   (iterate 5 (apply Aq5 rfl rfl rfl ‹_›; (focus (intro HX hHX; simp -implicitDefEqProofs (disch := first | omega | (simp only [qd] <;> omega)) only [xq, ↓xp, qc, Nat.reduceAdd, List.range, List.range.loop, fine, Nat.reduceEqDiff, ↓reduceIte, yielded, reduceCtorEq, Nat.reduceLT, Nat.reduceMul, Nat.reduceSub, one, Nat.reduceLeDiff, Aqj, Azc, aq, ↓ap, qe0, qe1, qe2, *, -hK, Aq3, hHX _ _ vh2, hHX _ _ vw2, hw7, hw6] <;> (first | exact rfl | exact ⟨rfl, rfl⟩ | exact ⟨rfl, trivial⟩))); simp -implicitDefEqProofs (disch := first | omega | (simp only [qd] <;> omega)) only [Aq0, Aqp]))
   (apply Aq5 rfl rfl rfl ‹_›; (focus (intro HX hHX; (refine @unH _ ?_; refine zX (aN Azc @Aq3) ?_); refine hlk mb true HX (hHX _ _ vm2) _ _ ?_; exact ⟨rfl, rfl⟩)); simp -implicitDefEqProofs (disch := first | omega | (simp only [qd] <;> omega)) only [Aq0, Aqp])
   (iterate 2 (apply Aq5 rfl rfl rfl ‹_›; (focus (intro HX hHX; simp -implicitDefEqProofs (disch := first | omega | (simp only [qd] <;> omega)) only [xq, ↓xp, qc, Nat.reduceAdd, List.range, List.range.loop, fine, Nat.reduceEqDiff, ↓reduceIte, yielded, reduceCtorEq, Nat.reduceLT, Nat.reduceMul, Nat.reduceSub, one, Nat.reduceLeDiff, Aqj, Azc, aq, ↓ap, qe0, qe1, qe2, *, -hK, Aq3, hHX _ _ vh2, hHX _ _ vw2, hw7, hw6] <;> (first | exact rfl | exact ⟨rfl, rfl⟩ | exact ⟨rfl, trivial⟩))); simp -implicitDefEqProofs (disch := first | omega | (simp only [qd] <;> omega)) only [Aq0, Aqp]))
   (refine @unH _ ?_; refine zI Azc ?_)
   refine Aqt ?_
   (refine @unH _ ?_; refine zX Azc ?_)
   (intro gb hgb; generalize hG : Hp.set _ gb _ = H3; have lH3 := Aqc hG hgb; have vgb := Aqb hG; clear hG)
   refine ⟨.inr (fun _ => by first | exact lH3 | trivial), Aqt ?_⟩
   (refine @unH _ ?_; refine zX (aN Azc (aN @Avf (aN @Aj3 @Aj4))) ?_)
   refine ⟨.inl (by decide), ?_⟩
   (refine @unH _ ?_; refine zI Azc ?_)
   refine Axk (hK _ _ ?_)
   clear hK K hlk
   (try refine @unH _ (zQ ?_))
   generalize hG : Hp.set H3 gb _ = H4
   have vg4 := Aqb hG
   have nrg := Aqq vr2 hgb
   have vr4 := Aqf hG (lH3 _ _ vr2) nrg
   have hk4 : ∀ b x, H b = some x -> H4 b = some x := fun b x hx => Aqf hG (lH3 _ _ (l2 _ _ hx)) (Aqq (l2 _ _ hx) hgb)
   have kn4 : Az5 ds mb H4 := ⟨es, clock, Aqf hG (lH3 _ _ vm2) (Aqq vm2 hgb), hmap⟩
   clear hG vgb lH3 hgb
   replace hk4 : Aqo _ := hk4
   (refine @unH _ (zA Azc ?_); (try clear hK K); intro K hK hc)
   (refine @unH _ (zU (aN Azc (aN @Avf (aN @Aj3 @Aj4))) ?_); (try clear hK K); intro K hK hc)
   (refine Axt ?_; (try simp only [nq, ↓reduceIte, Nat.reduceEqDiff]); rw [Aq7, Ax2 results68 (by decide) (b := rb) (o := 0) rfl underlying117 rfl sizeOf117]; simp -implicitDefEqProofs (disch := first | omega | (simp only [qd] <;> omega)) only [xq, ↓xp, qc, Nat.reduceAdd, List.range, List.range.loop, fine, Nat.reduceEqDiff, ↓reduceIte, yielded, reduceCtorEq, Nat.reduceLT, Nat.reduceMul, Nat.reduceSub, one, Nat.reduceLeDiff, Aqj, Azc, hil, hex, Axj])
   refine ⟨fun b x hb hx => ?_, ?_⟩
   ·rw [Aqv (fun e => by rw [e, h0rb] at hx; cases hx)]
    exact (show ∀ b x, H b = some x -> H4 b = some x from hk4) b x hx
   ·obtain ⟨es, clock, vm4, hm4⟩ := kn4
    exact ⟨es, clock, by rw [Aqv (fun e => by rw [e, vr4] at vm4; cases vm4)]; exact vm4, hm4⟩
  | false =>
   obtain rfl := hunmet rfl
   clear hmet hunmet
   refine Axy ?_
   refine Bwn (fun HX => H2.le HX) [10] (.take 0 (.take 1 (.take 2 (.take 3 (.take 4 (.take 5 (.take 6 (.take 7 (.free 8 (.one 9 (.one 10 (.free 11 .nil)))))))))))) (by kernel_rfl) (by kernel_rfl) (by decide) (by kernel_rfl) ?_; intro K hK
   have hle2 : H2.le H2 := Hp.le_refl _
   (iterate 5 (apply Aq5 rfl rfl rfl ‹_›; (focus (intro HX hHX; simp -implicitDefEqProofs (disch := first | omega | (simp only [qd] <;> omega)) only [xq, ↓xp, qc, Nat.reduceAdd, List.range, List.range.loop, fine, Nat.reduceEqDiff, ↓reduceIte, yielded, reduceCtorEq, Nat.reduceLT, Nat.reduceMul, Nat.reduceSub, one, Nat.reduceLeDiff, Aqj, Azc, aq, ↓ap, qe0, qe1, qe2, *, -hK, Aq3, hHX _ _ vh2, hHX _ _ vw2, hw7, hw6] <;> (first | exact rfl | exact ⟨rfl, rfl⟩ | exact ⟨rfl, trivial⟩))); simp -implicitDefEqProofs (disch := first | omega | (simp only [qd] <;> omega)) only [Aq0, Aqp]))
   (apply Aq5 rfl rfl rfl ‹_›; (focus (intro HX hHX; (refine @unH _ ?_; refine zX (aN Azc @Aq3) ?_); refine hlk mb true HX (hHX _ _ vm2) _ _ ?_; exact ⟨rfl, rfl⟩)); simp -implicitDefEqProofs (disch := first | omega | (simp only [qd] <;> omega)) only [Aq0, Aqp])
   (iterate 2 (apply Aq5 rfl rfl rfl ‹_›; (focus (intro HX hHX; simp -implicitDefEqProofs (disch := first | omega | (simp only [qd] <;> omega)) only [xq, ↓xp, qc, Nat.reduceAdd, List.range, List.range.loop, fine, Nat.reduceEqDiff, ↓reduceIte, yielded, reduceCtorEq, Nat.reduceLT, Nat.reduceMul, Nat.reduceSub, one, Nat.reduceLeDiff, Aqj, Azc, aq, ↓ap, qe0, qe1, qe2, *, -hK, Aq3, hHX _ _ vh2, hHX _ _ vw2, hw7, hw6] <;> (first | exact rfl | exact ⟨rfl, rfl⟩ | exact ⟨rfl, trivial⟩))); simp -implicitDefEqProofs (disch := first | omega | (simp only [qd] <;> omega)) only [Aq0, Aqp]))
   (refine @unH _ ?_; refine zI Azc ?_)
   refine Aqt ?_
   (refine @unH _ ?_; refine zX Azc ?_)
   (intro gb hgb; generalize hG : Hp.set _ gb _ = H3; have lH3 := Aqc hG hgb; have vgb := Aqb hG; clear hG)
   refine ⟨.inr (fun _ => by first | exact lH3 | trivial), Aqt ?_⟩
   (refine @unH _ ?_; refine zX (aN Azc (aN @Avf (aN @Aj3 @Aj4))) ?_)
   refine ⟨.inl (by decide), ?_⟩
   (refine @unH _ ?_; refine zI Azc ?_)
   refine Axk (hK _ _ ?_)
   clear hK K hlk
   (try refine @unH _ (zQ ?_))
   generalize hG : Hp.set H3 gb _ = H4
   have l24 : H2.le H4 := fun b x hx => Aqf hG (lH3 _ _ hx) (Aqq hx hgb)
   have vh4 := l24 _ _ vh2
   have vw4 := l24 _ _ vw2
   have vr4 := l24 _ _ vr2
   clear hG vgb lH3 hgb hle2
   (refine @unH _ (zS Azc ?_); (try clear hK K); intro K hK hc)
   intro nb hnb
   have nhn := Aqq vh4 hnb
   have nwn := Aqq vw4 hnb
   have nrn := Aqq vr4 hnb
   have nmn := Aqq (l24 _ _ vm2) hnb
   have h2nb := Hp.le_none l24 hnb
   generalize hG : Hp.set H4 nb _ = H5
   have vn := Aqb hG
   have l25 := Hp.le_trans l24 (Aqc hG hnb)
   have l45 := Aqc hG hnb
   have vh5 := l45 _ _ vh4
   have vw5 := l45 _ _ vw4
   have vr5 := l45 _ _ vr4
   clear hG hnb l45 vh4 vw4 vr4
   (refine @unH _ (zV Azc ?_); (try clear hK K); intro K hK hc)
   refine Axy ?_
   have hSp : SpH H5 hb wb rb nb mb pl da dc hv nv p ts ds := ⟨⟨_, vh5⟩, vw5, vr5, kn2.le l25, dd2.le l25, ⟨_, vn⟩, nhn, nwn, nrn, nmn⟩
   have vn0 : H5 nb = some (true, .cells (ints (List.replicate 0 (99 : Int) ++ List.replicate (6 - 0) 0)).toArray 117 (0, 0)) := vn
   clear vn
   (refine @unH _ (zS Azc ?_); (try clear hK K); intro K hK hc)
   refine Azt (Axh (fun w a' H' => ∃ e c, ∃ k : Nat, w = 6 - k /\ k <= 6 /\ a' = act 92 e [] /\ e 0 = .pointer (some ⟨hb, 0, none⟩) /\ e 3 = .pointer (some ⟨wb, 0, none⟩) /\ e 4 = .pointer (some ⟨rb, 0, none⟩) /\ e 7 = .pointer (some ⟨nb, 0, none⟩) /\ e 23 = .int .i64 (k : Nat) /\
    H' nb = some (true, .cells (ints c).toArray 117 (0, 0)) /\ Lex (some nb) H5 H' /\ c = List.replicate k (99 : Int) ++ List.replicate (6 - k) 0) (n := 6) ?_ ?_)
   ·exact ⟨_, _, 0, by omega, by omega, rfl, rfl, rfl, rfl, rfl, rfl, vn0, Lex.refl, rfl⟩
   ·clear vn0
    rintro w a' H6 ⟨e, c, k, rfl, hk, rfl, e0, e3, e4, e7, e23, vn6, lx6, hc⟩
    have hcl : c.length = 6 := by rw [hc]; simp; omega
    have hil : (ints c).length = 6 := by rw [Aq1]; exact hcl
    by_cases hlt : k < 6
    ·have hstep : c.set k 99 = List.replicate (k + 1) (99 : Int) ++ List.replicate (6 - (k + 1)) 0 := by
      rw [hc]
      rcases (by omega : k = 0 ∨ k = 1 ∨ k = 2 ∨ k = 3 ∨ k = 4 ∨ k = 5) with rfl | rfl | rfl | rfl | rfl | rfl <;> rfl
     replace hc : Aqo _ := hc
     replace hstep : Aqo _ := hstep
     (refine @unH _ (zA (aN Azc @Akx) ?_); (try clear hK K); intro K hK hc)
     exact ⟨_, by omega, _, c.set k 99, k + 1, rfl, by omega, rfl, e0, e3, e4, e7, rfl, Axp, lx6.set, hstep⟩
    ·obtain rfl : k = 6 := by omega
     have hcc : Aqo (c = List.replicate 6 99) := show c = _ by rw [hc]; rfl
     have vw6 := lx6.keeps vw5 nwn
     clear hc
     have hp1 : p.toNat < 6 := by omega
     (refine @unH _ (zS (aN Azc @Akx) ?_); (try clear hK K); intro K hK hc)
     refine Axy ?_
     (refine @unH _ (zS (aN Azc @Akx) ?_); (try clear hK K); intro K hK hc)
     have hfr : Ajz (Edg ds ts) pl p (c.set p.toNat 0) := by rw [show c = _ from hcc]; exact Ajz.start _ h0 (by omega)
     have hfs : Ave ds ts 600 (c.set p.toNat 0) = Axf ds p ts := by rw [show c = _ from hcc]; rfl
     have hsm : sum6 (c.set p.toNat 0) < 600 := by
      have h0 := (hfr.le99 (q := 0) (by omega) (by omega)).2
      have h1 := (hfr.le99 (q := 1) (by omega) (by omega)).2
      have h2 := (hfr.le99 (q := 2) (by omega) (by omega)).2
      have h3 := (hfr.le99 (q := 3) (by omega) (by omega)).2
      have h4 := (hfr.le99 (q := 4) (by omega) (by omega)).2
      have h5 := (hfr.le99 (q := 5) (by omega) (by omega)).2
      unfold sum6
      omega
     refine Axy (Azu ?_)
     refine Az1 (Bx4 main H5 hb wb rb nb mb pl da dc hv nv p ts ds hSp hp h0 h1 hd hl6 hts ht (fun e H' => e = .returned (.agg (ints (Axf ds p ts)).toArray) /\ (∀ b x, b ≠ mb -> H b = some x -> H' b = some x) /\ Az5 ds mb H')
      (fun H' h1 h2 => ⟨rfl, fun b x hb hx => h1 b x hb (fun e => by have := l2 _ _ hx; rw [e, h2nb] at this; cases this) (fun e => by rw [e, h0rb] at hx; cases hx) (l25 _ _ (l2 _ _ hx)), h2⟩) 600 _ _ ⟨_, _, rfl, e0, e3, e4, e7, Axp, lx6.set, hfs, hfr, hsm⟩) ?_
     exact fun e a H' q => Bv2 (fun l a H' ⟨n', hlt, h⟩ => ⟨n', nb, H5, l25, h2nb, hSp, h⟩) (fun _ _ _ h => h) q
 ·rintro l rest w a' H' hf ⟨nb, H0, l20, hnb, hS, hI⟩
  have hl : l = 0 := by
   apply Classical.byContradiction
   intro hl
   have h9 : (0 == l) = false := by simp; omega
   simp only [findLabel, h9, Bool.false_eq_true, if_false] at hf
   cases hf
  subst hl
  simp only [findLabel, beq_self_eq_true, if_true, Option.some.injEq] at hf
  subst hf
  refine Axy (Ajc ?_)
  refine Az1 (Bx4 main H0 hb wb rb nb mb pl da dc hv nv p ts ds hS hp h0 h1 hd hl6 hts ht (fun e H' => e = .returned (.agg (ints (Axf ds p ts)).toArray) /\ (∀ b x, b ≠ mb -> H b = some x -> H' b = some x) /\ Az5 ds mb H')
   (fun H' h1 h2 => ⟨rfl, fun b x hb hx => h1 b x hb (fun e => by have := l2 _ _ hx; rw [e, hnb] at this; cases this) (fun e => by rw [e, h0rb] at hx; cases hx) (l20 _ _ (l2 _ _ hx)), h2⟩) w _ H' hI) ?_
  exact fun e a H' q => Bv2 (fun l a H' ⟨n', hlt, h⟩ => ⟨n', hlt, nb, H0, l20, hnb, hS, h⟩) (fun _ _ _ h => h) q
end Go.Proofs.YtnfnaehonkbknaaGreatDoor
end
section
namespace Go.X
open Go
theorem Avc {P : Program} {H : Hp} {fn : Func} {t u r : Tmp} {ty : TypeId} (h : fn.results = #[.tmp t, .tmp u, .cell r ty]) {n : Nat} {e : Nat -> Value} {ds : List Deferred} (ht : t < n) (hu : u < n) (hr : r < n) {a : Addr} (hb : e r = .pointer (some a))
  {d : TypeDesc} (hty : P.underlying ty = some d) (hd : aggB d = false) (K : Value -> Hp -> Prop) (E : Value -> Hp -> Prop) :
  wpS P (results fn (act n e ds).tmps) H K E = ∃ v, H.cell a = some v /\ K (.tuple #[e t, e u, v]) H := by
 have hl : ∀ K E, wpS P (loadVar ty a) H K E = ∃ v, H.cell a = some v /\ K v H := fun K E => Aqi hty hd a K E
 simp [-bind_pure_comp, results, h, act_get? ht, act_get? hu, act_get? hr, hb, asAddr, Aqa, Aqd, hl]
end Go.X
namespace Go.Proofs.YtnfnaehonkbknaaGreatDoor
open Go Go.X Go.Proofs.Tryz
def Ax3 := aN (fun H => Aqs (H := H) (P := Tryz.prog) (h := zeroValue4)) (aN @Dvl (aN @Dvq (aN @Dwb (aN @Dyf (aN @Dya (aN @Dwl (aN @Dw4 (aN @Dwt (aN @Cwm (aN (fun H st => Aw5 (H := H) (st := st) underlying206 rfl zeroValue206) (aN @Ayf (aN @Ayh (aN @Cwn (aN @Bqy (aN @Bq0 (aN @Cwo (aN @Dvt (aN @Dwc (aN @Dvc (aN @Bxt (aN (fun H st => Aw5 (H := H) (st := st) underlying208 rfl zeroValue208) (aN @Byq (aN (fun H => Aqs (H := H) (P := Tryz.prog) (h := zeroValue206)) (aN (fun H => Aqr (H := H) sizeOf206) (aN @Cx6 (aN (fun H => Cyt (H := H) underlying200 rfl) @Dvb))))))))))))))))))))))))))
def Cqo := aN (fun H st => Aw5 (H := H) (st := st) underlying200 rfl zeroValue200) (aN (fun H => Aqs (H := H) (P := Tryz.prog) (h := zeroValue200)) (aN (fun H => Aqr (H := H) sizeOf200) @Dvb))
def Bku := aN (fun H => Aqe (H := H) underlying46 (i := 2) rfl (off := 2) rfl sizeOf4) (aN @Dwd (aN @Dvu (aN @Dwc (aN @Bwy (aN (fun H => Cyt (H := H) underlying206 rfl) (aN @Bwz (fun H => Cyt (H := H) underlying208 rfl)))))))
def Cv6 := aN (fun H => Aqe (H := H) underlying206 (i := 0) rfl (off := 0) rfl sizeOf3) @Dwc
def Cv7 := aN (fun H => Aqe (H := H) underlying208 (i := 0) rfl (off := 0) rfl sizeOf3) @Dwc
def nsV (n : Ns) : Value := if n.sm then .iface 206 (.agg #[.int .i64 n.hr]) else .iface 208 (.agg #[.int .i64 n.hr])
theorem Bys (main : Md) (H : Hp) (n : Ns) :
  FnX Tryz.prog main 115 #[.agg #[.int .i64 n.pl, .int .i64 n.hr, .bool n.sm]] H fun e H' => e = .returned (nsV n) /\ H.le H' := by
 obtain ⟨pl, hr, sm⟩ := n
 cases sm with
 | true =>
  refine Aql func115 rfl ntmps115 (by simp) ?_
  (refine @unH _ (zA Bku ?_); (try clear hK K); intro K hK hc)
  (intro sb hsb; generalize hG : Hp.set _ sb _ = H1; have lH1 := Aqc hG hsb; have vsb := Aqb hG; clear hG)
  (refine @unH _ (zU Bku ?_); (try clear hK K); intro K hK hc)
  (refine @unH _ ?_; refine z9 results115 ?_)
  exact ⟨rfl, lH1⟩
 | false =>
  refine Aql func115 rfl ntmps115 (by simp) ?_
  (refine @unH _ (zA Bku ?_); (try clear hK K); intro K hK hc)
  (intro sb hsb; generalize hG : Hp.set _ sb _ = H1; have lH1 := Aqc hG hsb; have vsb := Aqb hG; clear hG)
  (refine @unH _ (zU Bku ?_); (try clear hK K); intro K hK hc)
  (refine @unH _ ?_; refine z9 results115 ?_)
  exact ⟨rfl, lH1⟩
theorem Cvq (main : Md) (H : Hp) (x : Int) :
  FnX Tryz.prog main 150 #[.agg #[.int .i64 x]] H fun e H' => e = .returned (.int .i64 x) /\ H.le H' := by
 refine Aql func150 rfl ntmps150 (by simp) ?_
 (refine @unH _ (zA Cv6 ?_); (try clear hK K); intro K hK hc)
 (intro sb hsb; generalize hG : Hp.set _ sb _ = H1; have lH1 := Aqc hG hsb; have vsb := Aqb hG; clear hG)
 (refine @unH _ (zU Cv6 ?_); (try clear hK K); intro K hK hc)
 (refine @unH _ ?_; refine z9 results150 ?_)
 exact ⟨trivial, lH1⟩
theorem Cj8 (main : Md) (H : Hp) (x : Int) :
  FnX Tryz.prog main 151 #[.agg #[.int .i64 x]] H fun e H' => e = .returned (.int .i64 x) /\ H.le H' := by
 refine Aql func151 rfl ntmps151 (by simp) ?_
 (refine @unH _ (zA Cv7 ?_); (try clear hK K); intro K hK hc)
 (intro sb hsb; generalize hG : Hp.set _ sb _ = H1; have lH1 := Aqc hG hsb; have vsb := Aqb hG; clear hG)
 (refine @unH _ (zU Cv7 ?_); (try clear hK K); intro K hK hc)
 (refine @unH _ ?_; refine z9 results151 ?_)
 exact ⟨trivial, lH1⟩
def Ck8 (k : Bool) : Value := if k then .iface 200 (.agg #[]) else .nilIface
theorem Bk7 (H : Hp) (k : Bool) (st : TypeId) (K : Value -> Hp -> Prop) (E : Value -> Hp -> Prop) : wpS Tryz.prog (Instr.typeAssert (Ck8 k) st 200 true) H K E = K (.tuple #[.agg #[], .bool k]) H := by
 cases k
 ·show wpS Tryz.prog (Instr.typeAssert .nilIface st 200 true) H K E = _
  unfold Instr.typeAssert
  rw [Aqa, Aqh underlying200]
  simp only [Bzc, Aqd, if_true, Aqa, Aq8 zeroValue200]
 ·show wpS Tryz.prog (Instr.typeAssert (.iface 200 (.agg #[])) st 200 true) H K E = _
  rw [Aw5 underlying200 rfl zeroValue200]
  rfl
theorem Akk (main : Md) (H : Hp) (isb : Nat) (x : Value) (hb : H isb = some (true, .cells #[x] 4 (0, 0))) (m : FrameMode) (k : Bool) (hm : m = .returning /\ k = false ∨ m = .panicking [{ v := Ck8 true, recovered := false }] /\ k = true) (R : FrameMode -> Hp -> Prop)
  (hR : Aqo (∀ H', H.le H' -> R .returning (if k = true then H'.set isb (.cells #[.bool false] 4 (0, 0)) else H'))) :
  DefX Tryz.prog main m { target := .fn (.func 114) #[.pointer (some ⟨isb, 0, none⟩)], args := #[] } H R := by
 refine Bk0 (v := Ck8 k) func114 rfl (fun _ _ => Cwl _) ?_ ?_
 ·rcases hm with ⟨h1, h2⟩ | ⟨h1, h2⟩
  ·exact .inl ⟨h1, by rw [h2]; rfl⟩
  ·exact .inr (by rw [h1, h2])
 intro K hK
 rw [ntmps114]
 rw [show ((#[] : Array Value) ++ #[.pointer (some ⟨isb, 0, none⟩)]) = [Value.pointer (some ⟨isb, 0, none⟩)].toArray from rfl, Aw9 (by simp)]
 (refine @unH _ ?_; refine zX (aN Cqo @Bk7) ?_)
 (intro nb hnb; generalize hG : Hp.set _ nb _ = H1; have lH1 := Aqc hG hnb; have vnb := Aqb hG; clear hG)
 have hb1 := lH1 _ _ hb
 refine hK _ _ ?_; clear hK K
 cases k
 ·have hR1 := (show ∀ H', H.le H' -> R .returning (if false = true then H'.set isb (.cells #[.bool false] 4 (0, 0)) else H') from hR) H1 lH1
  simp only [Bool.false_eq_true, if_false] at hR1
  replace hR1 : Aqo _ := hR1
  (refine @unH _ (zA Cqo ?_); (try clear hK K); intro K hK hc)
  refine ⟨rfl, ?_⟩
  rw [Avt results114]
  exact hR1
 ·have hR1 := (show ∀ H', H.le H' -> R .returning (if true = true then H'.set isb (.cells #[.bool false] 4 (0, 0)) else H') from hR) H1 lH1
  simp only [if_true] at hR1
  replace hR1 : Aqo _ := hR1
  (refine @unH _ (zA Cqo ?_); (try clear hK K); intro K hK hc)
  refine ⟨rfl, ?_⟩
  rw [Avt results114]
  exact hR1
def Bwr (ns : List Ns) (c : List Int) (lo hi : Int) (f : Bool) : Prop := match begN ns c 0 12 with
 | none => f = false
 | some (l, h) => f = true /\ lo = l /\ hi = h
theorem Bws (main : Md) (H : Hp) (hb mb : Nat) (q : Bool) (pl : Int) (dv hv : Value) (na : Option Addr) (nc : Nat) (c : List Int) (ns : List Ns) (vh : H hb = some (q, hsO pl dv hv (.slice na ns.length nc) mb)) (nn : SlN H (.slice na ns.length nc) ns)
  (hp : pl <= 6) (hns : ∀ n ∈ ns, NsOk pl n) (hl4 : ns.length <= 4) (hcl : c.length = 6) (hc0 : ∀ q, 0 <= q -> q < 6 -> 0 <= gI c q /\ gI c q <= 99) :
  FnX Tryz.prog main 99 #[.pointer (some ⟨hb, 0, none⟩), .agg (ints c).toArray] H fun e H' => ∃ lo hi f, e = .returned (.tuple #[.int .i64 lo, .int .i64 hi, .bool f]) /\ Bwr ns c lo hi f /\ H.le H' := by
 have hil : (ints c).length = 6 := by rw [Aq1]; exact hcl
 simp only [hsO] at vh
 refine Aql func99 rfl ntmps99 (by simp) ?_
 refine Axv rfl ?_; intro K hK
 (refine @unH _ ?_; refine zXi Ax3 ?_)
 (intro cb hcb fb hfb; replace hfb : (Hp.set _ cb _) fb = none := hfb; generalize hG : Hp.set _ cb _ = H1 at hfb ⊢; have lH1 := Aqc hG hcb; have wcb := Aqb hG; clear hG; generalize hG : Hp.set _ fb _ = H2; have lH2 := Aqc hG hfb; have vfb := Aqb hG; have vcb := lH2 _ _ wcb; have ncbfb := Aqq wcb hfb; clear hG wcb)
 have l2 := Hp.le_trans lH1 lH2
 have h0fb := Hp.le_none lH1 hfb
 have vh2 := l2 _ _ vh
 have nn2 := nn.le l2
 clear hcb hfb lH1 lH2 vh nn
 refine hK _ _ ?_; clear hK K
 refine Axv rfl ?_; intro K hK
 (refine @unH _ ?_; refine zXi (aN Ax3 (aN @Ckh (aN @Byh @Bqn))) ?_)
 refine hK _ _ ?_; clear hK K
 (refine @unH _ (zAi Ax3 ?_); (try clear hK K); intro K hK hc)
 refine Axh (fun w a' H' => ∃ e, ∃ k : Nat, ∃ lo hi : Int, w = ns.length - k /\ k <= ns.length /\ a' = act 74 e [{ target := .fn (.func 114) #[.pointer (some ⟨fb, 0, none⟩)], args := #[] }] /\ e 0 = .pointer (some ⟨hb, 0, none⟩) /\ e 3 = .pointer (some ⟨cb, 0, none⟩) /\ e 4 = .int .i64 lo /\ e 5 = .int .i64 hi /\ e 6 = .pointer (some ⟨fb, 0, none⟩) /\
  e 17 = .slice na ns.length nc /\ e 18 = .int .i64 ns.length /\ e 19 = .int .i64 (k : Nat) /\ H2.le H' /\ (0 <= lo /\ lo <= 13 /\ -99 <= hi /\ hi <= 12) /\ begN (ns.drop k) c lo hi = begN ns c 0 12) (n := ns.length) ?_ ?_
 ·exact ⟨_, 0, 0, 12, by omega, by omega, rfl, rfl, rfl, rfl, rfl, rfl, rfl, rfl, rfl, Hp.le_refl _, by omega, rfl⟩
 ·rintro w a' H3 ⟨e, k, lo, hi, rfl, hk, rfl, e0, e3, e4, e5, e6, e17, e18, e19, l23, hlh, hbeg⟩
  have vc3 := l23 _ _ vcb
  have vf3 := l23 _ _ vfb
  by_cases hlt : k < ns.length
  ·obtain ⟨b, o, p', cd, fr, rfl, hb', hcs, hce⟩ := nn2.get (List.getElem?_eq_getElem hlt)
   obtain ⟨p0, p1, q0, q1⟩ := hns _ (List.getElem_mem hlt)
   have hdr : ns.drop k = ns[k] :: ns.drop (k + 1) := List.drop_eq_getElem_cons hlt
   rw [hdr, begN] at hbeg
   clear hdr
   generalize ns[k] = n at *
   obtain ⟨npl, nhr, nsm⟩ := n
   simp only at p0 p1 q0 q1 hce hbeg
   have hg := Avq hcl p0 (by omega)
   obtain ⟨g0, g9⟩ := hc0 npl p0 (by omega)
   have hb3 := l23 _ _ hb'
   replace hbeg : Aqo _ := hbeg
   obtain ⟨lo0, lo13, hi99, hi12⟩ := hlh
   (refine @unH _ (zAi Ax3 ?_); (try clear hK K); intro K hK hc)
   intro ab hab
   have nca := Aqq vc3 hab
   have nfa := Aqq vf3 hab
   (refine @unH _ (zUi Ax3 ?_); (try clear hK K); intro K hK hc)
   generalize hG : Hp.set H3 ab _ = H4
   have va := Aqb hG
   have l24 := Hp.le_trans l23 (Aqc hG hab)
   clear hG hb3 hb' hcs hce vc3 vf3 nca nfa hab l23
   refine (Bys main H4 ⟨npl, nhr, nsm⟩).runs.mono ?_
   rintro _ H5 ⟨rfl, lH5⟩
   have va5 := lH5 _ _ va
   have l25 := Hp.le_trans l24 lH5
   have vc5 := l25 _ _ vcb
   have vf5 := l25 _ _ vfb
   clear va l24 lH5
   generalize hgc : gI c npl = g at *
   cases nsm with
   | true =>
    rw [show nsV ⟨npl, nhr, true⟩ = .iface 206 (.agg #[.int .i64 nhr]) from rfl]
    have hs : Aqo ((if g = 99 ∨ (min hi (nhr - g)) < lo then none else begN (ns.drop (k + 1)) c lo (min hi (nhr - g))) = begN ns c 0 12) := by
     have h : _ = begN ns c 0 12 := hbeg
     simp only [true_and, if_true] at h
     exact h
    clear hbeg
    (refine @unH _ (zUi Ax3 ?_); (try clear hK K); intro K hK hc)
    refine Akn 10 [(true, 0), (true, 1), (true, 2), (true, 3), (true, 4), (true, 5), (true, 6), (true, 7), (true, 8), (true, 9)] (by kernel_rfl) (by kernel_rfl) (by simp) (by kernel_rfl) ?_; intro K hK
    (iterate 2 (refine @unH _ ?_; refine z3i Ax3 ?_))
    (apply Aym rfl rfl rfl; (focus ((refine @unH _ ?_; refine zXi Ax3 ?_); exact Cxn (Cvq main H5 nhr))); simp -implicitDefEqProofs (disch := first | omega | (simp only [qd] <;> omega)) only [Aq0, Aqp])
    (iterate 7 (refine @unH _ ?_; refine z3i Ax3 ?_))
    refine Awa (hK _ _ ?_)
    clear hK K
    (try refine @unH _ (zQ ?_))
    rw [show (if nhr - g < hi then nhr - g else hi) = min hi (nhr - g) by split <;> omega]
    have hb2 : -99 <= min hi (nhr - g) /\ min hi (nhr - g) <= 12 := by omega
    generalize min hi (nhr - g) = hi2 at *
    obtain ⟨hb21, hb22⟩ := hb2
    (refine @unH _ (zAi Ax3 ?_); (try clear hK K); intro K hK hc)
    intro xb hxb
    have nax := Aqq va5 hxb
    have ncx := Aqq vc5 hxb
    have nfx := Aqq vf5 hxb
    clear hgc
    by_cases hz : g = 99
    ·subst hz
     try (refine @unH _ ?_; refine zXi Ax3 ?_)
     refine hK _ _ ?_
     clear hK K
     (try refine @unH _ (zQ ?_))
     refine Axv rfl ?_; intro K hK
     (refine @unH _ ?_; refine zXi Ax3 ?_)
     refine hK _ _ ?_
     clear hK K
     (try refine @unH _ (zQ ?_))
     refine Bxb (t := true) (by simp only [Aq6, Axg, Nat.reduceEqDiff, Nat.reduceLT, ↓reduceIte, *]; first | done | rfl) ?_
     rw [if_pos rfl]
     generalize hG : Hp.set H5 xb _ = H6
     have l26 := Hp.le_trans l25 (Aqc hG hxb)
     have vf6 := l26 _ _ vfb
     clear hG va5 vc5 vf5 nax ncx nfx hxb hg l25
     refine Bzf rfl ?_; intro K E hK hE
     (refine @unH _ ?_; refine zXi (aN Ax3 (aN @Cju (aN @Cjv (aN @Bj7 @Aws)))) ?_)
     refine hE _ _ _ ?_
     refine Akk main H6 fb _ vf6 (.panicking _) true (.inr ⟨rfl, rfl⟩) _ (fun H8 l8 => ?_)
     show wpS _ (results _ _) _ _ _
     rw [Avc results99 (by decide) (by decide) (by decide) (a := ⟨fb, 0, none⟩) (by exact e6) underlying4 rfl]
     refine ⟨.bool false, by rw [if_pos rfl, cell_of Axp]; rfl, lo, hi2, false, by (show Ending.returned (.tuple #[e 4, _, _]) = _; rw [e4]; rfl), ?_, ?_⟩
     ·unfold Bwr; rw [<- show _ = begN ns c 0 12 from hs, if_pos (.inl rfl)]
     ·exact (((Lex.of (Hp.le_trans l2 (Hp.le_trans l26 l8))).own h0fb : Lex none H _)).toLe
    ·by_cases hz2 : hi2 < lo
     ·try (refine @unH _ ?_; refine zXi Ax3 ?_)
      refine hK _ _ ?_
      clear hK K
      (try refine @unH _ (zQ ?_))
      refine Axv rfl ?_; intro K hK
      (refine @unH _ ?_; refine zXi Ax3 ?_)
      refine hK _ _ ?_
      clear hK K
      (try refine @unH _ (zQ ?_))
      refine Bxb (t := true) (by simp only [Aq6, Axg, Nat.reduceEqDiff, Nat.reduceLT, ↓reduceIte, *]; first | done | rfl) ?_
      rw [if_pos rfl]
      generalize hG : Hp.set H5 xb _ = H6
      have l26 := Hp.le_trans l25 (Aqc hG hxb)
      have vf6 := l26 _ _ vfb
      clear hG va5 vc5 vf5 nax ncx nfx hxb hg l25
      refine Bzf rfl ?_; intro K E hK hE
      (refine @unH _ ?_; refine zXi (aN Ax3 (aN @Cju (aN @Cjv (aN @Bj7 @Aws)))) ?_)
      refine hE _ _ _ ?_
      refine Akk main H6 fb _ vf6 (.panicking _) true (.inr ⟨rfl, rfl⟩) _ (fun H8 l8 => ?_)
      show wpS _ (results _ _) _ _ _
      rw [Avc results99 (by decide) (by decide) (by decide) (a := ⟨fb, 0, none⟩) (by exact e6) underlying4 rfl]
      refine ⟨.bool false, by rw [if_pos rfl, cell_of Axp]; rfl, lo, hi2, false, by (show Ending.returned (.tuple #[e 4, _, _]) = _; rw [e4]; rfl), ?_, ?_⟩
      ·unfold Bwr; rw [<- show _ = begN ns c 0 12 from hs, if_pos (.inr hz2)]
      ·exact (((Lex.of (Hp.le_trans l2 (Hp.le_trans l26 l8))).own h0fb : Lex none H _)).toLe
     ·(refine @unH _ (zUi Ax3 ?_); (try clear hK K); intro K hK hc)
      generalize hG : Hp.set H5 xb _ = H6
      have l26 := Hp.le_trans l25 (Aqc hG hxb)
      have vf6 := l26 _ _ vfb
      clear hG va5 vc5 vf5 nax ncx nfx hxb hg l25
      (refine @unH _ (zAi Ax3 ?_); (try clear hK K); intro K hK hc)
      refine ⟨_, by omega, _, k + 1, lo, hi2, rfl, by omega, rfl, e0, e3, e4, rfl, e6, e17, e18, rfl, l26, by omega, ?_⟩
      rw [<- show _ = begN ns c 0 12 from hs, if_neg (by omega)]
   | false =>
    rw [show nsV ⟨npl, nhr, false⟩ = .iface 208 (.agg #[.int .i64 nhr]) from rfl]
    have hs : Aqo ((if hi < (max lo (nhr - g + 1)) then none else begN (ns.drop (k + 1)) c (max lo (nhr - g + 1)) hi) = begN ns c 0 12) := by
     have h : _ = begN ns c 0 12 := hbeg
     simp only [Bool.false_eq_true, false_and, false_or, if_false] at h
     exact h
    clear hbeg
    (refine @unH _ (zUi Ax3 ?_); (try clear hK K); intro K hK hc)
    refine Akn 11 [(true, 0), (true, 1), (true, 2), (true, 3), (true, 4), (true, 5), (true, 6), (true, 7), (true, 8), (true, 9), (true, 10)] (by kernel_rfl) (by kernel_rfl) (by simp) (by kernel_rfl) ?_; intro K hK
    (iterate 2 (refine @unH _ ?_; refine z3i Ax3 ?_))
    (apply Aym rfl rfl rfl; (focus ((refine @unH _ ?_; refine zXi Ax3 ?_); exact Cxn (Cj8 main H5 nhr))); simp -implicitDefEqProofs (disch := first | omega | (simp only [qd] <;> omega)) only [Aq0, Aqp])
    (iterate 8 (refine @unH _ ?_; refine z3i Ax3 ?_))
    refine Awa (hK _ _ ?_)
    clear hK K
    (try refine @unH _ (zQ ?_))
    rw [show (if lo < nhr - g + 1 then nhr - g + 1 else lo) = max lo (nhr - g + 1) by split <;> omega]
    have hb2 : 0 <= max lo (nhr - g + 1) /\ max lo (nhr - g + 1) <= 13 := by omega
    generalize max lo (nhr - g + 1) = lo2 at *
    obtain ⟨hb21, hb22⟩ := hb2
    (refine @unH _ (zAi Ax3 ?_); (try clear hK K); intro K hK hc)
    intro xb hxb
    have nax := Aqq va5 hxb
    have ncx := Aqq vc5 hxb
    have nfx := Aqq vf5 hxb
    clear hgc
    by_cases hz2 : hi < lo2
    ·try (refine @unH _ ?_; refine zXi Ax3 ?_)
     refine hK _ _ ?_
     clear hK K
     (try refine @unH _ (zQ ?_))
     refine Axv rfl ?_; intro K hK
     (refine @unH _ ?_; refine zXi Ax3 ?_)
     refine hK _ _ ?_
     clear hK K
     (try refine @unH _ (zQ ?_))
     refine Bxb (t := true) (by simp only [Aq6, Axg, Nat.reduceEqDiff, Nat.reduceLT, ↓reduceIte, *]; first | done | rfl) ?_
     rw [if_pos rfl]
     generalize hG : Hp.set H5 xb _ = H6
     have l26 := Hp.le_trans l25 (Aqc hG hxb)
     have vf6 := l26 _ _ vfb
     clear hG va5 vc5 vf5 nax ncx nfx hxb hg l25
     refine Bzf rfl ?_; intro K E hK hE
     (refine @unH _ ?_; refine zXi (aN Ax3 (aN @Cju (aN @Cjv (aN @Bj7 @Aws)))) ?_)
     refine hE _ _ _ ?_
     refine Akk main H6 fb _ vf6 (.panicking _) true (.inr ⟨rfl, rfl⟩) _ (fun H8 l8 => ?_)
     show wpS _ (results _ _) _ _ _
     rw [Avc results99 (by decide) (by decide) (by decide) (a := ⟨fb, 0, none⟩) (by exact e6) underlying4 rfl]
     refine ⟨.bool false, by rw [if_pos rfl, cell_of Axp]; rfl, lo2, hi, false, by (show Ending.returned (.tuple #[_, e 5, _]) = _; rw [e5]; rfl), ?_, ?_⟩
     ·unfold Bwr; rw [<- show _ = begN ns c 0 12 from hs, if_pos hz2]
     ·exact (((Lex.of (Hp.le_trans l2 (Hp.le_trans l26 l8))).own h0fb : Lex none H _)).toLe
    ·(refine @unH _ (zUi Ax3 ?_); (try clear hK K); intro K hK hc)
     generalize hG : Hp.set H5 xb _ = H6
     have l26 := Hp.le_trans l25 (Aqc hG hxb)
     have vf6 := l26 _ _ vfb
     clear hG va5 vc5 vf5 nax ncx nfx hxb hg l25
     (refine @unH _ (zAi Ax3 ?_); (try clear hK K); intro K hK hc)
     refine ⟨_, by omega, _, k + 1, lo2, hi, rfl, by omega, rfl, e0, e3, rfl, e5, e6, e17, e18, rfl, l26, by omega, ?_⟩
     rw [<- show _ = begN ns c 0 12 from hs, if_neg (by omega)]
  ·obtain rfl : k = ns.length := by omega
   rw [List.drop_length, begN] at hbeg
   replace hbeg : Aqo _ := hbeg
   obtain ⟨lo0, lo13, hi99, hi12⟩ := hlh
   (refine @unH _ (zAi Ax3 ?_); (try clear hK K); intro K hK hc)
   generalize hG : Hp.set H3 fb _ = H4
   have vf4 := Aqb hG
   have hl : Lex none H H4 := by rw [<- hG]; exact (Lex.of (Hp.le_trans l2 l23)).own h0fb
   clear hG
   refine Axt ?_
   refine Akk main H4 fb _ vf4 .returning false (.inl ⟨rfl, rfl⟩) _ (fun H8 l8 => ?_)
   show wpS _ (results _ _) _ _ _
   rw [Avc results99 (by decide) (by decide) (by decide) (a := ⟨fb, 0, none⟩) (by exact e6) underlying4 rfl]
   refine ⟨.bool true, by rw [if_neg (by simp), cell_of (l8 _ _ vf4)]; rfl, lo, hi, true, rfl, ?_, ?_⟩
   ·unfold Bwr; rw [<- show _ = begN ns c 0 12 from hbeg]; exact ⟨rfl, rfl, rfl⟩
   ·exact Hp.le_trans hl.toLe l8
end Go.Proofs.YtnfnaehonkbknaaGreatDoor
end
section
namespace Go.Proofs.YtnfnaehonkbknaaGreatDoor
open Go Go.X Go.Proofs.Tryz
def Ay9 := aN @Dw7 (aN (fun H => Aqs (H := H) (P := Tryz.prog) (h := zeroValue49)) (aN (fun H => Bwa (H := H) sizeOf49) (aN (fun H => Bx9 (H := H) sizeOf49) @Dwe)))
def Akt := aN @Dv6 (aN @Dvl (aN @Dvo (aN @Dwa (aN @Dye (aN (fun H => Aqi (H := H) underlying199 rfl) (aN @Dwn (aN @Dw9 (aN @Dvx (aN @Dwk (aN @Dw3 (aN @Dws (aN @Dvr (aN @Dwc (aN @Dvs (aN @Awm (aN @Dvg (aN @Dyi @Dwe)))))))))))))))))
structure Drs (S : Nat -> Prop) (T : Bool -> List (List Int) -> Hp -> Prop) (y : Value) (yb tb gb thisb : Nat) (ds : List Dr) (L : List (List Int)) (pre : List Int) (H : Hp) : Prop where
 cl : T true L H
 vy : H yb = some (true, .cells #[y] 199 (0, 0))
 vg : H gb = some (true, .cells #[.func (.func 113) #[] #[.pointer (some ⟨thisb, 0, none⟩), .pointer (some ⟨yb, 0, none⟩), .pointer (some ⟨tb, 0, none⟩), .pointer (some ⟨gb, 0, none⟩)]] 49 (0, 0))
 vt : ∃ p, H tb = some (true, .cells (ints p).toArray 91 (0, 0)) /\ p.length = 6 /\ p.take pre.length = pre /\ p.drop ds.length = List.replicate (6 - ds.length) 0
 ny : ¬ S yb
 ng : ¬ S gb
 nt : ¬ S tb
def Bqs (d : Dr) (R : List (List Int)) (pre : List Int) (i : Nat) : List (List Int) := (((List.range i).map fun (n : Nat) => (n : Int)).filter fun n => decide (d.mn <= n /\ n <= d.mx)).flatMap fun n => R.map fun u => pad6 (pre ++ n :: u)
theorem Czc (d : Dr) (R : List (List Int)) (pre : List Int) (i : Nat) : Bqs d R pre (i + 1) = Bqs d R pre i ++ if d.mn <= (i : Int) /\ (i : Int) <= d.mx then R.map (fun u => pad6 ((pre ++ [(i : Int)]) ++ u)) else [] := by
 unfold Bqs
 rw [List.range_succ, List.map_append, List.filter_append, List.flatMap_append]
 congr 1
 by_cases h : d.mn <= (i : Int) /\ (i : Int) <= d.mx
 ·rw [if_pos h]
  simp [h]
 ·rw [if_neg h]
  simp [h]
theorem Ckb (d : Dr) (ds : List Dr) (pre : List Int) : Bqs d (Ax9 ds) pre 5 = (Ax9 (d :: ds)).map fun u => pad6 (pre ++ u) := by
 show _ = ((hrsF d).flatMap fun n => (Ax9 ds).map (n :: ·)).map fun u => pad6 (pre ++ u)
 unfold Bqs hrsF
 rw [List.map_flatMap]
 congr 1
 funext n
 rw [List.map_map]
 rfl
theorem Cvg {p pre : List Int} (h : p.length = 6) (n : Nat) (hn : pre.length = n) (h1 : p.take n = pre) (h2 : p.drop n = List.replicate (6 - n) 0) : p = pad6 pre := by
 unfold pad6
 rw [<- List.take_append_drop n p, h1, h2, hn]
theorem Czm (main : Md) {S : Nat -> Prop} {A : List Int -> Prop} {T : Bool -> List (List Int) -> Hp -> Prop} {yf : Fn} {yi yc : Array Value} {yb tb gb thisb : Nat} {pl : Int} {da : Option Addr} {dc : Nat} {hv nv : Value} {ds : List Dr}
  (hC : Cjj Tryz.prog main (.func yf yi yc) S (fun H v xs => v = .agg (ints xs).toArray) A T) (hT1 : ∀ t L H, T t L H -> t = true)
  (hthis : ∀ L H, T true L H -> ∃ hb mb q q', H thisb = some (q', .cells #[.pointer (some ⟨hb, 0, none⟩)] 115 (0, 0)) /\ H hb = some (q, hsO pl (.slice da ds.length dc) hv nv mb) /\ SlD H (.slice da ds.length dc) ds)
  (hl6 : ds.length <= 6) : ∀ (n k : Nat) (hk : k + n = ds.length) (pre : List Int) (hpre : pre.length = k) (L : List (List Int)) (H : Hp) (hP : Drs S T (.func yf yi yc) yb tb gb thisb ds L pre H) (hA : ∀ u ∈ Ax9 (ds.drop k), A (pad6 (pre ++ u))),
  FnX Tryz.prog main 113 #[.int .i64 k, .pointer (some ⟨thisb, 0, none⟩), .pointer (some ⟨yb, 0, none⟩), .pointer (some ⟨tb, 0, none⟩), .pointer (some ⟨gb, 0, none⟩)] H fun e H' => e = .returned (.bool true) /\ Drs S T (.func yf yi yc) yb tb gb thisb ds (L ++ (Ax9 (ds.drop k)).map fun u => pad6 (pre ++ u)) pre H' /\ ∀ b x, ¬ S b -> b ≠ tb -> H b = some x -> H' b = some x := by
 intro n
 induction n with
 | zero =>
  intro k hk pre hpre L H hP hA
  obtain ⟨p, vt, hp6, hp1, hp2⟩ := hP.vt
  obtain ⟨hb, mb, q, q', vth, vh, dd⟩ := hthis _ _ hP.cl
  have vy := hP.vy
  obtain rfl : k = ds.length := by omega
  have hpp : p = pad6 pre := Cvg hp6 _ hpre (by rw [<- hpre]; exact hp1) hp2
  have hil : (ints p).length = 6 := by rw [Aq1]; exact hp6
  have hex := Aja hp6
  simp only [hsO] at vh
  replace hpp : Aqo _ := hpp
  replace hp1 : Aqo _ := hp1
  replace hp2 : Aqo _ := hp2
  replace hpre : Aqo _ := hpre
  refine Aql func113 rfl ntmps113 (by simp) ?_
  (refine @unH _ (zA Akt ?_); (try clear hK K); intro K hK hc)
  have hcall := hC.call L H _ p hP.cl rfl (by rw [show p = _ from hpp]; have := hA [] (by simp [Ax9]); simpa using this)
  refine Ajd.use hcall ?_
  clear hcall
  rintro _ H2 ⟨t, rfl, hT, hk2⟩
  obtain rfl : t = true := hT1 _ _ _ hT
  have hP2 : Drs S T (.func yf yi yc) yb tb gb thisb ds (L ++ [p]) pre H2 := ⟨hT, hk2 _ _ hP.ny vy, hk2 _ _ hP.ng hP.vg, ⟨p, hk2 _ _ hP.nt vt, hp6, hp1, hp2⟩, hP.ny, hP.ng, hP.nt⟩
  clear vy vt vth vh hex hil dd
  replace hk2 : Aqo _ := hk2
  (refine @unH _ (zU Akt ?_); (try clear hK K); intro K hK hc)
  (refine @unH _ ?_; refine z9 results113 ?_)
  refine ⟨trivial, ?_, fun b x h1 _ hx => (show ∀ b x, ¬ S b -> H b = some x -> H2 b = some x from hk2) b x h1 hx⟩
  rw [show p = _ from hpp] at hP2
  simpa [Ax9] using hP2
 | succ n ih =>
  intro k hk pre hpre L H hP hA
  obtain ⟨p, vt, hp6, hp1, hp2⟩ := hP.vt
  obtain ⟨hb, mb, q, q', vth, vh, dd⟩ := hthis _ _ hP.cl
  have hlt : k < ds.length := by omega
  obtain ⟨db, o, p', cd, fr, rfl, hdb, hcs, hce⟩ := dd.get (List.getElem?_eq_getElem hlt)
  have hdr : ds.drop k = ds[k] :: ds.drop (k + 1) := List.drop_eq_getElem_cons hlt
  generalize ds[k] = d at *
  have hce2 : cd.extract (o + k * 4 + 2) (o + k * 4 + 4) = #[.int .i64 d.mn, .int .i64 d.mx] := by
   have h : (cd.extract (o + k * 4) (o + k * 4 + 4)).extract 2 4 = #[.int .i64 d.mn, .int .i64 d.mx] := by rw [hce]; rfl
   rw [Array.extract_extract] at h
   rw [<- h]
   congr 1
   omega
  have hcs2 : o + k * 4 + 4 <= cd.size := hcs
  simp only [hsO] at vh
  rw [hdr] at hA ⊢
  rw [<- Ckb]
  clear hdr hce hcs
  have hke : ((k : Int) == (ds.length : Int)) = false := by simp; omega
  have hA2 : ∀ i : Int, d.mn <= i -> i <= d.mx -> 0 <= i -> i < 5 -> ∀ u ∈ Ax9 (ds.drop (k + 1)), A (pad6 (pre ++ [i] ++ u)) := fun i h1 h2 h3 h4 u hu => by
   rw [List.append_assoc]
   refine hA _ ?_
   unfold Ax9
   rw [List.mem_flatMap]
   refine ⟨i, ?_, List.mem_map.2 ⟨u, hu, rfl⟩⟩
   unfold hrsF
   rw [List.mem_filter]
   exact ⟨List.mem_map.2 ⟨i.toNat, List.mem_range.2 (by omega), by omega⟩, by simp [h1, h2]⟩
  clear hA
  have hrec := fun (L : List (List Int)) (H : Hp) (i : Int) (hP : Drs S T (.func yf yi yc) yb tb gb thisb ds L (pre ++ [i]) H) h => ih (k + 1) (by omega) (pre ++ [i]) (by simp [hpre]) L H hP h
  clear ih
  generalize Ax9 (ds.drop (k + 1)) = R at *
  replace hp1 : Aqo _ := hp1
  replace hp2 : Aqo _ := hp2
  replace hp6 : Aqo _ := hp6
  replace hpre : Aqo _ := hpre
  refine Aql func113 rfl ntmps113 (by simp) ?_
  (refine @unH _ (zA Akt ?_); (try clear hK K); intro K hK hc)
  intro bb hbb
  have nSb : ¬ S bb := fun h => hC.ex _ _ _ _ hP.cl h hbb
  have ntb := Aqq vt hbb
  generalize hG : Hp.set H bb _ = H1
  have lH1 := Aqc hG hbb
  have vb := Aqb hG
  have hP1 : Drs S T (.func yf yi yc) yb tb gb thisb ds (L ++ Bqs d R pre 0) pre H1 := by
   rw [show Bqs d R pre 0 = [] from rfl, List.append_nil]
   exact ⟨hC.keep _ _ _ _ hP.cl fun b x _ hx => lH1 _ _ hx, lH1 _ _ hP.vy, lH1 _ _ hP.vg, ⟨p, lH1 _ _ vt, hp6, hp1, hp2⟩, hP.ny, hP.ng, hP.nt⟩
  have hnt := hP.nt
  clear hG vt vth vh dd hdb hce2 hcs2 hP hp1 hp2 hp6 hbb
  (refine @unH _ (zU Akt ?_); (try clear hK K); intro K hK hc)
  refine Axh (fun w a' H' => ∃ e, ∃ i : Nat, w = 5 - i /\ i <= 5 /\ a' = act 47 e [] /\ e 0 = .int .i64 k /\ e 3 = .pointer (some ⟨tb, 0, none⟩) /\ e 4 = .pointer (some ⟨gb, 0, none⟩) /\ e 7 = .pointer (some ⟨bb, 0, none⟩) /\ e 29 = .int .i64 (i : Nat) /\
   Drs S T (.func yf yi yc) yb tb gb thisb ds (L ++ Bqs d R pre i) pre H' /\ ∀ b x, ¬ S b -> b ≠ tb -> H1 b = some x -> H' b = some x) (n := 5) ?_ ?_
  ·exact ⟨_, 0, by omega, by omega, rfl, rfl, rfl, rfl, rfl, rfl, hP1, fun _ _ _ _ h => h⟩
  ·clear hP1
   rintro w a' H2 ⟨e, i, rfl, hi, rfl, e0, e3, e4, e7, e29, hP2, hfr⟩
   have vb2 := hfr _ _ nSb (Ne.symm ntb) vb
   by_cases hi5 : i < 5
   ·have hsu := Czc d R pre i
    by_cases hin : d.mn <= (i : Int) /\ (i : Int) <= d.mx
    ·rw [if_pos hin] at hsu
     obtain ⟨p2, vt2, hq6, hq1, hq2⟩ := hP2.vt
     have vg2 := hP2.vg
     have ngt : gb ≠ tb := Aza vg2 vt2 (by decide)
     have hil : (ints p2).length = 6 := by rw [Aq1]; exact hq6
     have hk6 : k < 6 := by omega
     replace hsu : Aqo _ := hsu
     replace hq1 : Aqo _ := hq1
     replace hq2 : Aqo _ := hq2
     replace hq6 : Aqo _ := hq6
     replace hfr : Aqo _ := hfr
     (refine @unH _ (zA Akt ?_); (try clear hK K); intro K hK hc)
     refine (Axc main H2 (i : Int) d.mn d.mx).runs.mono ?_
     rintro _ _ ⟨rfl, hQ⟩
     rw [hQ, show (decide ((i : Int) < d.mn) || decide (d.mx < (i : Int))) = false by simp; omega]
     clear hQ
     (refine @unH _ (zU (aN Akt @Akx) ?_); (try clear hK K); intro K hK hc)
     generalize hG : Hp.set H2 tb _ = H3
     have hfr3 : ∀ b x, b ≠ tb -> H2 b = some x -> H3 b = some x := fun b x hb hx => Aqf hG hx hb
     have hP3 : Drs S T (.func yf yi yc) yb tb gb thisb ds (L ++ Bqs d R pre i) (pre ++ [(i : Int)]) H3 := by
      refine ⟨hC.keep _ _ _ _ hP2.cl fun b x hb hx => hfr3 b x (fun e => hnt (by rw [<- e]; exact hb)) hx, hfr3 _ _ (Aza hP2.vy vt2 (by decide)) hP2.vy, hfr3 _ _ ngt hP2.vg, ⟨p2.set k (i : Int), Aqb hG, by rw [List.length_set]; exact hq6, ?_, ?_⟩, hP2.ny, hP2.ng, hP2.nt⟩
      ·rw [List.length_append, List.length_singleton, show pre.length = k from hpre, List.take_set, List.take_add_one, List.getElem?_eq_getElem (by rw [show p2.length = 6 from hq6]; omega)]
       have h1 : p2.take k = pre := by have := hq1; rw [show pre.length = k from hpre] at this; exact this
       have hpl : pre.length = k := hpre
       rw [h1, List.set_append_right _ _ (by omega), show k - pre.length = 0 by omega]
       rfl
      ·rw [List.drop_set_of_lt hlt]
       exact hq2
     have hr := hrec _ H3 (i : Int) hP3 (hA2 _ hin.1 hin.2 (by omega) (by omega))
     have vb3 := hfr3 _ _ (Ne.symm ntb) vb2
     replace hfr3 : Aqo _ := hfr3
     clear hG vg2 vt2 hP2 hP3 hrec hA2 vb2
     rw [Cq2, Ajt]
     simp only [Array.empty_append, List.append_toArray, List.cons_append, List.nil_append]
     refine hr.runs.mono ?_
     clear hr
     rintro _ H4 ⟨rfl, hP4, hfr4⟩
     replace hfr4 : Aqo _ := hfr4
     (refine @unH _ (zU Akt ?_); (try clear hK K); intro K hK hc)
     refine ⟨_, by omega, _, i + 1, rfl, by omega, rfl, e0, e3, e4, e7, rfl, ?_, fun b x h1 h2 hx => (show ∀ b x, ¬ S b -> b ≠ tb -> H3 b = some x -> H4 b = some x from hfr4) b x h1 h2 ((show ∀ b x, b ≠ tb -> H2 b = some x -> H3 b = some x from hfr3) b x h2 ((show ∀ b x, ¬ S b -> b ≠ tb -> H1 b = some x -> H2 b = some x from hfr) b x h1 h2 hx))⟩
     rw [show Bqs d R pre (i + 1) = _ from hsu, <- List.append_assoc]
     obtain ⟨p4, vt4, h6, h1, h2⟩ := hP4.vt
     refine ⟨hP4.cl, hP4.vy, hP4.vg, ⟨p4, vt4, h6, ?_, h2⟩, hP4.ny, hP4.ng, hP4.nt⟩
     rw [List.length_append, List.length_singleton] at h1
     have h3 := congrArg (List.take pre.length) h1
     rw [List.take_take, Nat.min_eq_left (by omega), List.take_append_of_le_length (Nat.le_refl _), List.take_length] at h3
     exact h3
    ·rw [if_neg hin, List.append_nil] at hsu
     replace hsu : Aqo _ := hsu
     replace hfr : Aqo _ := hfr
     (refine @unH _ (zA Akt ?_); (try clear hK K); intro K hK hc)
     refine (Axc main H2 (i : Int) d.mn d.mx).runs.mono ?_
     rintro _ _ ⟨rfl, hQ⟩
     rw [hQ, show (decide ((i : Int) < d.mn) || decide (d.mx < (i : Int))) = true by simp; omega]
     clear hQ
     (refine @unH _ (zU Akt ?_); (try clear hK K); intro K hK hc)
     exact ⟨_, by omega, _, i + 1, rfl, by omega, rfl, e0, e3, e4, e7, rfl, by rw [show Bqs d R pre (i + 1) = Bqs d R pre i from hsu]; exact hP2, hfr⟩
   ·obtain rfl : i = 5 := by omega
    replace hfr : Aqo _ := hfr
    (refine @unH _ (zA Akt ?_); (try clear hK K); intro K hK hc)
    (refine @unH _ ?_; refine z9 results113 ?_)
    exact ⟨trivial, hP2, fun b x h1 h2 hx => (show ∀ b x, ¬ S b -> b ≠ tb -> H1 b = some x -> H2 b = some x from hfr) b x h1 h2 (lH1 _ _ hx)⟩
theorem Byi (main : Md) {S : Nat -> Prop} {A : List Int -> Prop} {T : Bool -> List (List Int) -> Hp -> Prop} {yf : Fn} {yi yc : Array Value} {thisb : Nat} {pl : Int} {da : Option Addr} {dc : Nat} {hv nv : Value} {ds : List Dr}
  (hC : Cjj Tryz.prog main (.func yf yi yc) S (fun H v xs => v = .agg (ints xs).toArray) A T) (hT1 : ∀ t L H, T t L H -> t = true)
  (hthis : ∀ L H, T true L H -> ∃ hb mb q q', H thisb = some (q', .cells #[.pointer (some ⟨hb, 0, none⟩)] 115 (0, 0)) /\ H hb = some (q, hsO pl (.slice da ds.length dc) hv nv mb) /\ SlD H (.slice da ds.length dc) ds)
  (hl6 : ds.length <= 6) (H : Hp) (hT : T true [] H) (hA : ∀ u ∈ Ax9 ds, A (pad6 u)) :
  FnX Tryz.prog main 112 #[.func yf yi yc, .pointer (some ⟨thisb, 0, none⟩)] H fun e H' => e = .returned (.tuple #[]) /\ T true ((Ax9 ds).map pad6) H' /\ ∀ b x, ¬ S b -> H b = some x -> H' b = some x := by
 refine Aql func112 rfl ntmps112 (by simp) ?_
 (refine @unH _ (zA (aN Ay9 (aN @cells_func @Aj1)) ?_); (try clear hK K); intro K hK hc)
 (intro yb hyb; generalize hG : Hp.set _ yb _ = H1; have lH1 := Aqc hG hyb; have vyb := Aqb hG; clear hG)
 have ny : ¬ S yb := fun h => hC.ex _ _ _ _ hT h hyb
 have hT0 := hC.keep _ _ _ _ hT fun b x _ hx => lH1 _ _ hx
 have l1 := lH1
 clear hyb lH1 hT
 (refine @unH _ (zU (aN Ay9 (aN @cells_func @Aj1)) ?_); (try clear hK K); intro K hK hc)
 (intro tb htb; generalize hG : Hp.set _ tb _ = H2; have lH2 := Aqc hG htb; have vtb := Aqb hG; clear hG)
 have nt : ¬ S tb := fun h => hC.ex _ _ _ _ hT0 h htb
 have vyb2 := lH2 _ _ vyb
 replace hT0 := hC.keep _ _ _ _ hT0 fun b x _ hx => lH2 _ _ hx
 have h0tb := Hp.le_none l1 htb
 have l2 := Hp.le_trans l1 lH2
 clear htb lH2 vyb l1
 (refine @unH _ (zU (aN Ay9 (aN @cells_func @Aj1)) ?_); (try clear hK K); intro K hK hc)
 (intro gb hgb; generalize hG : Hp.set _ gb _ = H3; have lH3 := Aqc hG hgb; have vgb := Aqb hG; clear hG)
 have ng : ¬ S gb := fun h => hC.ex _ _ _ _ hT0 h hgb
 have vyb3 := lH3 _ _ vyb2
 have vtb3 := lH3 _ _ vtb
 replace hT0 := hC.keep _ _ _ _ hT0 fun b x _ hx => lH3 _ _ hx
 have h0gb := Hp.le_none l2 hgb
 have l3 := Hp.le_trans l2 lH3
 clear hgb lH3 vyb2 vtb l2
 (refine @unH _ (zU (aN Ay9 (aN @cells_func @Aj1)) ?_); (try clear hK K); intro K hK hc)
 generalize hG : Hp.set H3 gb _ = H4
 have hk4 : ∀ b x, b ≠ gb -> H3 b = some x -> H4 b = some x := fun b x hb hx => Aqf hG hx hb
 have vg4 := Aqb hG
 have vyb4 := hk4 _ _ (Aza vyb3 vgb (by decide)) vyb3
 have vtb4 := hk4 _ _ (Aza vtb3 vgb (by decide)) vtb3
 have hT4 := hC.keep _ _ _ H4 hT0 fun b x hb hx => hk4 b x (fun e => ng (by rw [<- e]; exact hb)) hx
 have hfr4 : Aqo (∀ b x, H b = some x -> H4 b = some x) := fun b x hx => hk4 b x (fun e => by rw [e, h0gb] at hx; cases hx) (l3 _ _ hx)
 have hz : List.drop ds.length [(0 : Int), 0, 0, 0, 0, 0] = List.replicate (6 - ds.length) 0 := by
  rcases (by omega : ds.length = 0 ∨ ds.length = 1 ∨ ds.length = 2 ∨ ds.length = 3 ∨ ds.length = 4 ∨ ds.length = 5 ∨ ds.length = 6) with h | h | h | h | h | h | h <;> rw [h] <;> rfl
 have hP : Drs S T (.func yf yi yc) yb tb gb thisb ds [] [] H4 := ⟨hT4, vyb4, vg4, ⟨[0, 0, 0, 0, 0, 0], vtb4, rfl, rfl, hz⟩, ny, ng, nt⟩
 have hg := Czm main hC hT1 hthis hl6 ds.length 0 (by omega) [] rfl [] H4 hP (by simpa using hA)
 clear hG vgb vyb3 vtb3 hT0 hT4 hz hP hk4 vyb4 vtb4
 (refine @unH _ (zU Ay9 ?_); intro _ _ hc)
 rw [Cq2, Ajt]
 simp only [Array.empty_append, List.append_toArray, List.cons_append, List.nil_append]
 refine hg.runs.mono ?_
 clear hg
 rintro _ H5 ⟨rfl, hP5, hfr5⟩
 have hT5 := hP5.cl
 rw [List.nil_append, List.drop_zero] at hT5
 replace hfr5 : Aqo _ := hfr5
 replace hT5 : Aqo _ := hT5
 clear hP5 vg4
 (refine @unH _ (zU Ay9 ?_); (try clear hK K); intro K hK hc)
 (refine @unH _ ?_; refine zD results112 ?_)
 refine ⟨by trivial, hT5, fun b x hb hx => (show ∀ b x, ¬ S b -> b ≠ tb -> H4 b = some x -> H5 b = some x from hfr5) b x hb (fun e => by rw [e, h0tb] at hx; cases hx) ((show ∀ b x, H b = some x -> H4 b = some x from hfr4) b x hx)⟩
theorem Czd (main : Md) (H : Hp) (hb : Nat) :
  FnX Tryz.prog main 98 #[.pointer (some ⟨hb, 0, none⟩)] H fun e H' => ∃ thisb, e = .returned (.func (.func 112) #[] #[.pointer (some ⟨thisb, 0, none⟩)]) /\ H' thisb = some (true, .cells #[.pointer (some ⟨hb, 0, none⟩)] 115 (0, 0)) /\ H.le H' /\ H thisb = none := by
 refine Aql func98 rfl ntmps98 (by simp) ?_
 (refine @unH _ (zA trivial ?_); (try clear hK K); intro K hK hc)
 (intro thisb hthisb; generalize hG : Hp.set _ thisb _ = H1; have lH1 := Aqc hG hthisb; have vthisb := Aqb hG; clear hG)
 (refine @unH _ (zU trivial ?_); (try clear hK K); intro K hK hc)
 (refine @unH _ ?_; refine z9 results98 ?_)
 exact ⟨thisb, rfl, vthisb, lH1, hthisb⟩
end Go.Proofs.YtnfnaehonkbknaaGreatDoor
end
section
namespace Go.X
open Go
section
variable {P : Program} {main : Md} {lp : Option Nat} {Q : Exit -> Act -> Hp -> Prop} {ops : Array Oper} {S : Hp -> Prop}
inductive PW where
 | nil
 | take (i : Nat) (p : PW)
 | free (i : Nat) (p : PW)
 | one (i : Nat) (p : PW)
 | two (i : Nat) (p : PW) (j : Nat) (q : PW)
 | three (i : Nat) (p : PW) (j : Nat) (q : PW) (k : Nat) (r : PW)
def PW.depth : PW -> Nat
 | .nil => 0
 | .take _ p => p.depth + 1
 | .free _ p => p.depth + 1
 | .one _ p => p.depth + 1
 | .two _ p _ q => max p.depth q.depth + 1
 | .three _ p _ q _ r => max p.depth (max q.depth r.depth) + 1
def Ajf (P : Program) (main : Md) (lp : Option Nat) (ops : Array Oper) (Q : Exit -> Act -> Hp -> Prop) (S : Hp -> Prop) (ts : List Nat) : PW -> Act -> Hp -> Prop
 | .nil, a, H => Q .normal a H
 | .take i p, a, H => S H /\ ∃ o, ops[i]? = some o /\ ∃ v, Ax4 P main lp ops S o v a /\ Ajf P main lp ops Q S ts p (a.put o.dst v) H
 | .free i p, a, H => ∃ o, ops[i]? = some o /\ ∃ v, Ax4 P main lp ops (fun _ => True) o v a /\ Ajf P main lp ops Q S ts p (a.put o.dst v) H
 | .one i p, a, H => numX P main lp ops i Q (fun a' H' => (i ∈ ts ∨ (S H -> S H')) /\ Ajf P main lp ops Q S ts p a' H') a H
 | .two i p j q, a, H => numX P main lp ops i Q (fun a' H' => (i ∈ ts ∨ (S H -> S H')) /\ Ajf P main lp ops Q S ts p a' H') a H /\ numX P main lp ops j Q (fun a' H' => (j ∈ ts ∨ (S H -> S H')) /\ Ajf P main lp ops Q S ts q a' H') a H
 | .three i p j q k r, a, H => numX P main lp ops i Q (fun a' H' => (i ∈ ts ∨ (S H -> S H')) /\ Ajf P main lp ops Q S ts p a' H') a H /\ numX P main lp ops j Q (fun a' H' => (j ∈ ts ∨ (S H -> S H')) /\ Ajf P main lp ops Q S ts q a' H') a H /\ numX P main lp ops k Q (fun a' H' => (k ∈ ts ∨ (S H -> S H')) /\ Ajf P main lp ops Q S ts r a' H') a H
def Azn (ops : Array Oper) (ts : List Nat) : PW -> Array Bool -> Bool
 | .nil, listed => (Region.ready .any ops listed).isEmpty
 | .take i p, listed => (ts.all fun t => i != t && (waitsFor ops t).getD i false) && Region.free .any ops listed i && (Region.ready .any ops listed).contains i && Azn ops ts p (listed.setIfInBounds i true)
 | .free i p, listed => Region.free .any ops listed i && (Region.ready .any ops listed).contains i && Azn ops ts p (listed.setIfInBounds i true)
 | .one i p, listed => (Region.ready .any ops listed == [i]) && Azn ops ts p (listed.setIfInBounds i true)
 | .two i p j q, listed => (Region.ready .any ops listed == [i, j]) && Azn ops ts p (listed.setIfInBounds i true) && Azn ops ts q (listed.setIfInBounds j true)
 | .three i p j q k r, listed => (Region.ready .any ops listed == [i, j, k]) && Azn ops ts p (listed.setIfInBounds i true) && Azn ops ts q (listed.setIfInBounds j true) && Azn ops ts r (listed.setIfInBounds k true)
theorem Aze {ts : List Nat} (hsel : Region.noSelect ops = true) (hQ : ∀ c a H d v, Q (.panic c) (a.put d v) H -> Q (.panic c) a H) :
  ∀ (plan : PW) (fuel : Nat) (listed : Array Bool) (a : Act) (H : Hp), plan.depth <= fuel -> Closed ops listed -> Azn ops ts plan listed = true ->
   Ajf P main lp ops Q S ts plan a H -> anyV P main lp ops Q S ts fuel listed a H
 | .nil, fuel, listed, a, H, _, _, hok, h => by
  have hr : Region.ready .any ops listed = [] := by simpa [Azn] using hok
  cases fuel with
  | zero => exact ⟨hr, h⟩
  | succ n => exact ⟨fun _ => h, by rw [hr]; simp⟩
 | .take i p, 0, _, _, _, hl, _, _, _ => by simp [PW.depth] at hl
 | .free i p, 0, _, _, _, hl, _, _, _ => by simp [PW.depth] at hl
 | .free i p, fuel + 1, listed, a, H, hl, hcl, hok, h => by
  simp only [Azn, Bool.and_eq_true] at hok
  obtain ⟨⟨hf, hr⟩, hok⟩ := hok
  obtain ⟨o, ho, v, hy, h⟩ := h
  have hr' : i ∈ Region.ready .any ops listed := by simpa using hr
  exact Bk4 ho (Region.noSelect_spec hsel) (fun c a H => hQ c a H _ _) fuel listed a H hcl (Region.free_spec ho hf) hr' hy
   (Aze hsel hQ p fuel _ _ _ (by simp [PW.depth] at hl; omega) (hcl.set hr') hok h)
 | .one i p, 0, _, _, _, hl, _, _, _ => by simp [PW.depth] at hl
 | .two i p j q, 0, _, _, _, hl, _, _, _ => by simp [PW.depth] at hl
 | .three i p j q k r, 0, _, _, _, hl, _, _, _ => by simp [PW.depth] at hl
 | .take i p, fuel + 1, listed, a, H, hl, hcl, hok, h => by
  simp only [Azn, Bool.and_eq_true] at hok
  obtain ⟨⟨⟨hd, hf⟩, hr⟩, hok⟩ := hok
  obtain ⟨hS, o, ho, v, hy, h⟩ := h
  have hr' : i ∈ Region.ready .any ops listed := by simpa using hr
  refine Bzu ho (Region.noSelect_spec hsel) (fun t ht hlt => ?_) (fun c a H => hQ c a H _ _) fuel listed a H hcl (Region.free_spec ho hf) hr' hy hS
   (Aze hsel hQ p fuel _ _ _ (by simp [PW.depth] at hl; omega) (hcl.set hr') hok h)
  have := List.all_eq_true.1 hd t ht
  simp only [Bool.and_eq_true, bne_iff_ne, ne_eq] at this
  exact (Bqo this.2).resolve_left this.1
 | .one i p, fuel + 1, listed, a, H, hl, hcl, hok, h => by
  simp only [Azn, Bool.and_eq_true, beq_iff_eq] at hok
  obtain ⟨hr, hok⟩ := hok
  refine ⟨fun h0 => (by rw [hr] at h0; cases h0), fun j hj => ?_⟩
  have hji : j = i := by rw [hr] at hj; simpa using hj
  subst hji
  exact Axq (fun a' H' h' => ⟨h'.1, Aze hsel hQ p fuel _ _ _ (by simp [PW.depth] at hl; omega) (hcl.set hj) hok h'.2⟩) h
 | .two i p j q, fuel + 1, listed, a, H, hl, hcl, hok, h => by
  simp only [Azn, Bool.and_eq_true, beq_iff_eq] at hok
  obtain ⟨⟨hr, hok1⟩, hok2⟩ := hok
  refine ⟨fun h0 => (by rw [hr] at h0; cases h0), fun k hk => ?_⟩
  have hkk : k = i ∨ k = j := by rw [hr] at hk; simpa using hk
  rcases hkk with rfl | rfl
  ·exact Axq (fun a' H' h' => ⟨h'.1, Aze hsel hQ p fuel _ _ _ (by simp [PW.depth] at hl; omega) (hcl.set hk) hok1 h'.2⟩) h.1
  ·exact Axq (fun a' H' h' => ⟨h'.1, Aze hsel hQ q fuel _ _ _ (by simp [PW.depth] at hl; omega) (hcl.set hk) hok2 h'.2⟩) h.2
 | .three i p j q k r, fuel + 1, listed, a, H, hl, hcl, hok, h => by
  simp only [Azn, Bool.and_eq_true, beq_iff_eq] at hok
  obtain ⟨⟨⟨hr, hok1⟩, hok2⟩, hok3⟩ := hok
  refine ⟨fun h0 => (by rw [hr] at h0; cases h0), fun x hk => ?_⟩
  have hkk : x = i ∨ x = j ∨ x = k := by rw [hr] at hk; simpa using hk
  rcases hkk with rfl | rfl | rfl
  ·exact Axq (fun a' H' h' => ⟨h'.1, Aze hsel hQ p fuel _ _ _ (by simp [PW.depth] at hl; omega) (hcl.set hk) hok1 h'.2⟩) h.1
  ·exact Axq (fun a' H' h' => ⟨h'.1, Aze hsel hQ q fuel _ _ _ (by simp [PW.depth] at hl; omega) (hcl.set hk) hok2 h'.2⟩) h.2.1
  ·exact Axq (fun a' H' h' => ⟨h'.1, Aze hsel hQ r fuel _ _ _ (by simp [PW.depth] at hl; omega) (hcl.set hk) hok3 h'.2⟩) h.2.2
theorem Bwk {id : Nat} {a : Act} {H : Hp} (S : Hp -> Prop) (ts : List Nat) (plan : PW) (hm : P.follows .mixedOrders = true) (hsel : Region.noSelect ops = true) (hlen : plan.depth <= ops.size)
  (hok : Azn ops ts plan (Array.replicate ops.size false) = true)
  (hQ : ∀ c a H d v, Q (.panic c) (a.put d v) H -> Q (.panic c) a H) (h : Ajf P main lp ops Q S ts plan a H) : wpX P main lp (.region id ops true) Q a H :=
 Bkq (fun _ => True) hm (Avn _ _ _ _ (Aze hsel hQ plan _ _ _ _ hlen .start hok h))
theorem wpX_wlast {id : Nat} {ops : Array Oper} {a : Act} {H : Hp} (S : Hp -> Prop) (ts : List Nat) (plan : PW) (hm : P.follows .mixedOrders = true) (hsel : Region.noSelect ops = true) (hlen : plan.depth <= ops.size)
  (hok : Azn ops ts plan (Array.replicate ops.size false) = true)
  (h : ∀ K : Act -> Hp -> Prop, (∀ a' H', Q .normal a' H' -> K a' H') -> Ajf P main lp ops (only K) S ts plan a H) :
  wpX P main lp (.region id ops true) Q a H := by
 refine Az1 (Q := only fun a' H' => Q .normal a' H') (Bwk S ts plan hm hsel hlen hok (fun c a H d v h => h) (h _ fun _ _ h => h)) fun e a H q => ?_
 cases e <;> first | exact q | exact q.elim
theorem Cv5 {id : Nat} {ops : Array Oper} {y : Code} {a : Act} {H : Hp} (S : Hp -> Prop) (ts : List Nat) (plan : PW) (hm : P.follows .mixedOrders = true) (hsel : Region.noSelect ops = true) (hlen : plan.depth <= ops.size)
  (hok : Azn ops ts plan (Array.replicate ops.size false) = true)
  (h : ∀ K : Act -> Hp -> Prop, (∀ a' H', wpX P main lp y Q a' H' -> K a' H') -> Ajf P main lp ops (only K) S ts plan a H) :
  wpX P main lp (.seq (.region id ops true) y) Q a H := by
 refine Axy ?_
 refine Az1 (Q := only fun a' H' => wpX P main lp y Q a' H') (Bwk S ts plan hm hsel hlen hok (fun c a H d v h => h) (h _ fun _ _ h => h)) fun e a H q => ?_
 cases e <;> first | exact q | exact q.elim
theorem Bjb {S : Hp -> Prop} {ts : List Nat} {a : Act} {H : Hp} {i : Nat} {ops : List Oper} {o : Oper} {p : PW} {v : Value} (ho : ops[i]? = some o) (hw : Region.wanted o (yielded ops.toArray a.tmps) = true) (hf : fine lp o = true)
  (hS : S H) (h : ∀ H', S H' -> wpS P (execOp a.eval o) H' (YN P main v H') fun _ _ => False) (hk : Ajf P main lp ops.toArray Q S ts p (a.put o.dst v) H) : Ajf P main lp ops.toArray Q S ts (.take i p) a H :=
 ⟨hS, o, by simpa using ho, v, .inl ⟨hw, hf, h⟩, hk⟩
theorem Axr {S : Hp -> Prop} {ts : List Nat} {a : Act} {H : Hp} {i : Nat} {ops : Array Oper} {p : PW} (h : numX P main lp ops i Q (fun a' H' => (i ∈ ts ∨ (S H -> S H')) /\ Ajf P main lp ops Q S ts p a' H') a H) : Ajf P main lp ops Q S ts (.one i p) a H := h
theorem Ak2 {S : Hp -> Prop} {ts : List Nat} {a : Act} {H : Hp} {ops : Array Oper} (h : Q .normal a H) : Ajf P main lp ops Q S ts .nil a H := h
@[congr] theorem planW_congr {S : Hp -> Prop} {ts : List Nat} {ops : Array Oper} {p : PW} {a a' : Act} {H H' : Hp} (ha : a = a') (hH : H = H') : Ajf P main lp ops Q S ts p a H = Ajf P main lp ops Q S ts p a' H' := by subst ha hH; rfl
theorem planW_free {S : Hp -> Prop} {ts : List Nat} {a : Act} {H : Hp} {i : Nat} {ops : List Oper} {o : Oper} {p : PW} {v : Value} (ho : ops[i]? = some o) (hw : Region.wanted o (yielded ops.toArray a.tmps) = true) (hf : fine lp o = true)
  (h : ∀ H' : Hp, wpS P (execOp a.eval o) H' (YN P main v H') fun _ _ => False) (hk : Ajf P main lp ops.toArray Q S ts p (a.put o.dst v) H) : Ajf P main lp ops.toArray Q S ts (.free i p) a H :=
 ⟨o, by simpa using ho, v, .inl ⟨hw, hf, fun H' _ => h H'⟩, hk⟩
theorem Bxx {S : Hp -> Prop} {ts : List Nat} {a : Act} {H : Hp} {i j : Nat} {ops : Array Oper} {p q : PW} (h : numX P main lp ops i Q (fun a' H' => (i ∈ ts ∨ (S H -> S H')) /\ Ajf P main lp ops Q S ts p a' H') a H)
 (h' : numX P main lp ops j Q (fun a' H' => (j ∈ ts ∨ (S H -> S H')) /\ Ajf P main lp ops Q S ts q a' H') a H) : Ajf P main lp ops Q S ts (.two i p j q) a H := ⟨h, h'⟩
theorem Byw {S : Hp -> Prop} {ts : List Nat} {a : Act} {H : Hp} {i j k : Nat} {ops : Array Oper} {p q r : PW} (h1 : numX P main lp ops i Q (fun a' H' => (i ∈ ts ∨ (S H -> S H')) /\ Ajf P main lp ops Q S ts p a' H') a H) (h2 : numX P main lp ops j Q (fun a' H' => (j ∈ ts ∨ (S H -> S H')) /\ Ajf P main lp ops Q S ts q a' H') a H) (h3 : numX P main lp ops k Q (fun a' H' => (k ∈ ts ∨ (S H -> S H')) /\ Ajf P main lp ops Q S ts r a' H') a H) : Ajf P main lp ops Q S ts (.three i p j q k r) a H := ⟨h1, h2, h3⟩
end
end Go.X
end
