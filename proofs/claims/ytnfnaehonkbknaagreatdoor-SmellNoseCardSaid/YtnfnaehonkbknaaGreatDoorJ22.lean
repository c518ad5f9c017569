/- Texts SmE SmEv PlanZ SmKp SmCo SmTr SmTs SmKd. -/
import Derived.Test.YtnfnaehonkbknaaGreatDoorJ21
set_option linter.defProp false
set_option linter.unusedSimpArgs false
set_option linter.unusedVariables false
set_option maxRecDepth 100000
set_option maxHeartbeats 2000000
section
namespace Go.Proofs.YtnfnaehonkbknaaGreatDoor
open Go Go.X
def Bv4 := And.intro (fun H => Aqv (H := H) (P := Tryz.prog) (h := Tryz.zeroValue46)) (And.intro @Bjs (fun H => Aqr (H := H) Tryz.sizeOf46))
def Bv5 := And.intro (fun H => Aqv (H := H) (P := Tryz.prog) (h := Tryz.zeroValue34)) (And.intro @Ajj (fun H => Aqr (H := H) Tryz.sizeOf34))
def Azl := And.intro (fun H => Aqv (H := H) (P := Tryz.prog) (h := Tryz.zeroValue26)) (And.intro @Dz5 (And.intro @Bjw (And.intro @Ck9 (And.intro @Bxx (fun H => Aqr (H := H) Tryz.sizeOf26)))))
def Bv6 := And.intro (fun H => Aqv (H := H) (P := Tryz.prog) (h := Tryz.zeroValue66)) (And.intro @Ajj (And.intro @Ayh (fun H => Aqr (H := H) Tryz.sizeOf66)))
def Aju := And.intro (fun H => Aqv (H := H) (P := Tryz.prog) (h := Tryz.zeroValue26)) (And.intro @Cva (And.intro (fun H => Aqr (H := H) Tryz.sizeOf26) (And.intro @Ck9 (And.intro (fun H => Aqd (H := H) Tryz.underlying26 (i := 3) rfl (off := 3) rfl Tryz.sizeOf24) (And.intro (fun H => Azu (H := H) Tryz.sizeOf24) (fun H => Aqp (H := H) Tryz.underlying26 rfl Tryz.sizeOf26))))))
theorem Bxd (m : Md) (H : Hp) (a b x y : Int) :
  FnX Tryz.prog m 30 #[.int .i64 a, .int .i64 b, .int .i64 x, .int .i64 y] H fun e H' => e = .returned (.agg #[.int .i64 a, .int .i64 b, .int .i64 x, .int .i64 y]) /\ H.le H' := by
 refine Aqo Tryz.func30 rfl Tryz.ntmps30 (by simp) ?_
 (refine @unH _ (zA Bv6 ?_); (repeat refine inC fun hc => ?_); try refine inK fun K hK => ?_)
 (intro rb hrb; generalize hG : Hp.set _ rb _ = H1; have lH1 := Aqc hG hrb; have vrb := Aqb hG; clear hG)
 ((try refine @unH _ (zX Bv6 ?_)); (try (refine hK _ _ ?_; clear hK K; try refine @unH _ (zQ ?_))); refine @unH _ (zA Bv6 ?_); (repeat refine inC fun hc => ?_); try refine inK fun K hK => ?_)
 (refine Axr ?_; (try simp only [nq, ↓reduceIte, Nat.reduceEqDiff]); rw [Aq6, Ax6 Tryz.results30 (by decide) (b := rb) (o := 0) rfl Tryz.underlying66 rfl Tryz.sizeOf66]; simp -implicitDefEqProofs (disch := first | omega | (simp only [qd] <;> omega)) only [xq, ↓xp, qc, Nat.reduceAdd, List.range, List.range.loop, fine, Nat.reduceEqDiff, ↓reduceIte, yielded, reduceCtorEq, Nat.reduceLT, Nat.reduceMul, Nat.reduceSub, one, Nat.reduceLeDiff, Aqj, Bv6, Axl, List.extract_toArray])
 exact Az9 lH1 hrb
theorem Aw8 (m : Md) (H : Hp) (p h : Int) (s : Bool) :
  FnX Tryz.prog m 14 #[.int .i64 p, .int .i64 h, .bool s] H fun e H' => e = .returned (.agg #[.int .i64 p, .int .i64 h, .bool s]) /\ H.le H' := by
 refine Aqo Tryz.func14 rfl Tryz.ntmps14 (by simp) ?_
 (refine @unH _ (zA Bv4 ?_); (repeat refine inC fun hc => ?_); try refine inK fun K hK => ?_)
 (intro rb hrb; generalize hG : Hp.set _ rb _ = H1; have lH1 := Aqc hG hrb; have vrb := Aqb hG; clear hG)
 ((try refine @unH _ (zX Bv4 ?_)); (try (refine hK _ _ ?_; clear hK K; try refine @unH _ (zQ ?_))); refine @unH _ (zA Bv4 ?_); (repeat refine inC fun hc => ?_); try refine inK fun K hK => ?_)
 (refine Axr ?_; (try simp only [nq, ↓reduceIte, Nat.reduceEqDiff]); rw [Aq6, Ax6 Tryz.results14 (by decide) (b := rb) (o := 0) rfl Tryz.underlying46 rfl Tryz.sizeOf46]; simp -implicitDefEqProofs (disch := first | omega | (simp only [qd] <;> omega)) only [xq, ↓xp, qc, Nat.reduceAdd, List.range, List.range.loop, fine, Nat.reduceEqDiff, ↓reduceIte, yielded, reduceCtorEq, Nat.reduceLT, Nat.reduceMul, Nat.reduceSub, one, Nat.reduceLeDiff, Aqj, Bv4, Axl, List.extract_toArray])
 exact Az9 lH1 hrb
theorem Bxc (m : Md) (H : Hp) (a b : Int) :
  FnX Tryz.prog m 24 #[.int .i64 a, .int .i64 b] H fun e H' => e = .returned (.agg #[.int .i64 a, .int .i64 b]) /\ H.le H' := by
 refine Aqo Tryz.func24 rfl Tryz.ntmps24 (by simp) ?_
 (refine @unH _ (zA Bv5 ?_); (repeat refine inC fun hc => ?_); try refine inK fun K hK => ?_)
 (intro rb hrb; generalize hG : Hp.set _ rb _ = H1; have lH1 := Aqc hG hrb; have vrb := Aqb hG; clear hG)
 ((try refine @unH _ (zX Bv5 ?_)); (try (refine hK _ _ ?_; clear hK K; try refine @unH _ (zQ ?_))); refine @unH _ (zA Bv5 ?_); (repeat refine inC fun hc => ?_); try refine inK fun K hK => ?_)
 (refine Axr ?_; (try simp only [nq, ↓reduceIte, Nat.reduceEqDiff]); rw [Aq6, Ax6 Tryz.results24 (by decide) (b := rb) (o := 0) rfl Tryz.underlying34 rfl Tryz.sizeOf34]; simp -implicitDefEqProofs (disch := first | omega | (simp only [qd] <;> omega)) only [xq, ↓xp, qc, Nat.reduceAdd, List.range, List.range.loop, fine, Nat.reduceEqDiff, ↓reduceIte, yielded, reduceCtorEq, Nat.reduceLT, Nat.reduceMul, Nat.reduceSub, one, Nat.reduceLeDiff, Aqj, Bv5, Axl, List.extract_toArray])
 exact Az9 lH1 hrb
theorem Dvn (a b c d a' b' c' d' a2 b2 c2 d2 : Int) : Instr.fill (fun i => some (i * 4, 4)) ((Array.range (3 * 4)).map fun x => (Value.agg #[.int .i64 0, .int .i64 0, .int .i64 0, .int .i64 0]).cells[x % (Value.agg #[.int .i64 0, .int .i64 0, .int .i64 0, .int .i64 0]).cells.size]!) [(0, .agg #[.int .i64 a, .int .i64 b, .int .i64 c, .int .i64 d]), (1, .agg #[.int .i64 a', .int .i64 b', .int .i64 c', .int .i64 d']), (2, .agg #[.int .i64 a2, .int .i64 b2, .int .i64 c2, .int .i64 d2])] = some #[.int .i64 a, .int .i64 b, .int .i64 c, .int .i64 d, .int .i64 a', .int .i64 b', .int .i64 c', .int .i64 d', .int .i64 a2, .int .i64 b2, .int .i64 c2, .int .i64 d2] := by
 kernel_rfl
theorem Dvo (a b a' b' : Int) (c c' : Bool) : Instr.fill (fun i => some (i * 3, 3)) ((Array.range (2 * 3)).map fun x => (Value.agg #[.int .i64 0, .int .i64 0, .bool false]).cells[x % (Value.agg #[.int .i64 0, .int .i64 0, .bool false]).cells.size]!) [(0, .agg #[.int .i64 a, .int .i64 b, .bool c]), (1, .agg #[.int .i64 a', .int .i64 b', .bool c'])] = some #[.int .i64 a, .int .i64 b, .bool c, .int .i64 a', .int .i64 b', .bool c'] := by
 kernel_rfl
theorem Ck6 {H : Hp} (a b c d a' b' c' d' a2 b2 c2 d2 : Int) (K : Value -> Hp -> Prop) (E : Value -> Hp -> Prop) :
  wpS Tryz.prog (Instr.buildSlice 23 3 #[(0, .agg #[.int .i64 a, .int .i64 b, .int .i64 c, .int .i64 d]), (1, .agg #[.int .i64 a', .int .i64 b', .int .i64 c', .int .i64 d']), (2, .agg #[.int .i64 a2, .int .i64 b2, .int .i64 c2, .int .i64 d2])]) H K E = ∀ nb, H nb = none -> K (.slice (some ⟨nb, 0, none⟩) 3 3) (H.set nb (.cells #[.int .i64 a, .int .i64 b, .int .i64 c, .int .i64 d, .int .i64 a', .int .i64 b', .int .i64 c', .int .i64 d', .int .i64 a2, .int .i64 b2, .int .i64 c2, .int .i64 d2] 66 (0, 0))) := by
 unfold Instr.buildSlice
 have hn1 : ¬ 3 * 4 > 2 ^ 24 := by decide
 have hn2 : ¬ 3 * 4 = 0 := by decide
 simp only [Aqa, Aqh Tryz.underlying23, Aq0 Tryz.sizeOf66, hn1, hn2, if_false, Axe Tryz.zeroValue66, Aqe]
 rw [Dvn]
 simp only [newRow, newObj, Aqa, wpS, Aqe]
theorem Bk6 {H : Hp} (a b a' b' : Int) (c c' : Bool) (K : Value -> Hp -> Prop) (E : Value -> Hp -> Prop) :
  wpS Tryz.prog (Instr.buildSlice 24 2 #[(0, .agg #[.int .i64 a, .int .i64 b, .bool c]), (1, .agg #[.int .i64 a', .int .i64 b', .bool c'])]) H K E = ∀ nb, H nb = none -> K (.slice (some ⟨nb, 0, none⟩) 2 2) (H.set nb (.cells #[.int .i64 a, .int .i64 b, .bool c, .int .i64 a', .int .i64 b', .bool c'] 46 (0, 0))) := by
 unfold Instr.buildSlice
 have hn1 : ¬ 2 * 3 > 2 ^ 24 := by decide
 have hn2 : ¬ 2 * 3 = 0 := by decide
 simp only [Aqa, Aqh Tryz.underlying24, Aq0 Tryz.sizeOf46, hn1, hn2, if_false, Axe Tryz.zeroValue46, Aqe]
 rw [Dvo]
 simp only [newRow, newObj, Aqa, wpS, Aqe]
def Ajw : Sm := ⟨4, [⟨0, 1, 2, 3⟩, ⟨1, 2, 1, 1⟩, ⟨0, 3, 1, 2⟩], [0, 2], [⟨1, 4, true⟩, ⟨3, 3, false⟩]⟩
def oddS : Sm := ⟨4, [⟨0, 1, 2, 3⟩, ⟨1, 2, 1, 1⟩, ⟨0, 3, 1, 2⟩], [0, 2], [⟨2, 0, true⟩, ⟨2, 1, false⟩]⟩
theorem Bzt : ∀ d ∈ Ajw.doors, DrOk 4 d := fun d hd => by
 simp only [Ajw, List.mem_cons, List.not_mem_nil, or_false] at hd
 rcases hd with rfl | rfl | rfl <;> exact ⟨by decide, by decide, by decide, by decide, by decide, by decide, by decide, by decide⟩
theorem Avt : SmOk Ajw := ⟨by decide, by decide, by decide, Bzt, by decide, by decide, by decide, by decide, by decide, fun n hn => by
 simp only [Ajw, List.mem_cons, List.not_mem_nil, or_false] at hn
 rcases hn with rfl | rfl <;> exact ⟨by decide, by decide, by decide, by decide⟩⟩
theorem Dkh : SmOk oddS := ⟨by decide, by decide, by decide, Bzt, by decide, by decide, by decide, by decide, by decide, fun n hn => by
 simp only [oddS, List.mem_cons, List.not_mem_nil, or_false] at hn
 rcases hn with rfl | rfl <;> exact ⟨by decide, by decide, by decide, by decide⟩⟩
theorem Aj7 (m : Md) (H : Hp) :
  FnX Tryz.prog m 29 #[] H fun e H' => ∃ dv hv nv, e = .returned (smV 4 dv hv nv) /\ SmIn H' dv hv nv Ajw /\ H.le H' := by
 refine Aqo Tryz.func29 rfl Tryz.ntmps29 (by simp) ?_
 (refine @unH _ (zA Azl ?_); (repeat refine inC fun hc => ?_); try refine inK fun K hK => ?_)
 (intro rb hrb; generalize hG : Hp.set _ rb _ = H1; have lH1 := Aqc hG hrb; have vrb := Aqb hG; clear hG)
 ((try refine @unH _ (zX Azl ?_)); (try (refine hK _ _ ?_; clear hK K; try refine @unH _ (zQ ?_))); refine @unH _ (zA Azl ?_); (repeat refine inC fun hc => ?_); try refine inK fun K hK => ?_)
 refine (Bxd m H1 0 1 2 3).runs.mono ?_
 rintro _ H2 ⟨rfl, l12⟩
 have l02 := Hp.le_trans lH1 l12
 have vr2 := l12 _ _ vrb
 clear l12
 ((try refine @unH _ (zX Azl ?_)); (try (refine hK _ _ ?_; clear hK K; try refine @unH _ (zQ ?_))); refine @unH _ (zA Azl ?_); (repeat refine inC fun hc => ?_); try refine inK fun K hK => ?_)
 refine (Bxd m H2 1 2 1 1).runs.mono ?_
 rintro _ H3 ⟨rfl, l23⟩
 have l03 := Hp.le_trans l02 l23
 have vr3 := l23 _ _ vr2
 clear l23 l02 vr2 vrb
 ((try refine @unH _ (zX Azl ?_)); (try (refine hK _ _ ?_; clear hK K; try refine @unH _ (zQ ?_))); refine @unH _ (zA Azl ?_); (repeat refine inC fun hc => ?_); try refine inK fun K hK => ?_)
 refine (Bxd m H3 0 3 1 2).runs.mono ?_
 rintro _ H4 ⟨rfl, l34⟩
 have l04 := Hp.le_trans l03 l34
 have vr4 := l34 _ _ vr3
 clear l34 l03 vr3
 ((try refine @unH _ (zX (And.intro Azl @Ck6) ?_)); (try (refine hK _ _ ?_; clear hK K; try refine @unH _ (zQ ?_))); refine @unH _ (zA (And.intro Azl @Ck6) ?_); (repeat refine inC fun hc => ?_); try refine inK fun K hK => ?_)
 (intro db hdb ib hib; replace hib : (Hp.set _ db _) ib = none := hib; generalize hG : Hp.set _ db _ = H5 at hib ⊢; have lH5 := Aqc hG hdb; have wdb := Aqb hG; clear hG; generalize hG : Hp.set _ ib _ = H6; have lH6 := Aqc hG hib; have vib := Aqb hG; have vdb := lH6 _ _ wdb; have ndbib := Aqq wdb hib; clear hG wdb)
 have l06 := Hp.le_trans l04 (Hp.le_trans lH5 lH6)
 have vr6 := lH6 _ _ (lH5 _ _ vr4)
 clear l04 vr4 hdb hib lH5 lH6
 ((try refine @unH _ (zX Azl ?_)); (try (refine hK _ _ ?_; clear hK K; try refine @unH _ (zQ ?_))); refine @unH _ (zA Azl ?_); (repeat refine inC fun hc => ?_); try refine inK fun K hK => ?_)
 refine (Aw8 m H6 1 4 true).runs.mono ?_
 rintro _ H7 ⟨rfl, l67⟩
 have l07 := Hp.le_trans l06 l67
 have vr7 := l67 _ _ vr6
 have vd7 := l67 _ _ vdb
 have vi7 := l67 _ _ vib
 clear l06 l67 vr6 vdb vib
 ((try refine @unH _ (zX Azl ?_)); (try (refine hK _ _ ?_; clear hK K; try refine @unH _ (zQ ?_))); refine @unH _ (zA Azl ?_); (repeat refine inC fun hc => ?_); try refine inK fun K hK => ?_)
 refine (Aw8 m H7 3 3 false).runs.mono ?_
 rintro _ H8 ⟨rfl, l78⟩
 have l08 := Hp.le_trans l07 l78
 have vr8 := l78 _ _ vr7
 have vd8 := l78 _ _ vd7
 have vi8 := l78 _ _ vi7
 clear l07 l78 vr7 vd7 vi7
 ((try refine @unH _ (zX (And.intro Azl @Bk6) ?_)); (try (refine hK _ _ ?_; clear hK K; try refine @unH _ (zQ ?_))); refine @unH _ (zA (And.intro Azl @Bk6) ?_); (repeat refine inC fun hc => ?_); try refine inK fun K hK => ?_)
 intro nb hnb
 have nrn := Aqq vr8 hnb
 ((try refine @unH _ (zX Azl ?_)); (try (refine hK _ _ ?_; clear hK K; try refine @unH _ (zQ ?_))); refine @unH _ (zA Azl ?_); (repeat refine inC fun hc => ?_); try refine inK fun K hK => ?_)
 generalize hG : Hp.set H8 nb _ = H9
 have l89 := Aqc hG hnb
 have vn9 := Aqb hG
 have vr9 := l89 _ _ vr8
 have vd9 := l89 _ _ vd8
 have vi9 := l89 _ _ vi8
 have l09 := Hp.le_trans l08 l89
 clear hG l89 hnb l08 vr8 vd8 vi8
 have nrd : db ≠ rb := fun e => by rw [e, vr9] at vd9; simp at vd9
 have nri : ib ≠ rb := fun e => by rw [e, vr9] at vi9; simp at vi9
 ((try refine @unH _ (zX Azl ?_)); (try (refine hK _ _ ?_; clear hK K; try refine @unH _ (zQ ?_))); refine @unH _ (zA Azl ?_); (repeat refine inC fun hc => ?_); try refine inK fun K hK => ?_)
 (refine Axr ?_; (try simp only [nq, ↓reduceIte, Nat.reduceEqDiff]); rw [Aq6, Ax6 Tryz.results29 (by decide) (b := rb) (o := 0) rfl Tryz.underlying26 rfl Tryz.sizeOf26]; simp -implicitDefEqProofs (disch := first | omega | (simp only [qd] <;> omega)) only [xq, ↓xp, qc, Nat.reduceAdd, List.range, List.range.loop, fine, Nat.reduceEqDiff, ↓reduceIte, yielded, reduceCtorEq, Nat.reduceLT, Nat.reduceMul, Nat.reduceSub, one, Nat.reduceLeDiff, Aqj, Azl, Axl, List.extract_toArray])
 have hD : SlD H9 (.slice (some ⟨db, 0, none⟩) 3 3) Ajw.doors := SlG.of (by decide) (rows := Ajw.doors.map Bju) (N := 3) vd9 (fun r hr => by
  obtain ⟨d, _, rfl⟩ := List.mem_map.1 hr
  rfl) (fun j u h => by simp only [List.getElem?_toArray]; exact h) (by decide)
 have hN : SlN H9 (.slice (some ⟨nb, 0, none⟩) 2 2) Ajw.noses := SlG.of (by decide) (rows := Ajw.noses.map Bjy) (N := 2) vn9 (fun r hr => by
  obtain ⟨d, _, rfl⟩ := List.mem_map.1 hr
  rfl) (fun j u h => by simp only [List.getElem?_toArray]; exact h) (by decide)
 have hI : SlI H9 (.slice (some ⟨ib, 0, none⟩) 2 2) Ajw.hampers := ⟨_, 2, rfl, Nat.le_refl _, fun i x hx => ⟨ib, 0, true, _, _, rfl, vi9, by
  rcases i with _ | _ | i
  ·simp only [Ajw, List.getElem?_cons_zero, Option.some.injEq] at hx; subst hx; rfl
  ·simp only [Ajw, List.getElem?_cons_succ, List.getElem?_cons_zero, Option.some.injEq] at hx; subst hx; rfl
  ·simp [Ajw] at hx⟩⟩
 refine ⟨_, _, _, rfl, ⟨hD.move fun x p c fr hx => ⟨p, ?_⟩, hI.move fun x p c fr hx => ?_, hN.move fun x p c fr hx => ⟨p, ?_⟩⟩, Az9 l09 hrb⟩
 ·rw [Aqw (fun e => by rw [e, vr9] at hx; simp at hx)]; exact hx
 ·rw [Aqw (fun e => by rw [e, vr9] at hx; simp at hx)]; exact hx
 ·rw [Aqw (fun e => by rw [e, vr9] at hx; simp at hx)]; exact hx
theorem Dxi (m : Md) (H : Hp) :
  FnX Tryz.prog m 33 #[] H fun e H' => ∃ dv hv nv, e = .returned (smV 4 dv hv nv) /\ SmIn H' dv hv nv oddS /\ H.le H' := by
 refine Aqo Tryz.func33 rfl Tryz.ntmps33 (by simp) ?_
 (refine @unH _ (zA Aju ?_); (repeat refine inC fun hc => ?_); try refine inK fun K hK => ?_)
 (intro rb hrb; generalize hG : Hp.set _ rb _ = H1; have lH1 := Aqc hG hrb; have vrb := Aqb hG; clear hG)
 ((try refine @unH _ (zX Aju ?_)); (try (refine hK _ _ ?_; clear hK K; try refine @unH _ (zQ ?_))); refine @unH _ (zA Aju ?_); (repeat refine inC fun hc => ?_); try refine inK fun K hK => ?_)
 refine (Aj7 m H1).runs.mono ?_
 rintro _ H2 ⟨dv, hv, nv, rfl, hs2, l12⟩
 obtain ⟨da, dc, ha, kc, na, nc, rfl, rfl, rfl, l1, l2, l3⟩ := hs2.forms
 have l02 := Hp.le_trans lH1 l12
 have vr2 := l12 _ _ vrb
 clear l12
 ((try refine @unH _ (zX Aju ?_)); (try (refine hK _ _ ?_; clear hK K; try refine @unH _ (zQ ?_))); refine @unH _ (zA Aju ?_); (repeat refine inC fun hc => ?_); try refine inK fun K hK => ?_)
 (intro ob hob; generalize hG : Hp.set _ ob _ = H3; have lH3 := Aqc hG hob; have vob := Aqb hG; clear hG)
 have nro := Aqq vr2 hob
 have hs3 := hs2.le lH3
 have l03 := Hp.le_trans l02 lH3
 have f0o := Hp.le_none l02 hob
 have vr3 := lH3 _ _ vr2
 clear l02 lH3 vr2 hs2 hob vrb lH1
 ((try refine @unH _ (zX Aju ?_)); (try (refine hK _ _ ?_; clear hK K; try refine @unH _ (zQ ?_))); refine @unH _ (zA Aju ?_); (repeat refine inC fun hc => ?_); try refine inK fun K hK => ?_)
 refine (Aw8 m H3 2 0 true).runs.mono ?_
 rintro _ H4 ⟨rfl, l34⟩
 have l04 := Hp.le_trans l03 l34
 have vr4 := l34 _ _ vr3
 have vo4 := l34 _ _ vob
 have hs4 := hs3.le l34
 clear l03 l34 vr3 vob hs3
 ((try refine @unH _ (zX Aju ?_)); (try (refine hK _ _ ?_; clear hK K; try refine @unH _ (zQ ?_))); refine @unH _ (zA Aju ?_); (repeat refine inC fun hc => ?_); try refine inK fun K hK => ?_)
 refine (Aw8 m H4 2 1 false).runs.mono ?_
 rintro _ H5 ⟨rfl, l45⟩
 have l05 := Hp.le_trans l04 l45
 have vr5 := l45 _ _ vr4
 have vo5 := l45 _ _ vo4
 have hs5 := hs4.le l45
 clear l04 l45 vr4 vo4 hs4
 ((try refine @unH _ (zX (And.intro Aju @Bk6) ?_)); (try (refine hK _ _ ?_; clear hK K; try refine @unH _ (zQ ?_))); refine @unH _ (zA (And.intro Aju @Bk6) ?_); (repeat refine inC fun hc => ?_); try refine inK fun K hK => ?_)
 intro nb hnb
 have nrn := Aqq vr5 hnb
 have non := Aqq vo5 hnb
 ((try refine @unH _ (zX Aju ?_)); (try (refine hK _ _ ?_; clear hK K; try refine @unH _ (zQ ?_))); refine @unH _ (zA Aju ?_); (repeat refine inC fun hc => ?_); try refine inK fun K hK => ?_)
 generalize hG : Hp.set H5 nb _ = H6
 have l56 := Aqc hG hnb
 have vn6 := Aqb hG
 have vr6 := l56 _ _ vr5
 have vo6 := l56 _ _ vo5
 have hs6 := hs5.le l56
 have l06 := Hp.le_trans l05 l56
 clear hG l56 hnb l05 vr5 vo5 hs5
 (refine Axr ?_; (try simp only [nq, ↓reduceIte, Nat.reduceEqDiff]); rw [Aq6, Ax6 Tryz.results33 (by decide) (b := rb) (o := 0) rfl Tryz.underlying26 rfl Tryz.sizeOf26]; simp -implicitDefEqProofs (disch := first | omega | (simp only [qd] <;> omega)) only [xq, ↓xp, qc, Nat.reduceAdd, List.range, List.range.loop, fine, Nat.reduceEqDiff, ↓reduceIte, yielded, reduceCtorEq, Nat.reduceLT, Nat.reduceMul, Nat.reduceSub, one, Nat.reduceLeDiff, Aqj, Aju, Axl, List.extract_toArray])
 have hN : SlN H6 (.slice (some ⟨nb, 0, none⟩) 2 2) oddS.noses := SlG.of (by decide) (rows := oddS.noses.map Bjy) (N := 2) vn6 (fun r hr => by
  obtain ⟨d, _, rfl⟩ := List.mem_map.1 hr
  rfl) (fun j u h => by simp only [List.getElem?_toArray]; exact h) (by decide)
 refine ⟨_, _, _, rfl, ⟨hs6.dd.move fun x p c fr hx => ⟨p, ?_⟩, hs6.hh.move fun x p c fr hx => ?_, hN.move fun x p c fr hx => ⟨p, ?_⟩⟩, Az9 (Az9 l06 f0o) hrb⟩
 ·rw [Aqw (fun e => by rw [e, vr6] at hx; simp at hx), Aqw (fun e => by rw [e, vo6] at hx; simp at hx)]; exact hx
 ·rw [Aqw (fun e => by rw [e, vr6] at hx; simp at hx), Aqw (fun e => by rw [e, vo6] at hx; simp at hx)]; exact hx
 ·rw [Aqw (fun e => by rw [e, vr6] at hx; simp at hx), Aqw (fun e => by rw [e, vo6] at hx; simp at hx)]; exact hx
theorem Dqg : reaE Ajw 2 3 = (4, 6, 0) := by kernel_rfl
theorem Dqe : Azi Ajw = 5 := by kernel_rfl
theorem Dqh : sinE Ajw 1 = (0, 3, 0) := by kernel_rfl
theorem Dvg : begE Ajw [0] 3 = 0 := by kernel_rfl
theorem Dj3 : Cyi Ajw 0 3 = 3 := by kernel_rfl
theorem Dqd : comE Ajw 3 = (4, 9, 0) := by kernel_rfl
theorem Dqj : wroF oddS = [0] := by kernel_rfl
theorem Dqi : snE Ajw 2 = (1, 3, 0) := by kernel_rfl
theorem Dqf : fstE Ajw = (0, 2, [2, 1, 2], 0) := by kernel_rfl
end Go.Proofs.YtnfnaehonkbknaaGreatDoor
end
section
namespace Go.X
open Go
section
variable {P : Program} {main : Md} {lp : Option Nat} {Q : Exit -> Act -> Hp -> Prop} {S : Hp -> Prop} {ts : List Nat} {p : PV} {a : Act} {H : Hp} {l ops : List Oper} {i : Nat}
 {d : Option Tmp} {op : Op} {ty : TypeId} {pos : String} {af : Array Edge} {v : Value} {j : Nat} {b : Bool} {t : Tmp}
structure Ay9 (l ops : List Oper) : Prop where
 nth : ∀ i : Nat, ops[i]? = l[i]?
theorem Ax8 (h : ∀ ops, Ay9 l ops -> Azr P main lp ops.toArray Q S ts p a H) : Azr P main lp l.toArray Q S ts p a H := h l ⟨fun _ => rfl⟩
theorem Ay9.guard (hO : Ay9 l ops) {o oj : Oper} (hg : o.guard = some (j, b)) (hj : l[j]? = some oj) (hd : oj.dst = some t) (hv : a.tmps[t]? = some (.bool b)) : Region.wanted o (yielded ops.toArray a.tmps) = true := by
 unfold Region.wanted
 rw [hg]
 simp only [Bxw, hO.nth, hj, Option.bind_some, hd, hv, Bv9, beq_self_eq_true]
theorem Cj7 (hO : Ay9 l ops) (ho : l[i]? = some ⟨d, op, ty, pos, af, none⟩) (hf : fine lp ⟨d, op, ty, pos, af, none⟩ = true)
  (h : ∀ H' : Hp, wpS P (execOp a.eval ⟨d, op, ty, pos, af, none⟩) H' (YN P main v H') fun _ _ => False) (hk : Azr P main lp ops.toArray Q S ts p (a.put d v) H) : Azr P main lp ops.toArray Q S ts (.free i p) a H :=
 Bxb ((hO.nth i).trans ho) rfl hf h hk
theorem Cq4 {oj : Oper} (hO : Ay9 l ops) (ho : l[i]? = some ⟨d, op, ty, pos, af, some (j, b)⟩) (hf : fine lp ⟨d, op, ty, pos, af, some (j, b)⟩ = true) (hj : l[j]? = some oj) (hd : oj.dst = some t) (hv : a.tmps[t]? = some (.bool b))
  (h : ∀ H' : Hp, wpS P (execOp a.eval ⟨d, op, ty, pos, af, some (j, b)⟩) H' (YN P main v H') fun _ _ => False) (hk : Azr P main lp ops.toArray Q S ts p (a.put d v) H) : Azr P main lp ops.toArray Q S ts (.free i p) a H :=
 Bxb ((hO.nth i).trans ho) (hO.guard rfl hj hd hv) hf h hk
theorem Ayx {oj : Oper} (hO : Ay9 l ops) (ho : l[i]? = some ⟨d, op, ty, pos, af, some (j, b)⟩) (hf : fine lp ⟨d, op, ty, pos, af, some (j, b)⟩ = true) (hj : l[j]? = some oj) (hd : oj.dst = some t) (hv : a.tmps[t]? = some (.bool b))
  (hS : S H) (h : ∀ H' : Hp, S H' -> wpS P (execOp a.eval ⟨d, op, ty, pos, af, some (j, b)⟩) H' (YN P main v H') fun _ _ => False) (hk : Azr P main lp ops.toArray Q S ts p (a.put d v) H) : Azr P main lp ops.toArray Q S ts (.take i p) a H :=
 Axd ((hO.nth i).trans ho) (hO.guard rfl hj hd hv) hf hS h hk
theorem Cj8 {oj : Oper} (hO : Ay9 l ops) (ho : l[i]? = some ⟨d, op, ty, pos, af, some (j, b)⟩) (hf : fine lp ⟨d, op, ty, pos, af, some (j, b)⟩ = true) (hj : l[j]? = some oj) (hd : oj.dst = some t) (hv : a.tmps[t]? = some (.bool b))
  (h : opX P main lp ⟨d, op, ty, pos, af, some (j, b)⟩ a H (fun a' H' => (i ∈ ts ∨ (S H -> S H')) /\ Azr P main lp ops.toArray Q S ts p a' H') Q) : Azr P main lp ops.toArray Q S ts (.one i p) a H := by
 refine Aqx ?_
 rw [Awj]
 simp only [List.getElem?_toArray, hO.nth, ho, hO.guard (o := ⟨d, op, ty, pos, af, some (j, b)⟩) rfl hj hd hv, if_true]
 exact ⟨hf, h⟩
theorem Bkl (hO : Ay9 l ops) (ho : l[i]? = some ⟨d, op, ty, pos, af, none⟩) (hf : fine lp ⟨d, op, ty, pos, af, none⟩ = true)
  (hS : S H) (h : ∀ H' : Hp, S H' -> wpS P (execOp a.eval ⟨d, op, ty, pos, af, none⟩) H' (YN P main v H') fun _ _ => False) (hk : Azr P main lp ops.toArray Q S ts p (a.put d v) H) : Azr P main lp ops.toArray Q S ts (.take i p) a H :=
 Axd ((hO.nth i).trans ho) rfl hf hS h hk
theorem Bqv (hO : Ay9 l ops) (ho : l[i]? = some ⟨d, op, ty, pos, af, none⟩) (hf : fine lp ⟨d, op, ty, pos, af, none⟩ = true)
  (h : opX P main lp ⟨d, op, ty, pos, af, none⟩ a H (fun a' H' => (i ∈ ts ∨ (S H -> S H')) /\ Azr P main lp ops.toArray Q S ts p a' H') Q) : Azr P main lp ops.toArray Q S ts (.one i p) a H := by
 refine Aqx ?_
 rw [Awj]
 simp only [List.getElem?_toArray, hO.nth, ho, Region.wanted, if_true]
 exact ⟨hf, h⟩
theorem planZ_two {pq : PV} {d' : Option Tmp} {op' : Op} {ty' : TypeId} {pos' : String} {af' : Array Edge} (hO : Ay9 l ops) (ho : l[i]? = some ⟨d, op, ty, pos, af, none⟩) (hf : fine lp ⟨d, op, ty, pos, af, none⟩ = true) (ho' : l[j]? = some ⟨d', op', ty', pos', af', none⟩) (hf' : fine lp ⟨d', op', ty', pos', af', none⟩ = true)
  (h : opX P main lp ⟨d, op, ty, pos, af, none⟩ a H (fun a' H' => (i ∈ ts ∨ (S H -> S H')) /\ Azr P main lp ops.toArray Q S ts p a' H') Q)
  (h' : opX P main lp ⟨d', op', ty', pos', af', none⟩ a H (fun a' H' => (j ∈ ts ∨ (S H -> S H')) /\ Azr P main lp ops.toArray Q S ts pq a' H') Q) : Azr P main lp ops.toArray Q S ts (.two i p j pq) a H := by
 refine Avj ?_ ?_
 ·rw [Awj]
  simp only [List.getElem?_toArray, hO.nth, ho, Region.wanted, if_true]
  exact ⟨hf, h⟩
 ·rw [Awj]
  simp only [List.getElem?_toArray, hO.nth, ho', Region.wanted, if_true]
  exact ⟨hf', h'⟩
theorem Ajd (h : Q .normal a H) : Azr P main lp ops.toArray Q S ts .nil a H := h
end
end Go.X
end
section
namespace Go.X
open Go
theorem Cwy {P : Program} {H : Hp} {t : TypeId} (h : P.eqGuardType P.depth t = false) (op : BinOp) (x y : Operand) (p q : Array Value) (K : Unit -> Hp -> Prop) (E : Value -> Hp -> Prop) : wpS P (eqGuard op t x y (.agg p) (.agg q)) H K E = K () H := by
 unfold eqGuard
 cases op <;> first | rfl | (simp only [Aqa, Aj4, h, Bool.not_false, if_true]; first | rfl | (simp [Aqa, Aj4, h, Aqe]; done))
theorem Cwv {P : Program} {H : Hp} {ks : TypeId} (h : Key2 P ks .i64 .i64) (a b c d : Int) (K : Value -> Hp -> Prop) (E : Value -> Hp -> Prop) :
  wpS P (binOp .eql ks (.agg #[.int .i64 a, .int .i64 b]) (.agg #[.int .i64 c, .int .i64 d])) H K E = K (.bool (a == c && b == d)) H := by
 simp only [binOp]
 rw [Aqa, Cvr h]
 rfl
end Go.X
namespace Go.Proofs.YtnfnaehonkbknaaGreatDoor
open Go Go.X
def Aql := And.intro @Cva (And.intro @Dz6 (And.intro (fun H => Aqv (H := H) (P := Tryz.prog) (h := Tryz.zeroValue34)) (And.intro (fun H => Aqr (H := H) Tryz.sizeOf34) (And.intro @Dz0 (And.intro @Dz4 (And.intro @Dzy (And.intro @Dzx (And.intro @Dz7 (And.intro @Dz8 (And.intro @Dz9 (And.intro @Dz1 (And.intro (fun H => Aqp (H := H) Tryz.underlying34 rfl Tryz.sizeOf34) (And.intro @Dz3 (And.intro @Azo (And.intro @Dz2 @Av6)))))))))))))))
theorem Dxu : Key2 Tryz.prog 34 .i64 .i64 := ⟨⟨_, _, Tryz.underlying34, by decide, by decide, rfl, rfl, ⟨_, Tryz.underlying3⟩, ⟨_, Tryz.underlying3⟩⟩, by kernel_rfl⟩
theorem Cke : Program.eqGuardType Tryz.prog (Program.depth Tryz.prog) 34 = false := by kernel_rfl
theorem Aq2 {H : Hp} (op : BinOp) (x y : Operand) (p q : Array Value) (K : Unit -> Hp -> Prop) (E : Value -> Hp -> Prop) : wpS Tryz.prog (eqGuard op 34 x y (.agg p) (.agg q)) H K E = K () H := Cwy Cke op x y p q K E
theorem Aq1 {H : Hp} (a b c d : Int) (K : Value -> Hp -> Prop) (E : Value -> Hp -> Prop) :
 wpS Tryz.prog (binOp .eql 34 (.agg #[.int .i64 a, .int .i64 b]) (.agg #[.int .i64 c, .int .i64 d])) H K E = K (.bool (a == c && b == d)) H := Cwv Dxu a b c d K E
theorem Bzd {H : Hp} {b n : Nat} {xs : List Int} {c : Array Value} (h : H b = some (true, .cells c 3 (0, 0))) (hc : c = (ints xs).toArray) (hn : n = xs.length := by rfl) : SlI H (.slice (some ⟨b, 0, none⟩) n n) xs := by
 subst hc hn
 refine ⟨_, _, rfl, Nat.le_refl _, fun i x hx => ⟨b, 0, true, _, _, rfl, h, ?_⟩⟩
 rw [Nat.zero_add, List.getElem?_toArray]
 exact Ake hx
theorem smelled_spec (H : Hp) : FnX Tryz.prog (.wg Tryz.prog) 13 #[] H fun e H' => e = .returned (.bool true) /\ H.le H' := by
 refine Aqo (args := []) Tryz.func13 rfl Tryz.ntmps13 (by simp) ?_
 (refine @unH _ (zA Aql ?_); (repeat refine inC fun hc => ?_); try refine inK fun K hK => ?_)
 refine (Aj7 _ H).runs.mono ?_
 rintro _ A1 ⟨dv1, hv1, nv1, rfl, hs1, lA1⟩
 have tA1 := lA1
 clear lA1
 ((try refine @unH _ (zX Aql ?_)); (try (refine hK _ _ ?_; clear hK K; try refine @unH _ (zQ ?_))); refine @unH _ (zA Aql ?_); (repeat refine inC fun hc => ?_); try refine inK fun K hK => ?_)
 refine (Cxc A1 Ajw _ _ _ hs1 Avt 2 3 _).runs.mono ?_
 rintro _ C1 ⟨rfl, lC1⟩
 rw [Dqg]
 clear hs1
 have tC1 := Hp.le_trans tA1 lC1
 clear lC1 tA1
 ((try refine @unH _ (zX Aql ?_)); (try (refine hK _ _ ?_; clear hK K; try refine @unH _ (zQ ?_))); refine @unH _ (zA Aql ?_); (repeat refine inC fun hc => ?_); try refine inK fun K hK => ?_)
 (intro ba hba; generalize hG : Hp.set _ ba _ = D1; have lD1 := Aqc hG hba; have vba := Aqb hG; clear hG)
 have vba_D1 := vba
 clear vba hba
 have tD1 := Hp.le_trans tC1 lD1
 clear lD1 tC1
 ((try refine @unH _ (zX Aql ?_)); (try (refine hK _ _ ?_; clear hK K; try refine @unH _ (zQ ?_))); refine @unH _ (zA Aql ?_); (repeat refine inC fun hc => ?_); try refine inK fun K hK => ?_)
 refine (Aj7 _ D1).runs.mono ?_
 rintro _ A2 ⟨dv2, hv2, nv2, rfl, hs2, lA2⟩
 have vba_A2 := lA2 _ _ vba_D1
 clear vba_D1
 have tA2 := Hp.le_trans tD1 lA2
 clear lA2 tD1
 ((try refine @unH _ (zX Aql ?_)); (try (refine hK _ _ ?_; clear hK K; try refine @unH _ (zQ ?_))); refine @unH _ (zA Aql ?_); (repeat refine inC fun hc => ?_); try refine inK fun K hK => ?_)
 refine (Cq9 A2 Ajw _ _ _ hs2 Avt).runs.mono ?_
 rintro _ C2 ⟨rfl, lC2⟩
 have vba_C2 := lC2 _ _ vba_A2
 clear vba_A2
 rw [Dqe]
 clear hs2
 have tC2 := Hp.le_trans tA2 lC2
 clear lC2 tA2
 ((try refine @unH _ (zX Aql ?_)); (try (refine hK _ _ ?_; clear hK K; try refine @unH _ (zQ ?_))); refine @unH _ (zA Aql ?_); (repeat refine inC fun hc => ?_); try refine inK fun K hK => ?_)
 refine (Aj7 _ C2).runs.mono ?_
 rintro _ A3 ⟨dv3, hv3, nv3, rfl, hs3, lA3⟩
 have vba_A3 := lA3 _ _ vba_C2
 clear vba_C2
 have tA3 := Hp.le_trans tC2 lA3
 clear lA3 tC2
 ((try refine @unH _ (zX Aql ?_)); (try (refine hK _ _ ?_; clear hK K; try refine @unH _ (zQ ?_))); refine @unH _ (zA Aql ?_); (repeat refine inC fun hc => ?_); try refine inK fun K hK => ?_)
 refine (Cxd A3 Ajw _ _ _ hs3 Avt 1).runs.mono ?_
 rintro _ C3 ⟨rfl, lC3⟩
 have vba_C3 := lC3 _ _ vba_A3
 clear vba_A3
 rw [Dqh]
 clear hs3
 have tC3 := Hp.le_trans tA3 lC3
 clear lC3 tA3
 ((try refine @unH _ (zX Aql ?_)); (try (refine hK _ _ ?_; clear hK K; try refine @unH _ (zQ ?_))); refine @unH _ (zA Aql ?_); (repeat refine inC fun hc => ?_); try refine inK fun K hK => ?_)
 (intro bb hbb; generalize hG : Hp.set _ bb _ = D3; have lD3 := Aqc hG hbb; have vbb := Aqb hG; clear hG)
 have vba_D3 := lD3 _ _ vba_C3
 clear vba_C3
 have vbb_D3 := vbb
 clear vbb hbb
 have tD3 := Hp.le_trans tC3 lD3
 clear lD3 tC3
 ((try refine @unH _ (zX Aql ?_)); (try (refine hK _ _ ?_; clear hK K; try refine @unH _ (zQ ?_))); refine @unH _ (zA Aql ?_); (repeat refine inC fun hc => ?_); try refine inK fun K hK => ?_)
 refine (Aj7 _ D3).runs.mono ?_
 rintro _ A4 ⟨dv4, hv4, nv4, rfl, hs4, lA4⟩
 have vba_A4 := lA4 _ _ vba_D3
 have vbb_A4 := lA4 _ _ vbb_D3
 clear vba_D3 vbb_D3
 have tA4 := Hp.le_trans tD3 lA4
 clear lA4 tD3
 ((try refine @unH _ (zX Aql ?_)); (try (refine hK _ _ ?_; clear hK K; try refine @unH _ (zQ ?_))); refine @unH _ (zA Aql ?_); (repeat refine inC fun hc => ?_); try refine inK fun K hK => ?_)
 refine (Bvu A4 Ajw _ _ _ hs4 Avt 0 3).runs.mono ?_
 rintro _ C4 ⟨rfl, lC4⟩
 have vba_C4 := lC4 _ _ vba_A4
 have vbb_C4 := lC4 _ _ vbb_A4
 clear vba_A4 vbb_A4
 rw [Dj3, Dvg]
 clear hs4
 have tC4 := Hp.le_trans tA4 lC4
 clear lC4 tA4
 ((try refine @unH _ (zX Aql ?_)); (try (refine hK _ _ ?_; clear hK K; try refine @unH _ (zQ ?_))); refine @unH _ (zA Aql ?_); (repeat refine inC fun hc => ?_); try refine inK fun K hK => ?_)
 refine (Aj7 _ C4).runs.mono ?_
 rintro _ A5 ⟨dv5, hv5, nv5, rfl, hs5, lA5⟩
 have vba_A5 := lA5 _ _ vba_C4
 have vbb_A5 := lA5 _ _ vbb_C4
 clear vba_C4 vbb_C4
 have tA5 := Hp.le_trans tC4 lA5
 clear lA5 tC4
 ((try refine @unH _ (zX Aql ?_)); (try (refine hK _ _ ?_; clear hK K; try refine @unH _ (zQ ?_))); refine @unH _ (zA Aql ?_); (repeat refine inC fun hc => ?_); try refine inK fun K hK => ?_)
 refine (Cq8 A5 Ajw _ _ _ hs5 Avt 3).runs.mono ?_
 rintro _ C5 ⟨rfl, lC5⟩
 have vba_C5 := lC5 _ _ vba_A5
 have vbb_C5 := lC5 _ _ vbb_A5
 clear vba_A5 vbb_A5
 rw [Dqd]
 clear hs5
 have tC5 := Hp.le_trans tA5 lC5
 clear lC5 tA5
 ((try refine @unH _ (zX Aql ?_)); (try (refine hK _ _ ?_; clear hK K; try refine @unH _ (zQ ?_))); refine @unH _ (zA Aql ?_); (repeat refine inC fun hc => ?_); try refine inK fun K hK => ?_)
 (intro bc hbc; generalize hG : Hp.set _ bc _ = D5; have lD5 := Aqc hG hbc; have vbc := Aqb hG; clear hG)
 have vba_D5 := lD5 _ _ vba_C5
 have vbb_D5 := lD5 _ _ vbb_C5
 clear vba_C5 vbb_C5
 have vbc_D5 := vbc
 clear vbc hbc
 have tD5 := Hp.le_trans tC5 lD5
 clear lD5 tC5
 ((try refine @unH _ (zX Aql ?_)); (try (refine hK _ _ ?_; clear hK K; try refine @unH _ (zQ ?_))); refine @unH _ (zA Aql ?_); (repeat refine inC fun hc => ?_); try refine inK fun K hK => ?_)
 refine (Dxi _ D5).runs.mono ?_
 rintro _ A6 ⟨dv6, hv6, nv6, rfl, hs6, lA6⟩
 have vba_A6 := lA6 _ _ vba_D5
 have vbb_A6 := lA6 _ _ vbb_D5
 have vbc_A6 := lA6 _ _ vbc_D5
 clear vba_D5 vbb_D5 vbc_D5
 have tA6 := Hp.le_trans tD5 lA6
 clear lA6 tD5
 ((try refine @unH _ (zX Aql ?_)); (try (refine hK _ _ ?_; clear hK K; try refine @unH _ (zQ ?_))); refine @unH _ (zA Aql ?_); (repeat refine inC fun hc => ?_); try refine inK fun K hK => ?_)
 refine (Cxf A6 oddS _ _ _ hs6 Dkh).runs.mono ?_
 rintro _ C6 ⟨wv, rfl, hw, lC6⟩
 have vba_C6 := lC6 _ _ vba_A6
 have vbb_C6 := lC6 _ _ vbb_A6
 have vbc_C6 := lC6 _ _ vbc_A6
 clear vba_A6 vbb_A6 vbc_A6
 rw [Dqj] at hw
 have hw_C6 := hw
 clear hw
 clear hs6
 have tC6 := Hp.le_trans tA6 lC6
 clear lC6 tA6
 ((try refine @unH _ (zX Aql ?_)); (try (refine hK _ _ ?_; clear hK K; try refine @unH _ (zQ ?_))); refine @unH _ (zA Aql ?_); (repeat refine inC fun hc => ?_); try refine inK fun K hK => ?_)
 refine (Aj7 _ C6).runs.mono ?_
 rintro _ A7 ⟨dv7, hv7, nv7, rfl, hs7, lA7⟩
 have vba_A7 := lA7 _ _ vba_C6
 have vbb_A7 := lA7 _ _ vbb_C6
 have vbc_A7 := lA7 _ _ vbc_C6
 have hw_A7 := hw_C6.le lA7
 clear vba_C6 vbb_C6 vbc_C6 hw_C6
 have tA7 := Hp.le_trans tC6 lA7
 clear lA7 tC6
 ((try refine @unH _ (zX Aql ?_)); (try (refine hK _ _ ?_; clear hK K; try refine @unH _ (zQ ?_))); refine @unH _ (zA Aql ?_); (repeat refine inC fun hc => ?_); try refine inK fun K hK => ?_)
 refine (Cxe A7 Ajw _ _ _ hs7 Avt 2).runs.mono ?_
 rintro _ C7 ⟨rfl, lC7⟩
 have vba_C7 := lC7 _ _ vba_A7
 have vbb_C7 := lC7 _ _ vbb_A7
 have vbc_C7 := lC7 _ _ vbc_A7
 have hw_C7 := hw_A7.le lC7
 clear vba_A7 vbb_A7 vbc_A7 hw_A7
 rw [Dqi]
 clear hs7
 have tC7 := Hp.le_trans tA7 lC7
 clear lC7 tA7
 ((try refine @unH _ (zX Aql ?_)); (try (refine hK _ _ ?_; clear hK K; try refine @unH _ (zQ ?_))); refine @unH _ (zA Aql ?_); (repeat refine inC fun hc => ?_); try refine inK fun K hK => ?_)
 refine (Aj7 _ C7).runs.mono ?_
 rintro _ A8 ⟨dv8, hv8, nv8, rfl, hs8, lA8⟩
 have vba_A8 := lA8 _ _ vba_C7
 have vbb_A8 := lA8 _ _ vbb_C7
 have vbc_A8 := lA8 _ _ vbc_C7
 have hw_A8 := hw_C7.le lA8
 clear vba_C7 vbb_C7 vbc_C7 hw_C7
 have tA8 := Hp.le_trans tC7 lA8
 clear lA8 tC7
 ((try refine @unH _ (zX Aql ?_)); (try (refine hK _ _ ?_; clear hK K; try refine @unH _ (zQ ?_))); refine @unH _ (zA Aql ?_); (repeat refine inC fun hc => ?_); try refine inK fun K hK => ?_)
 refine (Cxa A8 Ajw _ _ _ hs8 Avt).runs.mono ?_
 rintro _ C8 ⟨fv, rfl, hf, lC8⟩
 have vba_C8 := lC8 _ _ vba_A8
 have vbb_C8 := lC8 _ _ vbb_A8
 have vbc_C8 := lC8 _ _ vbc_A8
 have hw_C8 := hw_A8.le lC8
 clear vba_A8 vbb_A8 vbc_A8 hw_A8
 rw [Dqf] at hf ⊢
 have hf_C8 := hf
 clear hf
 clear hs8
 have tC8 := Hp.le_trans tA8 lC8
 clear lC8 tA8
 ((try refine @unH _ (zX Aql ?_)); (try (refine hK _ _ ?_; clear hK K; try refine @unH _ (zQ ?_))); refine @unH _ (zA Aql ?_); (repeat refine inC fun hc => ?_); try refine inK fun K hK => ?_)
 replace hf_C8 : SlI C8 fv [2, 1, 2] := hf_C8
 refine Bkv (fun e => e 1 = .pointer (some ⟨ba, 0, none⟩) /\ e 2 = .int .i64 0 /\ e 3 = .int .i64 5 /\ e 4 = .int .i64 0 /\ e 5 = .pointer (some ⟨bb, 0, none⟩) /\ e 6 = .int .i64 0 /\ e 7 = .int .i64 3 /\ e 8 = .int .i64 0 /\ e 9 = .pointer (some ⟨bc, 0, none⟩) /\ e 10 = .int .i64 0 /\ e 11 = wv /\ e 12 = .int .i64 0 /\ e 13 = .int .i64 1 /\ e 14 = .int .i64 3 /\ e 15 = .int .i64 0 /\ e 16 = .int .i64 0 /\ e 17 = .int .i64 2 /\ e 18 = fv /\ e 19 = .int .i64 0) ⟨rfl, rfl, rfl, rfl, rfl, rfl, rfl, rfl, rfl, rfl, rfl, rfl, rfl, rfl, rfl, rfl, rfl, rfl, rfl⟩ ?_
 rintro e ⟨e1, e2, e3, e4, e5, e6, e7, e8, e9, e10, e11, e12, e13, e14, e15, e16, e17, e18, e19⟩
 simp only [List.append]
 refine Axm (fun HX => C8.le HX) [] (.free 0 (.free 1 (.free 2 (.free 3 (.free 4 (.free 5 (.free 6 (.free 7 (.free 8 (.free 9 (.free 10 (.free 11 (.free 12 (.free 13 (.free 14 (.free 15 (.free 16 (.free 17 (.free 18 (.free 19 (.free 20 (.free 21 (.free 22 (.free 23 (.free 24 (.free 25 (.free 26 (.free 27 (.free 28 (.free 29 (.free 30 (.take 31 (.one 32 (.free 33 (.free 34 (.free 35 (.free 36 (.free 37 (.free 38 (.free 39 (.take 40 (.one 41 (.free 42 (.free 43 (.free 44 (.free 45 (.free 46 (.free 47 (.free 48 (.take 49 (.one 50 (.free 51 (.free 52 (.free 53 (.free 54 (.free 55 (.free 56 (.free 57 (.free 58 (.free 59 (.free 60 (.free 61 (.free 62 (.free 63 (.free 64 (.free 65 (.free 66 (.free 67 (.free 68 (.free 69 (.free 70 (.one 71 (.one 72 (.free 73 (.free 74 (.free 75 (.one 76 (.one 77 (.free 78 (.free 79 .nil)))))))))))))))))))))))))))))))))))))))))))))))))))))))))))))))))))))))))))))))) (by kernel_rfl) (by kernel_rfl) (by decide) (by kernel_rfl) ?_; intro K hK
 have hS0 : C8.le C8 := Hp.le_refl _
 refine Ax8 fun ops hOz => ?_
 (refine @unH _ ?_; refine zF (And.intro Aql (And.intro @Aq2 @Aq1)) ?_)
 (refine @unH _ ?_; refine zF (And.intro Aql (And.intro @Aq2 @Aq1)) ?_)
 (refine @unH _ ?_; refine zF (And.intro Aql (And.intro @Aq2 @Aq1)) ?_)
 (refine @unH _ ?_; refine zG (And.intro Aql (And.intro @Aq2 @Aq1)) ?_)
 (refine @unH _ ?_; refine zG (And.intro Aql (And.intro @Aq2 @Aq1)) ?_)
 (refine @unH _ ?_; refine zF (And.intro Aql (And.intro @Aq2 @Aq1)) ?_)
 (refine @unH _ ?_; refine zF (And.intro Aql (And.intro @Aq2 @Aq1)) ?_)
 (refine @unH _ ?_; refine zG (And.intro Aql (And.intro @Aq2 @Aq1)) ?_)
 (refine @unH _ ?_; refine zG (And.intro Aql (And.intro @Aq2 @Aq1)) ?_)
 (refine @unH _ ?_; refine zF (And.intro Aql (And.intro @Aq2 @Aq1)) ?_)
 (refine @unH _ ?_; refine zF (And.intro Aql (And.intro @Aq2 @Aq1)) ?_)
 (refine @unH _ ?_; refine zG (And.intro Aql (And.intro @Aq2 @Aq1)) ?_)
 (refine @unH _ ?_; refine zG (And.intro Aql (And.intro @Aq2 @Aq1)) ?_)
 (refine @unH _ ?_; refine zF (And.intro Aql (And.intro @Aq2 @Aq1)) ?_)
 (refine @unH _ ?_; refine zF (And.intro Aql (And.intro @Aq2 @Aq1)) ?_)
 (refine @unH _ ?_; refine zG (And.intro Aql (And.intro @Aq2 @Aq1)) ?_)
 (refine @unH _ ?_; refine zG (And.intro Aql (And.intro @Aq2 @Aq1)) ?_)
 (refine @unH _ ?_; refine zF (And.intro Aql (And.intro @Aq2 @Aq1)) ?_)
 (refine @unH _ ?_; refine zF (And.intro Aql (And.intro @Aq2 @Aq1)) ?_)
 (refine @unH _ ?_; refine zG (And.intro Aql (And.intro @Aq2 @Aq1)) ?_)
 (refine @unH _ ?_; refine zG (And.intro Aql (And.intro @Aq2 @Aq1)) ?_)
 (refine @unH _ ?_; refine zF (And.intro Aql (And.intro @Aq2 @Aq1)) ?_)
 (refine @unH _ ?_; refine zF (And.intro Aql (And.intro @Aq2 @Aq1)) ?_)
 (refine @unH _ ?_; refine zG (And.intro Aql (And.intro @Aq2 @Aq1)) ?_)
 (refine @unH _ ?_; refine zG (And.intro Aql (And.intro @Aq2 @Aq1)) ?_)
 (refine @unH _ ?_; refine zF (And.intro Aql (And.intro @Aq2 @Aq1)) ?_)
 (refine @unH _ ?_; refine zF (And.intro Aql (And.intro @Aq2 @Aq1)) ?_)
 (refine @unH _ ?_; refine zG (And.intro Aql (And.intro @Aq2 @Aq1)) ?_)
 (refine @unH _ ?_; refine zG (And.intro Aql (And.intro @Aq2 @Aq1)) ?_)
 (refine @unH _ ?_; refine zF (And.intro Aql (And.intro @Aq2 @Aq1)) ?_)
 (refine @unH _ ?_; refine zF (And.intro Aql (And.intro @Aq2 @Aq1)) ?_)
 (apply Ayx hOz rfl rfl rfl rfl (by simp -implicitDefEqProofs (disch := omega) only [act_get?, Axk, Nat.reduceEqDiff, ↓reduceIte, beq_self_eq_true, Bool.and_self, *]) ‹_›; (focus (intro HX hHX; simp -implicitDefEqProofs (disch := first | omega | (simp only [qd] <;> omega)) only [xq, ↓xp, qc, Nat.reduceAdd, List.range, List.range.loop, fine, Nat.reduceEqDiff, ↓reduceIte, yielded, reduceCtorEq, Nat.reduceLT, Nat.reduceMul, Nat.reduceSub, one, Nat.reduceLeDiff, Aqj, Aql, aq, ↓ap, qe0, qe1, qe2, *, -hK, Aq9, hHX _ _ vba_C8, Aw3] <;> (first | exact rfl | exact ⟨rfl, rfl⟩ | exact ⟨rfl, trivial⟩))); simp -implicitDefEqProofs (disch := first | omega | (simp only [qd] <;> omega)) only [Aq3, Aqm])
 (refine @unH _ ?_; refine zN (And.intro Aql (And.intro @Aq2 @Aq1)) ?_)
 refine (Bxc _ C8 4 6).runs.mono ?_
 rintro _ E32 ⟨rfl, lE32⟩
 have mE32 : C8.le E32 := lE32
 simp -implicitDefEqProofs (disch := omega) only [Azw, Aq3, Aqm]
 refine ⟨.inr fun _ => (by first | trivial | exact mE32 | exact lE32), ?_⟩
 (refine @unH _ ?_; refine zG (And.intro Aql (And.intro @Aq2 @Aq1)) ?_)
 (refine @unH _ ?_; refine zF (And.intro Aql (And.intro @Aq2 @Aq1)) ?_)
 (refine @unH _ ?_; refine zF (And.intro Aql (And.intro @Aq2 @Aq1)) ?_)
 (refine @unH _ ?_; refine zG (And.intro Aql (And.intro @Aq2 @Aq1)) ?_)
 (refine @unH _ ?_; refine zG (And.intro Aql (And.intro @Aq2 @Aq1)) ?_)
 (refine @unH _ ?_; refine zF (And.intro Aql (And.intro @Aq2 @Aq1)) ?_)
 (refine @unH _ ?_; refine zF (And.intro Aql (And.intro @Aq2 @Aq1)) ?_)
 (apply Ayx hOz rfl rfl rfl rfl (by simp -implicitDefEqProofs (disch := omega) only [act_get?, Axk, Nat.reduceEqDiff, ↓reduceIte, beq_self_eq_true, Bool.and_self, *]) ‹_›; (focus (intro HX hHX; simp -implicitDefEqProofs (disch := first | omega | (simp only [qd] <;> omega)) only [xq, ↓xp, qc, Nat.reduceAdd, List.range, List.range.loop, fine, Nat.reduceEqDiff, ↓reduceIte, yielded, reduceCtorEq, Nat.reduceLT, Nat.reduceMul, Nat.reduceSub, one, Nat.reduceLeDiff, Aqj, Aql, aq, ↓ap, qe0, qe1, qe2, *, -hK, Aq9, hHX _ _ vbb_C8, Aw3] <;> (first | exact rfl | exact ⟨rfl, rfl⟩ | exact ⟨rfl, trivial⟩))); simp -implicitDefEqProofs (disch := first | omega | (simp only [qd] <;> omega)) only [Aq3, Aqm])
 (refine @unH _ ?_; refine zN (And.intro Aql (And.intro @Aq2 @Aq1)) ?_)
 refine (Bxc _ E32 0 3).runs.mono ?_
 rintro _ E41 ⟨rfl, lE41⟩
 have mE41 : C8.le E41 := Hp.le_trans mE32 lE41
 simp -implicitDefEqProofs (disch := omega) only [Azw, Aq3, Aqm]
 refine ⟨.inr fun _ => (by first | trivial | exact mE41 | exact lE41), ?_⟩
 (refine @unH _ ?_; refine zG (And.intro Aql (And.intro @Aq2 @Aq1)) ?_)
 (refine @unH _ ?_; refine zF (And.intro Aql (And.intro @Aq2 @Aq1)) ?_)
 (refine @unH _ ?_; refine zF (And.intro Aql (And.intro @Aq2 @Aq1)) ?_)
 (refine @unH _ ?_; refine zG (And.intro Aql (And.intro @Aq2 @Aq1)) ?_)
 (refine @unH _ ?_; refine zG (And.intro Aql (And.intro @Aq2 @Aq1)) ?_)
 (refine @unH _ ?_; refine zF (And.intro Aql (And.intro @Aq2 @Aq1)) ?_)
 (refine @unH _ ?_; refine zF (And.intro Aql (And.intro @Aq2 @Aq1)) ?_)
 (apply Ayx hOz rfl rfl rfl rfl (by simp -implicitDefEqProofs (disch := omega) only [act_get?, Axk, Nat.reduceEqDiff, ↓reduceIte, beq_self_eq_true, Bool.and_self, *]) ‹_›; (focus (intro HX hHX; simp -implicitDefEqProofs (disch := first | omega | (simp only [qd] <;> omega)) only [xq, ↓xp, qc, Nat.reduceAdd, List.range, List.range.loop, fine, Nat.reduceEqDiff, ↓reduceIte, yielded, reduceCtorEq, Nat.reduceLT, Nat.reduceMul, Nat.reduceSub, one, Nat.reduceLeDiff, Aqj, Aql, aq, ↓ap, qe0, qe1, qe2, *, -hK, Aq9, hHX _ _ vbc_C8, Aw3] <;> (first | exact rfl | exact ⟨rfl, rfl⟩ | exact ⟨rfl, trivial⟩))); simp -implicitDefEqProofs (disch := first | omega | (simp only [qd] <;> omega)) only [Aq3, Aqm])
 (refine @unH _ ?_; refine zN (And.intro Aql (And.intro @Aq2 @Aq1)) ?_)
 refine (Bxc _ E41 4 9).runs.mono ?_
 rintro _ E50 ⟨rfl, lE50⟩
 have mE50 : C8.le E50 := Hp.le_trans mE41 lE50
 simp -implicitDefEqProofs (disch := omega) only [Azw, Aq3, Aqm]
 refine ⟨.inr fun _ => (by first | trivial | exact mE50 | exact lE50), ?_⟩
 (refine @unH _ ?_; refine zG (And.intro Aql (And.intro @Aq2 @Aq1)) ?_)
 (refine @unH _ ?_; refine zF (And.intro Aql (And.intro @Aq2 @Aq1)) ?_)
 (refine @unH _ ?_; refine zF (And.intro Aql (And.intro @Aq2 @Aq1)) ?_)
 (refine @unH _ ?_; refine zG (And.intro Aql (And.intro @Aq2 @Aq1)) ?_)
 (refine @unH _ ?_; refine zG (And.intro Aql (And.intro @Aq2 @Aq1)) ?_)
 (refine @unH _ ?_; refine zF (And.intro Aql (And.intro @Aq2 @Aq1)) ?_)
 (refine @unH _ ?_; refine zF (And.intro Aql (And.intro @Aq2 @Aq1)) ?_)
 (refine @unH _ ?_; refine zG (And.intro Aql (And.intro @Aq2 @Aq1)) ?_)
 (refine @unH _ ?_; refine zG (And.intro Aql (And.intro @Aq2 @Aq1)) ?_)
 (refine @unH _ ?_; refine zF (And.intro Aql (And.intro @Aq2 @Aq1)) ?_)
 (refine @unH _ ?_; refine zF (And.intro Aql (And.intro @Aq2 @Aq1)) ?_)
 (refine @unH _ ?_; refine zG (And.intro Aql (And.intro @Aq2 @Aq1)) ?_)
 (refine @unH _ ?_; refine zG (And.intro Aql (And.intro @Aq2 @Aq1)) ?_)
 (refine @unH _ ?_; refine zF (And.intro Aql (And.intro @Aq2 @Aq1)) ?_)
 (refine @unH _ ?_; refine zF (And.intro Aql (And.intro @Aq2 @Aq1)) ?_)
 (refine @unH _ ?_; refine zG (And.intro Aql (And.intro @Aq2 @Aq1)) ?_)
 (refine @unH _ ?_; refine zG (And.intro Aql (And.intro @Aq2 @Aq1)) ?_)
 (refine @unH _ ?_; refine zF (And.intro Aql (And.intro @Aq2 @Aq1)) ?_)
 (refine @unH _ ?_; refine zF (And.intro Aql (And.intro @Aq2 @Aq1)) ?_)
 (refine @unH _ ?_; refine zG (And.intro Aql (And.intro @Aq2 @Aq1)) ?_)
 (refine @unH _ ?_; refine zN (And.intro Aql (And.intro @Aq2 @Aq1)) ?_)
 intro g71 hg71
 generalize hG : Hp.set E50 g71 _ = E71
 have lE71 := Aqc hG hg71
 have vg71 := Aqb hG
 clear hG
 have mE71 : C8.le E71 := Hp.le_trans mE50 lE71
 refine ⟨.inr fun _ => mE71, ?_⟩
 have sl71 : SlI E71 (.slice (some ⟨g71, 0, none⟩) 1 1) [0] := Bzd (xs := [0]) vg71 rfl
 have sw71 : SlI E71 wv [0] := SlI.le hw_C8 mE71
 clear hg71 vg71
 (refine @unH _ ?_; refine zN (And.intro Aql (And.intro @Aq2 @Aq1)) ?_)
 refine (Bqo _ E71 wv _ [0] [0] sw71 sl71 (by decide) (by decide)).runs.mono ?_
 rintro _ HQ ⟨rfl, hHQ⟩
 rw [hHQ]
 clear hHQ HQ
 rw [decide_eq_true rfl]
 clear sl71 sw71
 simp -implicitDefEqProofs (disch := omega) only [Azw, Aq3, Aqm]
 refine ⟨.inr fun _ => mE71, ?_⟩
 (refine @unH _ ?_; refine zF (And.intro Aql (And.intro @Aq2 @Aq1)) ?_)
 (refine @unH _ ?_; refine zF (And.intro Aql (And.intro @Aq2 @Aq1)) ?_)
 (refine @unH _ ?_; refine zG (And.intro Aql (And.intro @Aq2 @Aq1)) ?_)
 (refine @unH _ ?_; refine zN (And.intro Aql (And.intro @Aq2 @Aq1)) ?_)
 intro g76 hg76
 generalize hG : Hp.set E71 g76 _ = E76
 have lE76 := Aqc hG hg76
 have vg76 := Aqb hG
 clear hG
 have mE76 : C8.le E76 := Hp.le_trans mE71 lE76
 refine ⟨.inr fun _ => mE76, ?_⟩
 have sl76 : SlI E76 (.slice (some ⟨g76, 0, none⟩) 3 3) [2, 1, 2] := Bzd (xs := [2, 1, 2]) vg76 rfl
 have sw76 : SlI E76 fv [2, 1, 2] := SlI.le hf_C8 mE76
 clear hg76 vg76
 (refine @unH _ ?_; refine zN (And.intro Aql (And.intro @Aq2 @Aq1)) ?_)
 refine (Bqo _ E76 fv _ [2, 1, 2] [2, 1, 2] sw76 sl76 (by decide) (by decide)).runs.mono ?_
 rintro _ HQ ⟨rfl, hHQ⟩
 rw [hHQ]
 clear hHQ HQ
 rw [decide_eq_true rfl]
 clear sl76 sw76
 simp -implicitDefEqProofs (disch := omega) only [Azw, Aq3, Aqm]
 refine ⟨.inr fun _ => mE76, ?_⟩
 (refine @unH _ ?_; refine zF (And.intro Aql (And.intro @Aq2 @Aq1)) ?_)
 (refine @unH _ ?_; refine zF (And.intro Aql (And.intro @Aq2 @Aq1)) ?_)
 refine Axq (hK _ _ ?_)
 clear hK K
 (try refine @unH _ (zQ ?_))
 (refine @unH _ ?_; refine z9 Tryz.results13 ?_)
 exact ⟨by trivial, Hp.le_trans tC8 mE76⟩
end Go.Proofs.YtnfnaehonkbknaaGreatDoor
end
section
namespace Go.Proofs.YtnfnaehonkbknaaGreatDoor
open Go Go.X
def Bzo (d hr : Int) : Int := if d = 99 then 1000 else hr + d
def Awf (s : Sm) (p hr : Int) (ts : List Int) : List Int := (List.range s.places.toNat).map fun (q : Nat) => Bzo (gI (Aq8 s.doors p (pad6 ts)) q) hr
theorem Bzn (s : Sm) (p hr : Int) (ts : List Int) : (Awf s p hr ts).length = s.places.toNat := by simp [Awf]
theorem Bx5 {s : Sm} {p hr : Int} {ts : List Int} {q : Int} (h0 : 0 <= q) (h1 : q < s.places) : gI (Awf s p hr ts) q = Bzo (gI (Aq8 s.doors p (pad6 ts)) q) hr := by
 unfold gI Awf
 rw [List.getD, List.getElem?_map, List.getElem?_range (by omega)]
 simp only [Option.map_some, Option.getD_some]
 rw [show ((q.toNat : Nat) : Int) = q by omega]
 rfl
structure Awb (E : Int -> Int -> Int -> Prop) (pl p hr : Int) (c : List Int) : Prop where
 len : c.length = pl.toNat
 at0 : gI c p = hr
 att : ∀ q, 0 <= q -> q < pl -> gI c q = 1000 ∨ (gI c q < 1000 /\ Walk E p q (gI c q - hr))
 pos : ∀ q, 0 <= q -> q < pl -> hr <= gI c q
theorem Awb.start (E : Int -> Int -> Int -> Prop) {pl p hr : Int} (h0 : 0 <= p) (h1 : p < pl) (hh : hr <= 12) : Awb E pl p hr ((List.replicate pl.toNat (1000 : Int)).set p.toNat hr) := by
 have hl : ∀ q, 0 <= q -> q < pl -> gI (List.replicate pl.toNat (1000 : Int)) q = 1000 := fun q h0 h1 => by
  unfold gI
  rw [List.getD, List.getElem?_replicate, if_pos (by omega)]
  rfl
 have hg : ∀ q, 0 <= q -> q < pl -> gI ((List.replicate pl.toNat (1000 : Int)).set p.toNat hr) q = if p = q then hr else 1000 := fun q hq0 hq1 => by
  rw [Awh h0 (by simp; omega) hq0, hl q hq0 hq1]
 refine ⟨by simp, by rw [hg p h0 h1, if_pos rfl], fun q hq0 hq1 => ?_, fun q hq0 hq1 => ?_⟩
 ·rw [hg q hq0 hq1]
  split
  ·rename_i h; subst h; refine .inr ⟨by omega, ?_⟩; rw [Int.sub_self]; exact .here
  ·exact .inl rfl
 ·rw [hg q hq0 hq1]; split <;> omega
theorem Awb.le {E : Int -> Int -> Int -> Prop} {pl p hr : Int} {c : List Int} (h : Awb E pl p hr c) {q : Int} (h0 : 0 <= q) (h1 : q < pl) : gI c q <= 1000 := by
 rcases h.att q h0 h1 with h | h <;> omega
theorem Awb.one {E : Int -> Int -> Int -> Prop} {pl p hr : Int} {c : List Int} (h : Awb E pl p hr c) {a b t : Int} (hE : E a b t) (ht : 1 <= t) (ha0 : 0 <= a) (ha1 : a < pl) (hb0 : 0 <= b) (hb1 : b < pl) (h0 : 0 <= p) (h1 : p < pl) (hlt : gI c a + t < gI c b) : Awb E pl p hr (c.set b.toNat (gI c a + t)) := by
 have hl := h.len
 have hg : ∀ q, 0 <= q -> gI (c.set b.toNat (gI c a + t)) q = if b = q then gI c a + t else gI c q := fun q hq => Awh hb0 (by omega) hq
 have pa := h.pos a ha0 ha1
 have lb := h.le hb0 hb1
 refine ⟨by rw [Cwz, hl], ?_, fun q hq0 hq1 => ?_, fun q hq0 hq1 => ?_⟩
 ·rw [hg p h0]
  split
  ·rename_i e; subst e; have := h.at0; omega
  ·exact h.at0
 ·rw [hg q hq0]
  split
  ·rename_i e; subst e
   rcases h.att a ha0 ha1 with h2 | ⟨h2, hw⟩
   ·omega
   ·refine .inr ⟨by omega, ?_⟩
    rw [show gI c a + t - hr = gI c a - hr + t by omega]
    exact hw.step hE
  ·exact h.att q hq0 hq1
 ·rw [hg q hq0]
  split
  ·omega
  ·exact h.pos q hq0 hq1
def sumI (c : List Int) : Int := c.foldr (· + ·) 0
theorem Czt : ∀ (c : List Int) (i : Nat) (v x : Int), c[i]? = some x -> sumI (c.set i v) = sumI c - x + v
 | [], i, v, x, h => by simp at h
 | y :: c, 0, v, x, h => by
  simp at h
  subst h
  simp only [List.set_cons_zero, sumI, List.foldr_cons]
  omega
 | y :: c, i + 1, v, x, h => by
  have := Czt c i v x (by simpa using h)
  simp only [List.set_cons_succ, sumI, List.foldr_cons] at this ⊢
  omega
theorem Cyd : ∀ {c : List Int}, (∀ x ∈ c, 0 <= x) -> 0 <= sumI c
 | [], _ => Int.le_refl _
 | x :: c, h => by
  have h1 := h x List.mem_cons_self
  have := Cyd (c := c) fun y hy => h y (List.mem_cons_of_mem _ hy)
  simp only [sumI, List.foldr_cons] at this ⊢
  omega
theorem Dvq {c : List Int} {x : Int} (h : x ∈ c) : ∃ q : Int, 0 <= q /\ q < c.length /\ gI c q = x := by
 obtain ⟨i, hi, rfl⟩ := List.mem_iff_getElem.1 h
 refine ⟨i, by omega, by omega, ?_⟩
 unfold gI
 simp [List.getD, List.getElem?_eq_getElem hi]
theorem Awb.sum {E : Int -> Int -> Int -> Prop} {pl p hr : Int} {c : List Int} (h : Awb E pl p hr c) (hh : 0 <= hr) : 0 <= sumI c := Cyd fun x hx => by
 obtain ⟨q, h0, h1, rfl⟩ := Dvq hx
 have := h.pos q h0 (by have := h.len; omega)
 omega
theorem Awb.is {s : Sm} (ok : SmOk s) {p hr : Int} {ts c : List Int} (hc : Awb (Edg s.doors ts) s.places p hr c) (ht : ts ∈ Ax0 s.doors) (hr0 : 0 <= hr) (hr1 : hr <= 12) (h0 : 0 <= p) (h1 : p < s.places) (rel : ∀ a b n, Edg s.doors ts a b n -> gI c b <= gI c a + n) : c = Awf s p hr ts := by
 have hE : ∀ a b n, Edg s.doors (pad6 ts) a b n ↔ Edg s.doors ts a b n := fun a b n => by unfold pad6; exact Cku (Avn ht) _
 have hd := Bzp ok h0 h1 ht
 have hto := Aks (pl := s.places) ok.dk ht
 have h6 := ok.p1
 apply List.ext_getElem?
 intro i
 by_cases hi : i < s.places.toNat
 ·have g1 := Awg (c := c) (p := (i : Int)) (by omega) (by rw [hc.len]; omega)
  have g2 := Awg (c := Awf s p hr ts) (p := (i : Int)) (by omega) (by rw [Bzn]; omega)
  simp only [Int.toNat_natCast] at g1 g2
  rw [g1, g2, Bx5 (by omega) (by omega)]
  congr 1
  unfold Bzo
  rcases hc.att i (by omega) (by omega) with ha | ⟨ha, hw⟩
  ·rcases hd.att i (by omega) (by omega) with hb | ⟨hb, hv⟩
   ·rw [if_pos hb, ha]
   ·have := Walk.ge hv (c := gI c) fun a b t he => rel a b t ((hE a b t).1 he)
    rw [hc.at0] at this
    omega
  ·have hw' : Walk (Edg s.doors (pad6 ts)) p i (gI c i - hr) := Walk.map (fun x => x) (fun a b t he => (hE a b t).2 he) hw
   obtain ⟨_, _, g3, g4⟩ := hd.walk h6 ok.dk hto h0 (by omega) hw'
   rcases hd.att i (by omega) (by omega) with hb | ⟨hb, hv⟩
   ·omega
   ·have := Walk.ge hv (c := gI c) fun a b t he => rel a b t ((hE a b t).1 he)
    rw [hc.at0] at this
    rw [if_neg (by omega)]
    omega
 ·rw [List.getElem?_eq_none (by rw [hc.len]; omega), List.getElem?_eq_none (by rw [Bzn]; omega)]
theorem Ckk {s : Sm} (ok : SmOk s) {i b : Nat} (hi : i < s.hampers.length) (hb : b <= 12) {ts : List Int} (ht : ts ∈ Ax0 s.doors) (hn : ∀ n ∈ s.noses, n.sm = decide (gI (Awf s (s.hampers.getD i 0) b ts) n.pl <= n.hr)) :
  (i, b, pad6 ts, Aq8 s.doors (s.hampers.getD i 0) (pad6 ts)) ∈ allT s := by
 refine (Ak2 s i b _ _).2 ⟨hi, by omega, ?_⟩
 unfold fitS fitL trL
 rw [List.mem_filter]
 refine ⟨List.mem_map.2 ⟨ts, ht, rfl⟩, (Cze fun n hn => (ok.nk n hn).h1).2 ⟨by omega, by omega, fun n hm => ?_⟩⟩
 have h1 := ok.nk n hm
 obtain ⟨q0, q1⟩ := Cv4 ok hi
 show n.sm = decide ((b : Int) + gI (Aq8 s.doors (s.hampers.getD i 0) (pad6 ts)) n.pl <= n.hr)
 rw [hn n hm, Bx5 h1.p0 h1.p1, decide_eq_decide]
 have := h1.h1
 have hp := (Bzp ok q0 q1 ht).pos n.pl h1.p0 (by have := ok.p1; have := h1.p1; omega)
 unfold Bzo
 split <;> constructor <;> intro <;> omega
def Bjt (s : Sm) (i b : Nat) (ts : List Int) (p : Int) : Int := gI (Awf s (s.hampers.getD i 0) b ts) p
structure Tr (s : Sm) (i₀ b₀ : Nat) (ts : List Int) : Prop where
 i : i₀ < s.hampers.length
 b : b₀ < 13
 t : ts ∈ Ax0 s.doors
 n : ∀ m ∈ s.noses, m.sm = decide (Bjt s i₀ b₀ ts m.pl <= m.hr)
theorem Tr.mem {s : Sm} (ok : SmOk s) {i b : Nat} {ts : List Int} (h : Tr s i b ts) : (i, b, pad6 ts, Aq8 s.doors (s.hampers.getD i 0) (pad6 ts)) ∈ allT s := Ckk ok h.i (by have := h.b; omega) h.t h.n
theorem Bqg {s : Sm} {i b : Nat} {ts : List Int} {p : Int} (h0 : 0 <= p) (h1 : p < s.places) : Bjt s i b ts p = Bzo (gI (Aq8 s.doors (s.hampers.getD i 0) (pad6 ts)) p) b := Bx5 h0 h1
theorem Bqk {s : Sm} (ok : SmOk s) {i : Nat} (hi : i < s.hampers.length) {ts : List Int} (ht : ts ∈ Ax0 s.doors) {p : Int} (h0 : 0 <= p) (h1 : p < s.places) : 0 <= gI (Aq8 s.doors (s.hampers.getD i 0) (pad6 ts)) p /\ (gI (Aq8 s.doors (s.hampers.getD i 0) (pad6 ts)) p = 99 ∨ gI (Aq8 s.doors (s.hampers.getD i 0) (pad6 ts)) p <= 24) := by
 obtain ⟨q0, q1⟩ := Cv4 ok hi
 have h6 := ok.p1
 have hd := Bzp ok q0 q1 ht
 exact ⟨hd.pos p h0 (by omega), hd.small h6 ok.dk (Aks (pl := s.places) ok.dk ht) q0 (by omega) h0 (by omega)⟩
theorem Bkx {s : Sm} (ok : SmOk s) {i b : Nat} {t c : List Int} (h : (i, b, t, c) ∈ allT s) : ∃ ts, Tr s i b ts /\ t = pad6 ts /\ c = Aq8 s.doors (s.hampers.getD i 0) (pad6 ts) := by
 obtain ⟨ts, h1, h2, h3, h4, h5, h6⟩ := Ckx ok h
 refine ⟨ts, ⟨h4, h5, h1, fun n hm => ?_⟩, h2, h3⟩
 have hn := ((Cze fun n hn => (ok.nk n hn).h1).1 h6).2.2 n hm
 have hk := ok.nk n hm
 subst h3
 unfold Cq0 at hn
 rw [hn, Bqg hk.p0 hk.p1]
 rw [decide_eq_decide]
 have := hk.h1
 have := Bqk ok h4 h1 hk.p0 hk.p1
 unfold Bzo
 split <;> constructor <;> intro <;> omega
theorem Cv2 {s : Sm} (ok : SmOk s) {i b : Nat} (hi : i < s.hampers.length) (hb : b < 13) : fitS s i b ≠ [] ↔ ∃ ts, Tr s i b ts := by
 constructor
 ·intro h
  obtain ⟨⟨t, c⟩, hx⟩ := List.exists_mem_of_ne_nil _ h
  obtain ⟨ts, h1, _⟩ := Bkx ok ((Ak2 s i b t c).2 ⟨hi, hb, hx⟩)
  exact ⟨ts, h1⟩
 ·rintro ⟨ts, h⟩
  exact List.ne_nil_of_mem ((Ak2 s i b _ _).1 (h.mem ok)).2.2
theorem Bvy {s : Sm} (ok : SmOk s) : susp s ≠ [] ↔ ∃ i b ts, Tr s i b ts := by
 rw [ne_eq, Dxy]
 constructor
 ·intro h
  obtain ⟨⟨i, b, t, c⟩, hx⟩ := List.exists_mem_of_ne_nil _ h
  obtain ⟨ts, h1, _⟩ := Bkx ok hx
  exact ⟨i, b, ts, h1⟩
 ·rintro ⟨i, b, ts, h⟩
  exact List.ne_nil_of_mem (h.mem ok)
theorem Dxc {s : Sm} (ok : SmOk s) : Azi s ≠ 0 ↔ ∃ i b ts, Tr s i b ts := by
 rw [<- Bvy ok, Avi, ne_eq, List.length_eq_zero_iff]
theorem Ck1 {s : Sm} {i b : Nat} {ts : List Int} (ok : SmOk s) (h : Tr s i b ts) {ps : List Int} (hp : ∀ p ∈ ps, 0 <= p /\ p < s.places) {hr : Int} (h0 : 0 <= hr) (h1 : hr <= 12) : begE s ps hr = 0 := by
 unfold begE
 rw [if_neg, if_neg (by omega), if_neg ((Dxc ok).2 ⟨i, b, ts, h⟩)]
 simp only [List.any_eq_true, Bool.or_eq_true, decide_eq_true_eq, not_exists, not_and]
 intro p hm
 have := hp p hm
 omega
theorem Dx5 {s : Sm} (ok : SmOk s) {p : Int} (h0 : 0 <= p) (h1 : p < s.places) (hne : ∃ i b ts, Tr s i b ts) {k : Int} (hk : k <= 98) : (arrL (susp s) p).lo <= k ↔ ∃ i b ts, Tr s i b ts /\ Bjt s i b ts p <= k := by
 rw [(Bqc ok h0 h1 ((Bvy ok).2 hne)).lo_iff]
 constructor
 ·rintro ⟨x, hx, hle⟩
  obtain ⟨⟨i, b, t, c⟩, hm, rfl⟩ := List.mem_map.1 hx
  obtain ⟨ts, h2, rfl, rfl⟩ := Bkx ok hm
  refine ⟨i, b, ts, h2, ?_⟩
  have := Bqk ok h2.i h2.t h0 h1
  have := h2.b
  rw [Bqg h0 h1]
  unfold Bzo
  simp only at hle
  split <;> omega
 ·rintro ⟨i, b, ts, h2, hle⟩
  refine ⟨_, List.mem_map.2 ⟨_, h2.mem ok, rfl⟩, ?_⟩
  rw [Bqg h0 h1] at hle
  unfold Bzo at hle
  simp only
  split at hle <;> omega
theorem Dky {s : Sm} (ok : SmOk s) {p : Int} (h0 : 0 <= p) (h1 : p < s.places) (hne : ∃ i b ts, Tr s i b ts) {k : Int} (hk : k <= 98) : (arrL (susp s) p).hi <= k ↔ ∀ i b ts, Tr s i b ts -> Bjt s i b ts p <= k := by
 have hb := Bqc ok h0 h1 ((Bvy ok).2 hne)
 constructor
 ·intro h i b ts h2
  have h3 := (hb.all _ (List.mem_map.2 ⟨_, h2.mem ok, rfl⟩)).2
  simp only at h3
  have := Bqk ok h2.i h2.t h0 h1
  have := h2.b
  rw [Bqg h0 h1]
  unfold Bzo
  split <;> omega
 ·intro h
  obtain ⟨⟨i, b, t, c⟩, hm, he⟩ := List.mem_map.1 hb.hi
  obtain ⟨ts, h2, rfl, rfl⟩ := Bkx ok hm
  have h3 := h i b ts h2
  rw [Bqg h0 h1] at h3
  unfold Bzo at h3
  have := Bqk ok h2.i h2.t h0 h1
  simp only at he
  split at h3 <;> omega
theorem Dx4 {s : Sm} (ok : SmOk s) {p : Int} (h0 : 0 <= p) (h1 : p < s.places) (hne : ∃ i b ts, Tr s i b ts) : (arrL (susp s) p).lo <= (arrL (susp s) p).hi := by
 have hb := Bqc ok h0 h1 ((Bvy ok).2 hne)
 exact (hb.all _ hb.lo).2
theorem verd_always {s : Sm} (ok : SmOk s) {p : Int} (h0 : 0 <= p) (h1 : p < s.places) (hne : ∃ i b ts, Tr s i b ts) {h : Int} (hh : h <= 12) : Bxi (arrL (susp s) p) h = 1 ↔ ∀ i b ts, Tr s i b ts -> Bjt s i b ts p <= h := by
 rw [<- Dky ok h0 h1 hne (by omega)]
 have := Dx4 ok h0 h1 hne
 unfold Bxi
 split
 ·constructor <;> intro <;> omega
 ·split <;> constructor <;> intro <;> omega
theorem verd_never {s : Sm} (ok : SmOk s) {p : Int} (h0 : 0 <= p) (h1 : p < s.places) (hne : ∃ i b ts, Tr s i b ts) {h : Int} (hh : h <= 12) : Bxi (arrL (susp s) p) h = 2 ↔ ∀ i b ts, Tr s i b ts -> h < Bjt s i b ts p := by
 have hlo := Dx5 ok h0 h1 hne (k := h) (by omega)
 have := Dx4 ok h0 h1 hne
 have key : (∀ i b ts, Tr s i b ts -> h < Bjt s i b ts p) ↔ ¬ (arrL (susp s) p).lo <= h := by
  rw [hlo]
  constructor
  ·rintro g ⟨i, b, ts, g1, g2⟩
   have := g i b ts g1
   omega
  ·intro g i b ts g1
   by_cases hc : Bjt s i b ts p <= h
   ·exact absurd ⟨i, b, ts, g1, hc⟩ g
   ·omega
 rw [key]
 unfold Bxi
 split
 ·constructor <;> intro <;> omega
 ·split <;> constructor <;> intro <;> omega
theorem verd_in (b : Bd) (h : Int) : Bxi b h = 1 ∨ Bxi b h = 2 ∨ Bxi b h = 3 := by
 unfold Bxi
 split
 ·exact .inr (.inr rfl)
 ·split
  ·exact .inr (.inl rfl)
  ·exact .inl rfl
theorem safe_tr {s : Sm} (ok : SmOk s) {p : Int} (h0 : 0 <= p) (h1 : p < s.places) (hne : ∃ i b ts, Tr s i b ts) {k : Int} (hk : k <= 12) : k <= Bye s p ↔ ∀ i b ts, Tr s i b ts -> k < Bjt s i b ts p := by
 obtain ⟨i, b, ts, ht⟩ := id hne
 unfold Bye
 rw [if_pos (Ck1 ok ht (by simp only [List.mem_cons, List.not_mem_nil, or_false]; rintro _ rfl; exact ⟨h0, h1⟩) (by omega) (by omega))]
 have hlo := Dx5 ok h0 h1 hne (k := k) (by omega)
 constructor
 ·intro g i b ts g1
  by_cases hc : Bjt s i b ts p <= k
  ·have := hlo.2 ⟨i, b, ts, g1, hc⟩
   omega
  ·omega
 ·intro g
  have : ¬ (arrL (susp s) p).lo <= k := by
   rw [hlo]
   rintro ⟨i, b, ts, g1, g2⟩
   have := g i b ts g1
   omega
  omega
theorem safe_le {s : Sm} {p : Int} (h : begE s [p] 0 = 0) : Bye s p <= 12 := by
 unfold Bye
 rw [if_pos h]
 omega
theorem Bkq {α : Type} [BEq α] [LawfulBEq α] : ∀ {l l' : List α}, l.Nodup -> (∀ x ∈ l, x ∈ l') -> l.length <= l'.length
 | [], _, _, _ => Nat.zero_le _
 | x :: l, l', hn, h => by
  rw [List.nodup_cons] at hn
  have hx := h x List.mem_cons_self
  have ih := Bkq (l := l) (l' := l'.erase x) hn.2 fun y hy => (List.mem_erase_of_ne fun e : y = x => hn.1 (by rw [<- e]; exact hy)).2 (h y (List.mem_cons_of_mem _ hy))
  rw [List.length_erase_of_mem hx] at ih
  have := List.length_pos_of_mem hx
  simp only [List.length_cons]
  omega
theorem Bkr {α β : Type} {f : α -> β} : ∀ {l : List α}, (∀ x ∈ l, ∀ y ∈ l, f x = f y -> x = y) -> l.Nodup -> (l.map f).Nodup
 | [], _, _ => List.nodup_nil
 | x :: l, h, hn => by
  rw [List.nodup_cons] at hn
  rw [List.map_cons, List.nodup_cons]
  refine ⟨fun hm => ?_, Bkr (fun y hy z hz => h y (List.mem_cons_of_mem _ hy) z (List.mem_cons_of_mem _ hz)) hn.2⟩
  obtain ⟨y, hy, e⟩ := List.mem_map.1 hm
  have := h y (List.mem_cons_of_mem _ hy) x List.mem_cons_self e
  exact hn.1 (this ▸ hy)
def suLt (x y : Int × Int × Hint) : Prop := x.1 < y.1 ∨ (x.1 = y.1 /\ x.2.1 < y.2.1)
theorem Dxx (t : Trail) : (Awp t).Pairwise suLt := by
 unfold Awp
 rw [List.pairwise_map]
 refine List.Pairwise.filter _ ?_
 rw [List.pairwise_iff_getElem]
 intro i j hi hj hij
 refine .inr ⟨rfl, ?_⟩
 simp only [List.getElem_zipIdx]
 omega
theorem Byp {t : Trail} {x : Int × Int × Hint} (h : x ∈ Awp t) : x.1 = t.ham := by
 unfold Awp at h
 obtain ⟨y, _, rfl⟩ := List.mem_map.1 h
 rfl
theorem Dkp (s : Sm) : (susp s).Pairwise suLt := by
 unfold susp Az4
 rw [List.pairwise_flatMap]
 refine ⟨fun t _ => Dxx t, ?_⟩
 unfold Axo
 rw [List.pairwise_map, List.pairwise_iff_getElem]
 intro i j hi hj hij x hx y hy
 refine .inl ?_
 rw [Byp hx, Byp hy]
 simp only [List.getElem_range, Azp]
 omega
def suP (s : Sm) : List (Int × Int) := (susp s).map fun x => (x.1, x.2.1)
theorem Cyb (s : Sm) : (suP s).Nodup := by
 unfold suP List.Nodup
 rw [List.pairwise_map]
 refine (Dkp s).imp fun {x y} h e => ?_
 rw [Prod.mk.injEq] at e
 rcases h with h | ⟨_, h⟩ <;> omega
theorem Cw9 (s : Sm) : (suP s).length = Azi s := by rw [Avi]; simp [suP]
theorem Cya {s : Sm} (ok : SmOk s) {i b : Int} : (i, b) ∈ suP s ↔ 0 <= i /\ 0 <= b /\ ∃ ts, Tr s i.toNat b.toNat ts := by
 unfold suP
 rw [List.mem_map]
 constructor
 ·rintro ⟨x, hx, he⟩
  obtain ⟨j, c, hj, hc, hne, rfl⟩ := (Av0 s x).1 hx
  rw [Prod.mk.injEq] at he
  obtain ⟨rfl, rfl⟩ := he
  exact ⟨by simp only; omega, by simp only; omega, (Cv2 ok hj hc).1 hne⟩
 ·rintro ⟨h0, h1, ts, ht⟩
  refine ⟨_, (Av0 s _).2 ⟨i.toNat, b.toNat, ht.i, ht.b, (Cv2 ok ht.i ht.b).2 ⟨ts, ht⟩, rfl⟩, ?_⟩
  rw [Prod.mk.injEq]
  exact ⟨by simp only; omega, by simp only; omega⟩
theorem count_le {s s' : Sm} (ok : SmOk s) (ok' : SmOk s') (f : Int × Int -> Int × Int) (hf : ∀ x ∈ suP s, ∀ y ∈ suP s, f x = f y -> x = y) (h : ∀ i b ts, Tr s i b ts -> f ((i : Int), (b : Int)) ∈ suP s') : Azi s <= Azi s' := by
 rw [<- Cw9, <- Cw9, <- List.length_map (f := f)]
 refine Bkq (Bkr hf (Cyb s)) fun x hx => ?_
 obtain ⟨⟨i, b⟩, hm, rfl⟩ := List.mem_map.1 hx
 obtain ⟨h0, h1, ts, ht⟩ := (Cya ok).1 hm
 have := h _ _ _ ht
 rw [show ((i.toNat : Nat) : Int) = i by omega, show ((b.toNat : Nat) : Int) = b by omega] at this
 exact this
theorem count_sub {s s' : Sm} (ok : SmOk s) (ok' : SmOk s') (h : ∀ i b ts, Tr s i b ts -> ∃ ts', Tr s' i b ts') : Azi s <= Azi s' :=
 count_le ok ok' id (fun _ _ _ _ e => e) fun i b ts ht => by
  obtain ⟨ts', h'⟩ := h i b ts ht
  exact (Cya ok').2 ⟨by omega, by omega, ts', by simpa using h'⟩
theorem begE_p {s : Sm} {i b : Nat} {ts : List Int} (ok : SmOk s) (h : Tr s i b ts) {p : Int} (h0 : 0 <= p) (h1 : p < s.places) {hr : Int} (h2 : 0 <= hr) (h3 : hr <= 12) : begE s [p] hr = 0 :=
 Ck1 ok h (by simp only [List.mem_cons, List.not_mem_nil, or_false]; rintro _ rfl; exact ⟨h0, h1⟩) h2 h3
def Ajv := And.intro (fun H => Aqv (H := H) (P := Tryz.prog) (h := Tryz.zeroValue66)) (And.intro @Bq2 (And.intro @Cvb (And.intro @Ayu (And.intro @Ajj (And.intro @Ayh (fun H => Aqr (H := H) Tryz.sizeOf66))))))
theorem Cyf {a n : Int} (h0 : 0 <= a) (h1 : a < 2 * n) : a.tmod n = if a < n then a else a - n := by
 rw [Int.tmod_eq_emod_of_nonneg h0]
 split
 ·exact Int.emod_eq_of_lt h0 (by omega)
 ·rw [show a = (a - n) + n * 1 by omega, Int.add_mul_emod_self_left, Int.emod_eq_of_lt (by omega) (by omega)]
  omega
theorem Cqn (m : Md) (H : Hp) (b k : Nat) (places wide : Int) (h0 : 2 <= places) (h1 : places <= 6) (w0 : 0 <= wide) (w1 : wide <= 10) (hT : TinI H b (k + 4)) :
  FnX Tryz.prog m 37 #[.pointer (some ⟨b, 0, none⟩), .int .i64 places, .int .i64 wide] H fun e H' => ∃ d : Dr, e = .returned (.agg #[.int .i64 d.a, .int .i64 d.b, .int .i64 d.mn, .int .i64 d.mx]) /\ DrOk places d /\ Lex (some b) H H' /\ TinI H' b k := by
 refine Aqo Tryz.func37 rfl Tryz.ntmps37 (by simp) ?_
 (refine @unH _ (zA Ajv ?_); (repeat refine inC fun hc => ?_); try refine inK fun K hK => ?_)
 (intro db hdb; generalize hG : Hp.set _ db _ = H1; have lH1 := Aqc hG hdb; have vdb := Aqb hG; clear hG)
 have hT1 := hT.le lH1
 have hne := hT.ne hdb
 ((try refine @unH _ (zX Ajv ?_)); (try (refine hK _ _ ?_; clear hK K; try refine @unH _ (zQ ?_))); refine @unH _ (zA Ajv ?_); (repeat refine inC fun hc => ?_); try refine inK fun K hK => ?_)
 refine (Bjz m H1 b (k + 3) (places - 1) (by omega) hT1).runs.mono ?_
 rintro _ H2 ⟨r, r0, r1, rfl, x2, hT2⟩
 have v2 := x2.keeps vdb hne
 clear vdb hT1
 ((try refine @unH _ (zX Ajv ?_)); (try (refine hK _ _ ?_; clear hK K; try refine @unH _ (zQ ?_))); refine @unH _ (zA Ajv ?_); (repeat refine inC fun hc => ?_); try refine inK fun K hK => ?_)
 refine (Bjg m H2 b (k + 2) 1 3 (by omega) (by omega) (by omega) (by omega) hT2).runs.mono ?_
 rintro _ H3 ⟨n, n0, n1, rfl, x3, hT3⟩
 have v3 := x3.keeps v2 hne
 clear v2 hT2
 ((try refine @unH _ (zX Ajv ?_)); (try (refine hK _ _ ?_; clear hK K; try refine @unH _ (zQ ?_))); refine @unH _ (zA Ajv ?_); (repeat refine inC fun hc => ?_); try refine inK fun K hK => ?_)
 refine Axm (fun HX => True) [] (.free 0 (.free 1 (.free 2 (.free 3 (.free 4 (.free 7 (.free 9 (.free 10 (.free 11 (.free 12 (.one 5 (.free 6 (.free 8 (.one 13 (.free 14 (.free 15 (.free 16 (.free 17 (.one 18 .nil))))))))))))))))))) (by kernel_rfl) (by kernel_rfl) (by decide) (by kernel_rfl) ?_; intro K hK
 refine Ax8 fun ops hOz => ?_
 (iterate 10 (refine @unH _ ?_; refine zF Ajv ?_))
 (refine @unH _ ?_; refine zM Ajv ?_)
 refine (Bjg m H3 b (k + 1) 1 (places - 1) (by omega) (by omega) (by omega) (by omega) hT3).runs.mono ?_
 rintro _ H4 ⟨x, q0, q1, rfl, x4, hT4⟩
 have v4 := x4.keeps v3 hne
 clear v3 hT3
 simp -implicitDefEqProofs (disch := omega) only [Azw, Aq3, Aqm]
 refine ⟨.inr fun _ => trivial, ?_⟩
 (iterate 2 (refine @unH _ ?_; refine zF Ajv ?_))
 (refine @unH _ ?_; refine zM Ajv ?_)
 refine (Bjz m H4 b k wide (by omega) hT4).runs.mono ?_
 rintro _ H5 ⟨y, y0, y1, rfl, x5, hT5⟩
 have v5 := x5.keeps v4 hne
 clear v4 hT4
 simp -implicitDefEqProofs (disch := omega) only [Azw, Aq3, Aqm]
 refine ⟨.inr fun _ => trivial, ?_⟩
 (iterate 4 (refine @unH _ ?_; refine zF Ajv ?_))
 (refine @unH _ ?_; refine zM Ajv ?_)
 refine ⟨.inr fun _ => trivial, ?_⟩
 (refine Ajd (hK _ _ ?_); clear hK K; (try simp only [nq, ↓reduceIte, Nat.reduceEqDiff]))
 (refine Axr ?_; (try simp only [nq, ↓reduceIte, Nat.reduceEqDiff]); rw [Aq6, Ax6 Tryz.results37 (by decide) (b := db) (o := 0) rfl Tryz.underlying66 rfl Tryz.sizeOf66]; simp -implicitDefEqProofs (disch := first | omega | (simp only [qd] <;> omega)) only [xq, ↓xp, qc, Nat.reduceAdd, List.range, List.range.loop, fine, Nat.reduceEqDiff, ↓reduceIte, yielded, reduceCtorEq, Nat.reduceLT, Nat.reduceMul, Nat.reduceSub, one, Nat.reduceLeDiff, Aqj, Ajv, Axl, List.extract_toArray])
 refine ⟨⟨r, (r + x).tmod places, n, if n + y < 4 then n + y else 4⟩, rfl, ?_, (((((Lex.of lH1).trans x2).trans x3).trans x4).trans x5).own hdb, hT5.own v5 (Ne.symm hne)⟩
 have e := Cyf (a := r + x) (n := places) (by omega) (by omega)
 generalize (r + x).tmod places = z at e ⊢
 have hz : 0 <= z /\ z < places /\ r ≠ z := by
  rw [e]
  split <;> omega
 refine ⟨r0, by simp only; omega, hz.1, hz.2.1, hz.2.2, n0, ?_, ?_⟩ <;> simp only <;> split <;> omega
end Go.Proofs.YtnfnaehonkbknaaGreatDoor
end
