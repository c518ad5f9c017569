/- Texts SmE SmEv PlanZ SmKp SmCo SmTr SmTs. -/
import Derived.Test.YtnfnaehonkbknaaGreatDoorJ21
set_option linter.defProp false
set_option linter.unusedSimpArgs false
set_option linter.unusedVariables false
set_option maxRecDepth 100000
set_option maxHeartbeats 2000000
section
namespace Go.Proofs.YtnfnaehonkbknaaGreatDoor
open Go Go.X
def Bv4 := And.intro (fun H => Aqv (H := H) (P := Tryz.prog) (h := Tryz.zeroValue46)) (And.intro @Bju (fun H => Aqr (H := H) Tryz.sizeOf46))
def Bv5 := And.intro (fun H => Aqv (H := H) (P := Tryz.prog) (h := Tryz.zeroValue34)) (And.intro @Ajj (fun H => Aqr (H := H) Tryz.sizeOf34))
def Azk := And.intro (fun H => Aqv (H := H) (P := Tryz.prog) (h := Tryz.zeroValue26)) (And.intro @Dzz (And.intro @Bjx (And.intro @Cve (And.intro @Bxx (fun H => Aqr (H := H) Tryz.sizeOf26)))))
def Bv6 := And.intro (fun H => Aqv (H := H) (P := Tryz.prog) (h := Tryz.zeroValue66)) (And.intro @Ajj (And.intro @Ayi (fun H => Aqr (H := H) Tryz.sizeOf66)))
def Ajv := And.intro (fun H => Aqv (H := H) (P := Tryz.prog) (h := Tryz.zeroValue26)) (And.intro @Cvf (And.intro (fun H => Aqr (H := H) Tryz.sizeOf26) (And.intro @Cve (And.intro (fun H => Aqd (H := H) Tryz.underlying26 (i := 3) rfl (off := 3) rfl Tryz.sizeOf24) (And.intro (fun H => Azr (H := H) Tryz.sizeOf24) (fun H => Aqp (H := H) Tryz.underlying26 rfl Tryz.sizeOf26))))))
theorem Bxd (m : Md) (H : Hp) (a b x y : Int) :
  FnX Tryz.prog m 30 #[.int .i64 a, .int .i64 b, .int .i64 x, .int .i64 y] H fun e H' => e = .returned (.agg #[.int .i64 a, .int .i64 b, .int .i64 x, .int .i64 y]) /\ H.le H' := by
 refine Aqo Tryz.func30 rfl Tryz.ntmps30 (by simp) ?_
 (refine @unH _ (zA Bv6 ?_); (repeat refine inC fun hc => ?_); try refine inK fun K hK => ?_)
 (intro rb hrb; generalize hG : Hp.set _ rb _ = H1; have lH1 := Aqc hG hrb; have vrb := Aqb hG; clear hG)
 ((try refine @unH _ (zX Bv6 ?_)); (try (refine hK _ _ ?_; clear hK K; try refine @unH _ (zQ ?_))); refine @unH _ (zA Bv6 ?_); (repeat refine inC fun hc => ?_); try refine inK fun K hK => ?_)
 (refine Axr ?_; (try simp only [nq, ↓reduceIte, Nat.reduceEqDiff]); rw [Aq7, Ax6 Tryz.results30 (by decide) (b := rb) (o := 0) rfl Tryz.underlying66 rfl Tryz.sizeOf66]; simp -implicitDefEqProofs (disch := first | omega | (simp only [qd] <;> omega)) only [xq, ↓xp, qc, Nat.reduceAdd, List.range, List.range.loop, fine, Nat.reduceEqDiff, ↓reduceIte, yielded, reduceCtorEq, Nat.reduceLT, Nat.reduceMul, Nat.reduceSub, one, Nat.reduceLeDiff, Aqj, Bv6, Axk, List.extract_toArray])
 exact Az9 lH1 hrb
theorem Aw8 (m : Md) (H : Hp) (p h : Int) (s : Bool) :
  FnX Tryz.prog m 14 #[.int .i64 p, .int .i64 h, .bool s] H fun e H' => e = .returned (.agg #[.int .i64 p, .int .i64 h, .bool s]) /\ H.le H' := by
 refine Aqo Tryz.func14 rfl Tryz.ntmps14 (by simp) ?_
 (refine @unH _ (zA Bv4 ?_); (repeat refine inC fun hc => ?_); try refine inK fun K hK => ?_)
 (intro rb hrb; generalize hG : Hp.set _ rb _ = H1; have lH1 := Aqc hG hrb; have vrb := Aqb hG; clear hG)
 ((try refine @unH _ (zX Bv4 ?_)); (try (refine hK _ _ ?_; clear hK K; try refine @unH _ (zQ ?_))); refine @unH _ (zA Bv4 ?_); (repeat refine inC fun hc => ?_); try refine inK fun K hK => ?_)
 (refine Axr ?_; (try simp only [nq, ↓reduceIte, Nat.reduceEqDiff]); rw [Aq7, Ax6 Tryz.results14 (by decide) (b := rb) (o := 0) rfl Tryz.underlying46 rfl Tryz.sizeOf46]; simp -implicitDefEqProofs (disch := first | omega | (simp only [qd] <;> omega)) only [xq, ↓xp, qc, Nat.reduceAdd, List.range, List.range.loop, fine, Nat.reduceEqDiff, ↓reduceIte, yielded, reduceCtorEq, Nat.reduceLT, Nat.reduceMul, Nat.reduceSub, one, Nat.reduceLeDiff, Aqj, Bv4, Axk, List.extract_toArray])
 exact Az9 lH1 hrb
theorem Bxc (m : Md) (H : Hp) (a b : Int) :
  FnX Tryz.prog m 24 #[.int .i64 a, .int .i64 b] H fun e H' => e = .returned (.agg #[.int .i64 a, .int .i64 b]) /\ H.le H' := by
 refine Aqo Tryz.func24 rfl Tryz.ntmps24 (by simp) ?_
 (refine @unH _ (zA Bv5 ?_); (repeat refine inC fun hc => ?_); try refine inK fun K hK => ?_)
 (intro rb hrb; generalize hG : Hp.set _ rb _ = H1; have lH1 := Aqc hG hrb; have vrb := Aqb hG; clear hG)
 ((try refine @unH _ (zX Bv5 ?_)); (try (refine hK _ _ ?_; clear hK K; try refine @unH _ (zQ ?_))); refine @unH _ (zA Bv5 ?_); (repeat refine inC fun hc => ?_); try refine inK fun K hK => ?_)
 (refine Axr ?_; (try simp only [nq, ↓reduceIte, Nat.reduceEqDiff]); rw [Aq7, Ax6 Tryz.results24 (by decide) (b := rb) (o := 0) rfl Tryz.underlying34 rfl Tryz.sizeOf34]; simp -implicitDefEqProofs (disch := first | omega | (simp only [qd] <;> omega)) only [xq, ↓xp, qc, Nat.reduceAdd, List.range, List.range.loop, fine, Nat.reduceEqDiff, ↓reduceIte, yielded, reduceCtorEq, Nat.reduceLT, Nat.reduceMul, Nat.reduceSub, one, Nat.reduceLeDiff, Aqj, Bv5, Axk, List.extract_toArray])
 exact Az9 lH1 hrb
theorem Dvi (a b c d a' b' c' d' a2 b2 c2 d2 : Int) : Instr.fill (fun i => some (i * 4, 4)) ((Array.range (3 * 4)).map fun x => (Value.agg #[.int .i64 0, .int .i64 0, .int .i64 0, .int .i64 0]).cells[x % (Value.agg #[.int .i64 0, .int .i64 0, .int .i64 0, .int .i64 0]).cells.size]!) [(0, .agg #[.int .i64 a, .int .i64 b, .int .i64 c, .int .i64 d]), (1, .agg #[.int .i64 a', .int .i64 b', .int .i64 c', .int .i64 d']), (2, .agg #[.int .i64 a2, .int .i64 b2, .int .i64 c2, .int .i64 d2])] = some #[.int .i64 a, .int .i64 b, .int .i64 c, .int .i64 d, .int .i64 a', .int .i64 b', .int .i64 c', .int .i64 d', .int .i64 a2, .int .i64 b2, .int .i64 c2, .int .i64 d2] := by
 kernel_rfl
theorem Dvj (a b a' b' : Int) (c c' : Bool) : Instr.fill (fun i => some (i * 3, 3)) ((Array.range (2 * 3)).map fun x => (Value.agg #[.int .i64 0, .int .i64 0, .bool false]).cells[x % (Value.agg #[.int .i64 0, .int .i64 0, .bool false]).cells.size]!) [(0, .agg #[.int .i64 a, .int .i64 b, .bool c]), (1, .agg #[.int .i64 a', .int .i64 b', .bool c'])] = some #[.int .i64 a, .int .i64 b, .bool c, .int .i64 a', .int .i64 b', .bool c'] := by
 kernel_rfl
theorem Cvb {H : Hp} (a b c d a' b' c' d' a2 b2 c2 d2 : Int) (K : Value -> Hp -> Prop) (E : Value -> Hp -> Prop) :
  wpS Tryz.prog (Instr.buildSlice 23 3 #[(0, .agg #[.int .i64 a, .int .i64 b, .int .i64 c, .int .i64 d]), (1, .agg #[.int .i64 a', .int .i64 b', .int .i64 c', .int .i64 d']), (2, .agg #[.int .i64 a2, .int .i64 b2, .int .i64 c2, .int .i64 d2])]) H K E = ∀ nb, H nb = none -> K (.slice (some ⟨nb, 0, none⟩) 3 3) (H.set nb (.cells #[.int .i64 a, .int .i64 b, .int .i64 c, .int .i64 d, .int .i64 a', .int .i64 b', .int .i64 c', .int .i64 d', .int .i64 a2, .int .i64 b2, .int .i64 c2, .int .i64 d2] 66 (0, 0))) := by
 unfold Instr.buildSlice
 have hn1 : ¬ 3 * 4 > 2 ^ 24 := by decide
 have hn2 : ¬ 3 * 4 = 0 := by decide
 simp only [Aqa, Aqh Tryz.underlying23, Aq0 Tryz.sizeOf66, hn1, hn2, if_false, Axe Tryz.zeroValue66, Aqe]
 rw [Dvi]
 simp only [newRow, newObj, Aqa, wpS, Aqe]
theorem Bk5 {H : Hp} (a b a' b' : Int) (c c' : Bool) (K : Value -> Hp -> Prop) (E : Value -> Hp -> Prop) :
  wpS Tryz.prog (Instr.buildSlice 24 2 #[(0, .agg #[.int .i64 a, .int .i64 b, .bool c]), (1, .agg #[.int .i64 a', .int .i64 b', .bool c'])]) H K E = ∀ nb, H nb = none -> K (.slice (some ⟨nb, 0, none⟩) 2 2) (H.set nb (.cells #[.int .i64 a, .int .i64 b, .bool c, .int .i64 a', .int .i64 b', .bool c'] 46 (0, 0))) := by
 unfold Instr.buildSlice
 have hn1 : ¬ 2 * 3 > 2 ^ 24 := by decide
 have hn2 : ¬ 2 * 3 = 0 := by decide
 simp only [Aqa, Aqh Tryz.underlying24, Aq0 Tryz.sizeOf46, hn1, hn2, if_false, Axe Tryz.zeroValue46, Aqe]
 rw [Dvj]
 simp only [newRow, newObj, Aqa, wpS, Aqe]
def Ajx : Sm := ⟨4, [⟨0, 1, 2, 3⟩, ⟨1, 2, 1, 1⟩, ⟨0, 3, 1, 2⟩], [0, 2], [⟨1, 4, true⟩, ⟨3, 3, false⟩]⟩
def oddS : Sm := ⟨4, [⟨0, 1, 2, 3⟩, ⟨1, 2, 1, 1⟩, ⟨0, 3, 1, 2⟩], [0, 2], [⟨2, 0, true⟩, ⟨2, 1, false⟩]⟩
theorem Bzu : ∀ d ∈ Ajx.doors, DrOk 4 d := fun d hd => by
 simp only [Ajx, List.mem_cons, List.not_mem_nil, or_false] at hd
 rcases hd with rfl | rfl | rfl <;> exact ⟨by decide, by decide, by decide, by decide, by decide, by decide, by decide, by decide⟩
theorem Avu : SmOk Ajx := ⟨by decide, by decide, by decide, Bzu, by decide, by decide, by decide, by decide, by decide, fun n hn => by
 simp only [Ajx, List.mem_cons, List.not_mem_nil, or_false] at hn
 rcases hn with rfl | rfl <;> exact ⟨by decide, by decide, by decide, by decide⟩⟩
theorem Dkb : SmOk oddS := ⟨by decide, by decide, by decide, Bzu, by decide, by decide, by decide, by decide, by decide, fun n hn => by
 simp only [oddS, List.mem_cons, List.not_mem_nil, or_false] at hn
 rcases hn with rfl | rfl <;> exact ⟨by decide, by decide, by decide, by decide⟩⟩
theorem Aj9 (m : Md) (H : Hp) :
  FnX Tryz.prog m 29 #[] H fun e H' => ∃ dv hv nv, e = .returned (smV 4 dv hv nv) /\ SmIn H' dv hv nv Ajx /\ H.le H' := by
 refine Aqo Tryz.func29 rfl Tryz.ntmps29 (by simp) ?_
 (refine @unH _ (zA Azk ?_); (repeat refine inC fun hc => ?_); try refine inK fun K hK => ?_)
 (intro rb hrb; generalize hG : Hp.set _ rb _ = H1; have lH1 := Aqc hG hrb; have vrb := Aqb hG; clear hG)
 ((try refine @unH _ (zX Azk ?_)); (try (refine hK _ _ ?_; clear hK K; try refine @unH _ (zQ ?_))); refine @unH _ (zA Azk ?_); (repeat refine inC fun hc => ?_); try refine inK fun K hK => ?_)
 refine (Bxd m H1 0 1 2 3).runs.mono ?_
 rintro _ H2 ⟨rfl, l12⟩
 have l02 := Hp.le_trans lH1 l12
 have vr2 := l12 _ _ vrb
 clear l12
 ((try refine @unH _ (zX Azk ?_)); (try (refine hK _ _ ?_; clear hK K; try refine @unH _ (zQ ?_))); refine @unH _ (zA Azk ?_); (repeat refine inC fun hc => ?_); try refine inK fun K hK => ?_)
 refine (Bxd m H2 1 2 1 1).runs.mono ?_
 rintro _ H3 ⟨rfl, l23⟩
 have l03 := Hp.le_trans l02 l23
 have vr3 := l23 _ _ vr2
 clear l23 l02 vr2 vrb
 ((try refine @unH _ (zX Azk ?_)); (try (refine hK _ _ ?_; clear hK K; try refine @unH _ (zQ ?_))); refine @unH _ (zA Azk ?_); (repeat refine inC fun hc => ?_); try refine inK fun K hK => ?_)
 refine (Bxd m H3 0 3 1 2).runs.mono ?_
 rintro _ H4 ⟨rfl, l34⟩
 have l04 := Hp.le_trans l03 l34
 have vr4 := l34 _ _ vr3
 clear l34 l03 vr3
 ((try refine @unH _ (zX (And.intro Azk @Cvb) ?_)); (try (refine hK _ _ ?_; clear hK K; try refine @unH _ (zQ ?_))); refine @unH _ (zA (And.intro Azk @Cvb) ?_); (repeat refine inC fun hc => ?_); try refine inK fun K hK => ?_)
 (intro db hdb ib hib; replace hib : (Hp.set _ db _) ib = none := hib; generalize hG : Hp.set _ db _ = H5 at hib ⊢; have lH5 := Aqc hG hdb; have wdb := Aqb hG; clear hG; generalize hG : Hp.set _ ib _ = H6; have lH6 := Aqc hG hib; have vib := Aqb hG; have vdb := lH6 _ _ wdb; have ndbib := Aqq wdb hib; clear hG wdb)
 have l06 := Hp.le_trans l04 (Hp.le_trans lH5 lH6)
 have vr6 := lH6 _ _ (lH5 _ _ vr4)
 clear l04 vr4 hdb hib lH5 lH6
 ((try refine @unH _ (zX Azk ?_)); (try (refine hK _ _ ?_; clear hK K; try refine @unH _ (zQ ?_))); refine @unH _ (zA Azk ?_); (repeat refine inC fun hc => ?_); try refine inK fun K hK => ?_)
 refine (Aw8 m H6 1 4 true).runs.mono ?_
 rintro _ H7 ⟨rfl, l67⟩
 have l07 := Hp.le_trans l06 l67
 have vr7 := l67 _ _ vr6
 have vd7 := l67 _ _ vdb
 have vi7 := l67 _ _ vib
 clear l06 l67 vr6 vdb vib
 ((try refine @unH _ (zX Azk ?_)); (try (refine hK _ _ ?_; clear hK K; try refine @unH _ (zQ ?_))); refine @unH _ (zA Azk ?_); (repeat refine inC fun hc => ?_); try refine inK fun K hK => ?_)
 refine (Aw8 m H7 3 3 false).runs.mono ?_
 rintro _ H8 ⟨rfl, l78⟩
 have l08 := Hp.le_trans l07 l78
 have vr8 := l78 _ _ vr7
 have vd8 := l78 _ _ vd7
 have vi8 := l78 _ _ vi7
 clear l07 l78 vr7 vd7 vi7
 ((try refine @unH _ (zX (And.intro Azk @Bk5) ?_)); (try (refine hK _ _ ?_; clear hK K; try refine @unH _ (zQ ?_))); refine @unH _ (zA (And.intro Azk @Bk5) ?_); (repeat refine inC fun hc => ?_); try refine inK fun K hK => ?_)
 intro nb hnb
 have nrn := Aqq vr8 hnb
 ((try refine @unH _ (zX Azk ?_)); (try (refine hK _ _ ?_; clear hK K; try refine @unH _ (zQ ?_))); refine @unH _ (zA Azk ?_); (repeat refine inC fun hc => ?_); try refine inK fun K hK => ?_)
 generalize hG : Hp.set H8 nb _ = H9
 have l89 := Aqc hG hnb
 have vn9 := Aqb hG
 have vr9 := l89 _ _ vr8
 have vd9 := l89 _ _ vd8
 have vi9 := l89 _ _ vi8
 have l09 := Hp.le_trans l08 l89
 clear hG l89 hnb l08 vr8 vd8 vi8
 have nrd : db ≠ rb := fun e => by rw [e, vr9] at vd9; simp at vd9
 have nri : ib ≠ rb := fun e => by rw [e, vr9] at vi9; simp at vi9
 ((try refine @unH _ (zX Azk ?_)); (try (refine hK _ _ ?_; clear hK K; try refine @unH _ (zQ ?_))); refine @unH _ (zA Azk ?_); (repeat refine inC fun hc => ?_); try refine inK fun K hK => ?_)
 (refine Axr ?_; (try simp only [nq, ↓reduceIte, Nat.reduceEqDiff]); rw [Aq7, Ax6 Tryz.results29 (by decide) (b := rb) (o := 0) rfl Tryz.underlying26 rfl Tryz.sizeOf26]; simp -implicitDefEqProofs (disch := first | omega | (simp only [qd] <;> omega)) only [xq, ↓xp, qc, Nat.reduceAdd, List.range, List.range.loop, fine, Nat.reduceEqDiff, ↓reduceIte, yielded, reduceCtorEq, Nat.reduceLT, Nat.reduceMul, Nat.reduceSub, one, Nat.reduceLeDiff, Aqj, Azk, Axk, List.extract_toArray])
 have hD : SlD H9 (.slice (some ⟨db, 0, none⟩) 3 3) Ajx.doors := SlG.of (by decide) (rows := Ajx.doors.map Bjv) (N := 3) vd9 (fun r hr => by
  obtain ⟨d, _, rfl⟩ := List.mem_map.1 hr
  rfl) (fun j u h => by simp only [List.getElem?_toArray]; exact h) (by decide)
 have hN : SlN H9 (.slice (some ⟨nb, 0, none⟩) 2 2) Ajx.noses := SlG.of (by decide) (rows := Ajx.noses.map Bjz) (N := 2) vn9 (fun r hr => by
  obtain ⟨d, _, rfl⟩ := List.mem_map.1 hr
  rfl) (fun j u h => by simp only [List.getElem?_toArray]; exact h) (by decide)
 have hI : SlI H9 (.slice (some ⟨ib, 0, none⟩) 2 2) Ajx.hampers := ⟨_, 2, rfl, Nat.le_refl _, fun i x hx => ⟨ib, 0, true, _, _, rfl, vi9, by
  rcases i with _ | _ | i
  ·simp only [Ajx, List.getElem?_cons_zero, Option.some.injEq] at hx; subst hx; rfl
  ·simp only [Ajx, List.getElem?_cons_succ, List.getElem?_cons_zero, Option.some.injEq] at hx; subst hx; rfl
  ·simp [Ajx] at hx⟩⟩
 refine ⟨_, _, _, rfl, ⟨hD.move fun x p c fr hx => ⟨p, ?_⟩, hI.move fun x p c fr hx => ?_, hN.move fun x p c fr hx => ⟨p, ?_⟩⟩, Az9 l09 hrb⟩
 ·rw [Aqw (fun e => by rw [e, vr9] at hx; simp at hx)]; exact hx
 ·rw [Aqw (fun e => by rw [e, vr9] at hx; simp at hx)]; exact hx
 ·rw [Aqw (fun e => by rw [e, vr9] at hx; simp at hx)]; exact hx
theorem Dxg (m : Md) (H : Hp) :
  FnX Tryz.prog m 33 #[] H fun e H' => ∃ dv hv nv, e = .returned (smV 4 dv hv nv) /\ SmIn H' dv hv nv oddS /\ H.le H' := by
 refine Aqo Tryz.func33 rfl Tryz.ntmps33 (by simp) ?_
 (refine @unH _ (zA Ajv ?_); (repeat refine inC fun hc => ?_); try refine inK fun K hK => ?_)
 (intro rb hrb; generalize hG : Hp.set _ rb _ = H1; have lH1 := Aqc hG hrb; have vrb := Aqb hG; clear hG)
 ((try refine @unH _ (zX Ajv ?_)); (try (refine hK _ _ ?_; clear hK K; try refine @unH _ (zQ ?_))); refine @unH _ (zA Ajv ?_); (repeat refine inC fun hc => ?_); try refine inK fun K hK => ?_)
 refine (Aj9 m H1).runs.mono ?_
 rintro _ H2 ⟨dv, hv, nv, rfl, hs2, l12⟩
 obtain ⟨da, dc, ha, kc, na, nc, rfl, rfl, rfl, l1, l2, l3⟩ := hs2.forms
 have l02 := Hp.le_trans lH1 l12
 have vr2 := l12 _ _ vrb
 clear l12
 ((try refine @unH _ (zX Ajv ?_)); (try (refine hK _ _ ?_; clear hK K; try refine @unH _ (zQ ?_))); refine @unH _ (zA Ajv ?_); (repeat refine inC fun hc => ?_); try refine inK fun K hK => ?_)
 (intro ob hob; generalize hG : Hp.set _ ob _ = H3; have lH3 := Aqc hG hob; have vob := Aqb hG; clear hG)
 have nro := Aqq vr2 hob
 have hs3 := hs2.le lH3
 have l03 := Hp.le_trans l02 lH3
 have f0o := Hp.le_none l02 hob
 have vr3 := lH3 _ _ vr2
 clear l02 lH3 vr2 hs2 hob vrb lH1
 ((try refine @unH _ (zX Ajv ?_)); (try (refine hK _ _ ?_; clear hK K; try refine @unH _ (zQ ?_))); refine @unH _ (zA Ajv ?_); (repeat refine inC fun hc => ?_); try refine inK fun K hK => ?_)
 refine (Aw8 m H3 2 0 true).runs.mono ?_
 rintro _ H4 ⟨rfl, l34⟩
 have l04 := Hp.le_trans l03 l34
 have vr4 := l34 _ _ vr3
 have vo4 := l34 _ _ vob
 have hs4 := hs3.le l34
 clear l03 l34 vr3 vob hs3
 ((try refine @unH _ (zX Ajv ?_)); (try (refine hK _ _ ?_; clear hK K; try refine @unH _ (zQ ?_))); refine @unH _ (zA Ajv ?_); (repeat refine inC fun hc => ?_); try refine inK fun K hK => ?_)
 refine (Aw8 m H4 2 1 false).runs.mono ?_
 rintro _ H5 ⟨rfl, l45⟩
 have l05 := Hp.le_trans l04 l45
 have vr5 := l45 _ _ vr4
 have vo5 := l45 _ _ vo4
 have hs5 := hs4.le l45
 clear l04 l45 vr4 vo4 hs4
 ((try refine @unH _ (zX (And.intro Ajv @Bk5) ?_)); (try (refine hK _ _ ?_; clear hK K; try refine @unH _ (zQ ?_))); refine @unH _ (zA (And.intro Ajv @Bk5) ?_); (repeat refine inC fun hc => ?_); try refine inK fun K hK => ?_)
 intro nb hnb
 have nrn := Aqq vr5 hnb
 have non := Aqq vo5 hnb
 ((try refine @unH _ (zX Ajv ?_)); (try (refine hK _ _ ?_; clear hK K; try refine @unH _ (zQ ?_))); refine @unH _ (zA Ajv ?_); (repeat refine inC fun hc => ?_); try refine inK fun K hK => ?_)
 generalize hG : Hp.set H5 nb _ = H6
 have l56 := Aqc hG hnb
 have vn6 := Aqb hG
 have vr6 := l56 _ _ vr5
 have vo6 := l56 _ _ vo5
 have hs6 := hs5.le l56
 have l06 := Hp.le_trans l05 l56
 clear hG l56 hnb l05 vr5 vo5 hs5
 (refine Axr ?_; (try simp only [nq, ↓reduceIte, Nat.reduceEqDiff]); rw [Aq7, Ax6 Tryz.results33 (by decide) (b := rb) (o := 0) rfl Tryz.underlying26 rfl Tryz.sizeOf26]; simp -implicitDefEqProofs (disch := first | omega | (simp only [qd] <;> omega)) only [xq, ↓xp, qc, Nat.reduceAdd, List.range, List.range.loop, fine, Nat.reduceEqDiff, ↓reduceIte, yielded, reduceCtorEq, Nat.reduceLT, Nat.reduceMul, Nat.reduceSub, one, Nat.reduceLeDiff, Aqj, Ajv, Axk, List.extract_toArray])
 have hN : SlN H6 (.slice (some ⟨nb, 0, none⟩) 2 2) oddS.noses := SlG.of (by decide) (rows := oddS.noses.map Bjz) (N := 2) vn6 (fun r hr => by
  obtain ⟨d, _, rfl⟩ := List.mem_map.1 hr
  rfl) (fun j u h => by simp only [List.getElem?_toArray]; exact h) (by decide)
 refine ⟨_, _, _, rfl, ⟨hs6.dd.move fun x p c fr hx => ⟨p, ?_⟩, hs6.hh.move fun x p c fr hx => ?_, hN.move fun x p c fr hx => ⟨p, ?_⟩⟩, Az9 (Az9 l06 f0o) hrb⟩
 ·rw [Aqw (fun e => by rw [e, vr6] at hx; simp at hx), Aqw (fun e => by rw [e, vo6] at hx; simp at hx)]; exact hx
 ·rw [Aqw (fun e => by rw [e, vr6] at hx; simp at hx), Aqw (fun e => by rw [e, vo6] at hx; simp at hx)]; exact hx
 ·rw [Aqw (fun e => by rw [e, vr6] at hx; simp at hx), Aqw (fun e => by rw [e, vo6] at hx; simp at hx)]; exact hx
theorem Dqe : reaE Ajx 2 3 = (4, 6, 0) := by kernel_rfl
theorem Dqc : Az1 Ajx = 5 := by kernel_rfl
theorem Dqf : sinE Ajx 1 = (0, 3, 0) := by kernel_rfl
theorem Dva : begE Ajx [0] 3 = 0 := by kernel_rfl
theorem Djx : Cyh Ajx 0 3 = 3 := by kernel_rfl
theorem Dqb : comE Ajx 3 = (4, 9, 0) := by kernel_rfl
theorem Dqh : wroF oddS = [0] := by kernel_rfl
theorem Dqg : snE Ajx 2 = (1, 3, 0) := by kernel_rfl
theorem Dqd : fstE Ajx = (0, 2, [2, 1, 2], 0) := by kernel_rfl
end Go.Proofs.YtnfnaehonkbknaaGreatDoor
end
section
namespace Go.X
open Go
section
variable {P : Program} {main : Md} {lp : Option Nat} {Q : Exit -> Act -> Hp -> Prop} {S : Hp -> Prop} {ts : List Nat} {p : PV} {a : Act} {H : Hp} {l ops : List Oper} {i : Nat}
 {d : Option Tmp} {op : Op} {ty : TypeId} {pos : String} {af : Array Edge} {v : Value} {j : Nat} {b : Bool} {t : Tmp}
structure Bjs (l ops : List Oper) : Prop where
 nth : ∀ i : Nat, ops[i]? = l[i]?
theorem Ax8 (h : ∀ ops, Bjs l ops -> Azv P main lp ops.toArray Q S ts p a H) : Azv P main lp l.toArray Q S ts p a H := h l ⟨fun _ => rfl⟩
theorem Bjs.guard (hO : Bjs l ops) {o oj : Oper} (hg : o.guard = some (j, b)) (hj : l[j]? = some oj) (hd : oj.dst = some t) (hv : a.tmps[t]? = some (.bool b)) : Region.wanted o (yielded ops.toArray a.tmps) = true := by
 unfold Region.wanted
 rw [hg]
 simp only [Bxw, hO.nth, hj, Option.bind_some, hd, hv, Cz6, beq_self_eq_true]
theorem Ckc (hO : Bjs l ops) (ho : l[i]? = some ⟨d, op, ty, pos, af, none⟩) (hf : fine lp ⟨d, op, ty, pos, af, none⟩ = true)
  (h : ∀ H' : Hp, wpS P (execOp a.eval ⟨d, op, ty, pos, af, none⟩) H' (YN P main v H') fun _ _ => False) (hk : Azv P main lp ops.toArray Q S ts p (a.put d v) H) : Azv P main lp ops.toArray Q S ts (.free i p) a H :=
 Bxb ((hO.nth i).trans ho) rfl hf h hk
theorem Cq5 {oj : Oper} (hO : Bjs l ops) (ho : l[i]? = some ⟨d, op, ty, pos, af, some (j, b)⟩) (hf : fine lp ⟨d, op, ty, pos, af, some (j, b)⟩ = true) (hj : l[j]? = some oj) (hd : oj.dst = some t) (hv : a.tmps[t]? = some (.bool b))
  (h : ∀ H' : Hp, wpS P (execOp a.eval ⟨d, op, ty, pos, af, some (j, b)⟩) H' (YN P main v H') fun _ _ => False) (hk : Azv P main lp ops.toArray Q S ts p (a.put d v) H) : Azv P main lp ops.toArray Q S ts (.free i p) a H :=
 Bxb ((hO.nth i).trans ho) (hO.guard rfl hj hd hv) hf h hk
theorem Ay0 {oj : Oper} (hO : Bjs l ops) (ho : l[i]? = some ⟨d, op, ty, pos, af, some (j, b)⟩) (hf : fine lp ⟨d, op, ty, pos, af, some (j, b)⟩ = true) (hj : l[j]? = some oj) (hd : oj.dst = some t) (hv : a.tmps[t]? = some (.bool b))
  (hS : S H) (h : ∀ H' : Hp, S H' -> wpS P (execOp a.eval ⟨d, op, ty, pos, af, some (j, b)⟩) H' (YN P main v H') fun _ _ => False) (hk : Azv P main lp ops.toArray Q S ts p (a.put d v) H) : Azv P main lp ops.toArray Q S ts (.take i p) a H :=
 Axd ((hO.nth i).trans ho) (hO.guard rfl hj hd hv) hf hS h hk
theorem Ckd {oj : Oper} (hO : Bjs l ops) (ho : l[i]? = some ⟨d, op, ty, pos, af, some (j, b)⟩) (hf : fine lp ⟨d, op, ty, pos, af, some (j, b)⟩ = true) (hj : l[j]? = some oj) (hd : oj.dst = some t) (hv : a.tmps[t]? = some (.bool b))
  (h : opX P main lp ⟨d, op, ty, pos, af, some (j, b)⟩ a H (fun a' H' => (i ∈ ts ∨ (S H -> S H')) /\ Azv P main lp ops.toArray Q S ts p a' H') Q) : Azv P main lp ops.toArray Q S ts (.one i p) a H := by
 refine Aqx ?_
 rw [Cq1]
 simp only [List.getElem?_toArray, hO.nth, ho, hO.guard (o := ⟨d, op, ty, pos, af, some (j, b)⟩) rfl hj hd hv, if_true]
 exact ⟨hf, h⟩
theorem Bkm (hO : Bjs l ops) (ho : l[i]? = some ⟨d, op, ty, pos, af, none⟩) (hf : fine lp ⟨d, op, ty, pos, af, none⟩ = true)
  (hS : S H) (h : ∀ H' : Hp, S H' -> wpS P (execOp a.eval ⟨d, op, ty, pos, af, none⟩) H' (YN P main v H') fun _ _ => False) (hk : Azv P main lp ops.toArray Q S ts p (a.put d v) H) : Azv P main lp ops.toArray Q S ts (.take i p) a H :=
 Axd ((hO.nth i).trans ho) rfl hf hS h hk
theorem Bqw (hO : Bjs l ops) (ho : l[i]? = some ⟨d, op, ty, pos, af, none⟩) (hf : fine lp ⟨d, op, ty, pos, af, none⟩ = true)
  (h : opX P main lp ⟨d, op, ty, pos, af, none⟩ a H (fun a' H' => (i ∈ ts ∨ (S H -> S H')) /\ Azv P main lp ops.toArray Q S ts p a' H') Q) : Azv P main lp ops.toArray Q S ts (.one i p) a H := by
 refine Aqx ?_
 rw [Cq1]
 simp only [List.getElem?_toArray, hO.nth, ho, Region.wanted, if_true]
 exact ⟨hf, h⟩
theorem planZ_skip {oj : Oper} {w : Value} (hO : Bjs l ops) (ho : l[i]? = some ⟨d, op, ty, pos, af, some (j, b)⟩) (hj : l[j]? = some oj) (hd : oj.dst = some t) (hv : a.tmps[t]? = some w) (hw : (ylK (some w) == some b) = false)
  (hk : Azv P main lp ops.toArray Q S ts p (a.put d undef) H) : Azv P main lp ops.toArray Q S ts (.free i p) a H := by
 refine ⟨_, by simpa using (hO.nth i).trans ho, undef, .inr ⟨?_, rfl⟩, hk⟩
 unfold Region.wanted
 simp only [Bxw, hO.nth, hj, Option.bind_some, hd, hv, hw]
theorem Ajd (h : Q .normal a H) : Azv P main lp ops.toArray Q S ts .nil a H := h
end
end Go.X
end
section
namespace Go.X
open Go
theorem Cw0 {P : Program} {H : Hp} {t : TypeId} (h : P.eqGuardType P.depth t = false) (op : BinOp) (x y : Operand) (p q : Array Value) (K : Unit -> Hp -> Prop) (E : Value -> Hp -> Prop) : wpS P (eqGuard op t x y (.agg p) (.agg q)) H K E = K () H := by
 unfold eqGuard
 cases op <;> first | rfl | (simp only [Aqa, Aj5, h, Bool.not_false, if_true]; first | rfl | (simp [Aqa, Aj5, h, Aqe]; done))
theorem Cwx {P : Program} {H : Hp} {ks : TypeId} (h : Key2 P ks .i64 .i64) (a b c d : Int) (K : Value -> Hp -> Prop) (E : Value -> Hp -> Prop) :
  wpS P (binOp .eql ks (.agg #[.int .i64 a, .int .i64 b]) (.agg #[.int .i64 c, .int .i64 d])) H K E = K (.bool (a == c && b == d)) H := by
 simp only [binOp]
 rw [Aqa, Cvw h]
 rfl
end Go.X
namespace Go.Proofs.YtnfnaehonkbknaaGreatDoor
open Go Go.X
def Aql := And.intro @Cvf (And.intro @Dz0 (And.intro (fun H => Aqv (H := H) (P := Tryz.prog) (h := Tryz.zeroValue34)) (And.intro (fun H => Aqr (H := H) Tryz.sizeOf34) (And.intro @Dzu (And.intro @Dzy (And.intro @Dzs (And.intro @Dzr (And.intro @Dz1 (And.intro @Dz2 (And.intro @Dz3 (And.intro @Dzv (And.intro (fun H => Aqp (H := H) Tryz.underlying34 rfl Tryz.sizeOf34) (And.intro @Dzx (And.intro @Azn (And.intro @Dzw @Av6)))))))))))))))
theorem Dxs : Key2 Tryz.prog 34 .i64 .i64 := ⟨⟨_, _, Tryz.underlying34, by decide, by decide, rfl, rfl, ⟨_, Tryz.underlying3⟩, ⟨_, Tryz.underlying3⟩⟩, by kernel_rfl⟩
theorem Ckj : Program.eqGuardType Tryz.prog (Program.depth Tryz.prog) 34 = false := by kernel_rfl
theorem Aq2 {H : Hp} (op : BinOp) (x y : Operand) (p q : Array Value) (K : Unit -> Hp -> Prop) (E : Value -> Hp -> Prop) : wpS Tryz.prog (eqGuard op 34 x y (.agg p) (.agg q)) H K E = K () H := Cw0 Ckj op x y p q K E
theorem Aq1 {H : Hp} (a b c d : Int) (K : Value -> Hp -> Prop) (E : Value -> Hp -> Prop) :
 wpS Tryz.prog (binOp .eql 34 (.agg #[.int .i64 a, .int .i64 b]) (.agg #[.int .i64 c, .int .i64 d])) H K E = K (.bool (a == c && b == d)) H := Cwx Dxs a b c d K E
theorem Bzd {H : Hp} {b n : Nat} {xs : List Int} {c : Array Value} (h : H b = some (true, .cells c 3 (0, 0))) (hc : c = (ints xs).toArray) (hn : n = xs.length := by rfl) : SlI H (.slice (some ⟨b, 0, none⟩) n n) xs := by
 subst hc hn
 refine ⟨_, _, rfl, Nat.le_refl _, fun i x hx => ⟨b, 0, true, _, _, rfl, h, ?_⟩⟩
 rw [Nat.zero_add, List.getElem?_toArray]
 exact Aki hx
theorem smelled_spec (H : Hp) : FnX Tryz.prog (.wg Tryz.prog) 13 #[] H fun e H' => e = .returned (.bool true) /\ H.le H' := by
 refine Aqo (args := []) Tryz.func13 rfl Tryz.ntmps13 (by simp) ?_
 (refine @unH _ (zA Aql ?_); (repeat refine inC fun hc => ?_); try refine inK fun K hK => ?_)
 refine (Aj9 _ H).runs.mono ?_
 rintro _ A1 ⟨dv1, hv1, nv1, rfl, hs1, lA1⟩
 have tA1 := lA1
 clear lA1
 ((try refine @unH _ (zX Aql ?_)); (try (refine hK _ _ ?_; clear hK K; try refine @unH _ (zQ ?_))); refine @unH _ (zA Aql ?_); (repeat refine inC fun hc => ?_); try refine inK fun K hK => ?_)
 refine (Cxd A1 Ajx _ _ _ hs1 Avu 2 3 _).runs.mono ?_
 rintro _ C1 ⟨rfl, lC1⟩
 rw [Dqe]
 clear hs1
 have tC1 := Hp.le_trans tA1 lC1
 clear lC1 tA1
 ((try refine @unH _ (zX Aql ?_)); (try (refine hK _ _ ?_; clear hK K; try refine @unH _ (zQ ?_))); refine @unH _ (zA Aql ?_); (repeat refine inC fun hc => ?_); try refine inK fun K hK => ?_)
 (intro ba hba; generalize hG : Hp.set _ ba _ = D1; have lD1 := Aqc hG hba; have vba := Aqb hG; clear hG)
 have vba_D1 := vba
 clear vba hba
 have tD1 := Hp.le_trans tC1 lD1
 clear lD1 tC1
 ((try refine @unH _ (zX Aql ?_)); (try (refine hK _ _ ?_; clear hK K; try refine @unH _ (zQ ?_))); refine @unH _ (zA Aql ?_); (repeat refine inC fun hc => ?_); try refine inK fun K hK => ?_)
 refine (Aj9 _ D1).runs.mono ?_
 rintro _ A2 ⟨dv2, hv2, nv2, rfl, hs2, lA2⟩
 have vba_A2 := lA2 _ _ vba_D1
 clear vba_D1
 have tA2 := Hp.le_trans tD1 lA2
 clear lA2 tD1
 ((try refine @unH _ (zX Aql ?_)); (try (refine hK _ _ ?_; clear hK K; try refine @unH _ (zQ ?_))); refine @unH _ (zA Aql ?_); (repeat refine inC fun hc => ?_); try refine inK fun K hK => ?_)
 refine (Cxa A2 Ajx _ _ _ hs2 Avu).runs.mono ?_
 rintro _ C2 ⟨rfl, lC2⟩
 have vba_C2 := lC2 _ _ vba_A2
 clear vba_A2
 rw [Dqc]
 clear hs2
 have tC2 := Hp.le_trans tA2 lC2
 clear lC2 tA2
 ((try refine @unH _ (zX Aql ?_)); (try (refine hK _ _ ?_; clear hK K; try refine @unH _ (zQ ?_))); refine @unH _ (zA Aql ?_); (repeat refine inC fun hc => ?_); try refine inK fun K hK => ?_)
 refine (Aj9 _ C2).runs.mono ?_
 rintro _ A3 ⟨dv3, hv3, nv3, rfl, hs3, lA3⟩
 have vba_A3 := lA3 _ _ vba_C2
 clear vba_C2
 have tA3 := Hp.le_trans tC2 lA3
 clear lA3 tC2
 ((try refine @unH _ (zX Aql ?_)); (try (refine hK _ _ ?_; clear hK K; try refine @unH _ (zQ ?_))); refine @unH _ (zA Aql ?_); (repeat refine inC fun hc => ?_); try refine inK fun K hK => ?_)
 refine (Cxe A3 Ajx _ _ _ hs3 Avu 1).runs.mono ?_
 rintro _ C3 ⟨rfl, lC3⟩
 have vba_C3 := lC3 _ _ vba_A3
 clear vba_A3
 rw [Dqf]
 clear hs3
 have tC3 := Hp.le_trans tA3 lC3
 clear lC3 tA3
 ((try refine @unH _ (zX Aql ?_)); (try (refine hK _ _ ?_; clear hK K; try refine @unH _ (zQ ?_))); refine @unH _ (zA Aql ?_); (repeat refine inC fun hc => ?_); try refine inK fun K hK => ?_)
 (intro bb hbb; generalize hG : Hp.set _ bb _ = D3; have lD3 := Aqc hG hbb; have vbb := Aqb hG; clear hG)
 have vba_D3 := lD3 _ _ vba_C3
 clear vba_C3
 have vbb_D3 := vbb
 clear vbb hbb
 have tD3 := Hp.le_trans tC3 lD3
 clear lD3 tC3
 ((try refine @unH _ (zX Aql ?_)); (try (refine hK _ _ ?_; clear hK K; try refine @unH _ (zQ ?_))); refine @unH _ (zA Aql ?_); (repeat refine inC fun hc => ?_); try refine inK fun K hK => ?_)
 refine (Aj9 _ D3).runs.mono ?_
 rintro _ A4 ⟨dv4, hv4, nv4, rfl, hs4, lA4⟩
 have vba_A4 := lA4 _ _ vba_D3
 have vbb_A4 := lA4 _ _ vbb_D3
 clear vba_D3 vbb_D3
 have tA4 := Hp.le_trans tD3 lA4
 clear lA4 tD3
 ((try refine @unH _ (zX Aql ?_)); (try (refine hK _ _ ?_; clear hK K; try refine @unH _ (zQ ?_))); refine @unH _ (zA Aql ?_); (repeat refine inC fun hc => ?_); try refine inK fun K hK => ?_)
 refine (Bvu A4 Ajx _ _ _ hs4 Avu 0 3).runs.mono ?_
 rintro _ C4 ⟨rfl, lC4⟩
 have vba_C4 := lC4 _ _ vba_A4
 have vbb_C4 := lC4 _ _ vbb_A4
 clear vba_A4 vbb_A4
 rw [Djx, Dva]
 clear hs4
 have tC4 := Hp.le_trans tA4 lC4
 clear lC4 tA4
 ((try refine @unH _ (zX Aql ?_)); (try (refine hK _ _ ?_; clear hK K; try refine @unH _ (zQ ?_))); refine @unH _ (zA Aql ?_); (repeat refine inC fun hc => ?_); try refine inK fun K hK => ?_)
 refine (Aj9 _ C4).runs.mono ?_
 rintro _ A5 ⟨dv5, hv5, nv5, rfl, hs5, lA5⟩
 have vba_A5 := lA5 _ _ vba_C4
 have vbb_A5 := lA5 _ _ vbb_C4
 clear vba_C4 vbb_C4
 have tA5 := Hp.le_trans tC4 lA5
 clear lA5 tC4
 ((try refine @unH _ (zX Aql ?_)); (try (refine hK _ _ ?_; clear hK K; try refine @unH _ (zQ ?_))); refine @unH _ (zA Aql ?_); (repeat refine inC fun hc => ?_); try refine inK fun K hK => ?_)
 refine (Cq9 A5 Ajx _ _ _ hs5 Avu 3).runs.mono ?_
 rintro _ C5 ⟨rfl, lC5⟩
 have vba_C5 := lC5 _ _ vba_A5
 have vbb_C5 := lC5 _ _ vbb_A5
 clear vba_A5 vbb_A5
 rw [Dqb]
 clear hs5
 have tC5 := Hp.le_trans tA5 lC5
 clear lC5 tA5
 ((try refine @unH _ (zX Aql ?_)); (try (refine hK _ _ ?_; clear hK K; try refine @unH _ (zQ ?_))); refine @unH _ (zA Aql ?_); (repeat refine inC fun hc => ?_); try refine inK fun K hK => ?_)
 (intro bc hbc; generalize hG : Hp.set _ bc _ = D5; have lD5 := Aqc hG hbc; have vbc := Aqb hG; clear hG)
 have vba_D5 := lD5 _ _ vba_C5
 have vbb_D5 := lD5 _ _ vbb_C5
 clear vba_C5 vbb_C5
 have vbc_D5 := vbc
 clear vbc hbc
 have tD5 := Hp.le_trans tC5 lD5
 clear lD5 tC5
 ((try refine @unH _ (zX Aql ?_)); (try (refine hK _ _ ?_; clear hK K; try refine @unH _ (zQ ?_))); refine @unH _ (zA Aql ?_); (repeat refine inC fun hc => ?_); try refine inK fun K hK => ?_)
 refine (Dxg _ D5).runs.mono ?_
 rintro _ A6 ⟨dv6, hv6, nv6, rfl, hs6, lA6⟩
 have vba_A6 := lA6 _ _ vba_D5
 have vbb_A6 := lA6 _ _ vbb_D5
 have vbc_A6 := lA6 _ _ vbc_D5
 clear vba_D5 vbb_D5 vbc_D5
 have tA6 := Hp.le_trans tD5 lA6
 clear lA6 tD5
 ((try refine @unH _ (zX Aql ?_)); (try (refine hK _ _ ?_; clear hK K; try refine @unH _ (zQ ?_))); refine @unH _ (zA Aql ?_); (repeat refine inC fun hc => ?_); try refine inK fun K hK => ?_)
 refine (Cxg A6 oddS _ _ _ hs6 Dkb).runs.mono ?_
 rintro _ C6 ⟨wv, rfl, hw, lC6⟩
 have vba_C6 := lC6 _ _ vba_A6
 have vbb_C6 := lC6 _ _ vbb_A6
 have vbc_C6 := lC6 _ _ vbc_A6
 clear vba_A6 vbb_A6 vbc_A6
 rw [Dqh] at hw
 have hw_C6 := hw
 clear hw
 clear hs6
 have tC6 := Hp.le_trans tA6 lC6
 clear lC6 tA6
 ((try refine @unH _ (zX Aql ?_)); (try (refine hK _ _ ?_; clear hK K; try refine @unH _ (zQ ?_))); refine @unH _ (zA Aql ?_); (repeat refine inC fun hc => ?_); try refine inK fun K hK => ?_)
 refine (Aj9 _ C6).runs.mono ?_
 rintro _ A7 ⟨dv7, hv7, nv7, rfl, hs7, lA7⟩
 have vba_A7 := lA7 _ _ vba_C6
 have vbb_A7 := lA7 _ _ vbb_C6
 have vbc_A7 := lA7 _ _ vbc_C6
 have hw_A7 := hw_C6.le lA7
 clear vba_C6 vbb_C6 vbc_C6 hw_C6
 have tA7 := Hp.le_trans tC6 lA7
 clear lA7 tC6
 ((try refine @unH _ (zX Aql ?_)); (try (refine hK _ _ ?_; clear hK K; try refine @unH _ (zQ ?_))); refine @unH _ (zA Aql ?_); (repeat refine inC fun hc => ?_); try refine inK fun K hK => ?_)
 refine (Cxf A7 Ajx _ _ _ hs7 Avu 2).runs.mono ?_
 rintro _ C7 ⟨rfl, lC7⟩
 have vba_C7 := lC7 _ _ vba_A7
 have vbb_C7 := lC7 _ _ vbb_A7
 have vbc_C7 := lC7 _ _ vbc_A7
 have hw_C7 := hw_A7.le lC7
 clear vba_A7 vbb_A7 vbc_A7 hw_A7
 rw [Dqg]
 clear hs7
 have tC7 := Hp.le_trans tA7 lC7
 clear lC7 tA7
 ((try refine @unH _ (zX Aql ?_)); (try (refine hK _ _ ?_; clear hK K; try refine @unH _ (zQ ?_))); refine @unH _ (zA Aql ?_); (repeat refine inC fun hc => ?_); try refine inK fun K hK => ?_)
 refine (Aj9 _ C7).runs.mono ?_
 rintro _ A8 ⟨dv8, hv8, nv8, rfl, hs8, lA8⟩
 have vba_A8 := lA8 _ _ vba_C7
 have vbb_A8 := lA8 _ _ vbb_C7
 have vbc_A8 := lA8 _ _ vbc_C7
 have hw_A8 := hw_C7.le lA8
 clear vba_C7 vbb_C7 vbc_C7 hw_C7
 have tA8 := Hp.le_trans tC7 lA8
 clear lA8 tC7
 ((try refine @unH _ (zX Aql ?_)); (try (refine hK _ _ ?_; clear hK K; try refine @unH _ (zQ ?_))); refine @unH _ (zA Aql ?_); (repeat refine inC fun hc => ?_); try refine inK fun K hK => ?_)
 refine (Cxb A8 Ajx _ _ _ hs8 Avu).runs.mono ?_
 rintro _ C8 ⟨fv, rfl, hf, lC8⟩
 have vba_C8 := lC8 _ _ vba_A8
 have vbb_C8 := lC8 _ _ vbb_A8
 have vbc_C8 := lC8 _ _ vbc_A8
 have hw_C8 := hw_A8.le lC8
 clear vba_A8 vbb_A8 vbc_A8 hw_A8
 rw [Dqd] at hf ⊢
 have hf_C8 := hf
 clear hf
 clear hs8
 have tC8 := Hp.le_trans tA8 lC8
 clear lC8 tA8
 ((try refine @unH _ (zX Aql ?_)); (try (refine hK _ _ ?_; clear hK K; try refine @unH _ (zQ ?_))); refine @unH _ (zA Aql ?_); (repeat refine inC fun hc => ?_); try refine inK fun K hK => ?_)
 replace hf_C8 : SlI C8 fv [2, 1, 2] := hf_C8
 refine Bkv (fun e => e 1 = .pointer (some ⟨ba, 0, none⟩) /\ e 2 = .int .i64 0 /\ e 3 = .int .i64 5 /\ e 4 = .int .i64 0 /\ e 5 = .pointer (some ⟨bb, 0, none⟩) /\ e 6 = .int .i64 0 /\ e 7 = .int .i64 3 /\ e 8 = .int .i64 0 /\ e 9 = .pointer (some ⟨bc, 0, none⟩) /\ e 10 = .int .i64 0 /\ e 11 = wv /\ e 12 = .int .i64 0 /\ e 13 = .int .i64 1 /\ e 14 = .int .i64 3 /\ e 15 = .int .i64 0 /\ e 16 = .int .i64 0 /\ e 17 = .int .i64 2 /\ e 18 = fv /\ e 19 = .int .i64 0) ⟨rfl, rfl, rfl, rfl, rfl, rfl, rfl, rfl, rfl, rfl, rfl, rfl, rfl, rfl, rfl, rfl, rfl, rfl, rfl⟩ ?_
 rintro e ⟨e1, e2, e3, e4, e5, e6, e7, e8, e9, e10, e11, e12, e13, e14, e15, e16, e17, e18, e19⟩
 simp only [List.append]
 refine Axl (fun HX => C8.le HX) [] (.free 0 (.free 1 (.free 2 (.free 3 (.free 4 (.free 5 (.free 6 (.free 7 (.free 8 (.free 9 (.free 10 (.free 11 (.free 12 (.free 13 (.free 14 (.free 15 (.free 16 (.free 17 (.free 18 (.free 19 (.free 20 (.free 21 (.free 22 (.free 23 (.free 24 (.free 25 (.free 26 (.free 27 (.free 28 (.free 29 (.free 30 (.take 31 (.one 32 (.free 33 (.free 34 (.free 35 (.free 36 (.free 37 (.free 38 (.free 39 (.take 40 (.one 41 (.free 42 (.free 43 (.free 44 (.free 45 (.free 46 (.free 47 (.free 48 (.take 49 (.one 50 (.free 51 (.free 52 (.free 53 (.free 54 (.free 55 (.free 56 (.free 57 (.free 58 (.free 59 (.free 60 (.free 61 (.free 62 (.free 63 (.free 64 (.free 65 (.free 66 (.free 67 (.free 68 (.free 69 (.free 70 (.one 71 (.one 72 (.free 73 (.free 74 (.free 75 (.one 76 (.one 77 (.free 78 (.free 79 .nil)))))))))))))))))))))))))))))))))))))))))))))))))))))))))))))))))))))))))))))))) (by kernel_rfl) (by kernel_rfl) (by decide) (by kernel_rfl) ?_; intro K hK
 have hS0 : C8.le C8 := Hp.le_refl _
 refine Ax8 fun ops hOz => ?_
 (refine @unH _ ?_; refine zF (And.intro Aql (And.intro @Aq2 @Aq1)) ?_)
 (refine @unH _ ?_; refine zF (And.intro Aql (And.intro @Aq2 @Aq1)) ?_)
 (refine @unH _ ?_; refine zF (And.intro Aql (And.intro @Aq2 @Aq1)) ?_)
 (refine @unH _ ?_; refine zG (And.intro Aql (And.intro @Aq2 @Aq1)) ?_)
 (refine @unH _ ?_; refine zG (And.intro Aql (And.intro @Aq2 @Aq1)) ?_)
 (refine @unH _ ?_; refine zF (And.intro Aql (And.intro @Aq2 @Aq1)) ?_)
 (refine @unH _ ?_; refine zF (And.intro Aql (And.intro @Aq2 @Aq1)) ?_)
 (refine @unH _ ?_; refine zG (And.intro Aql (And.intro @Aq2 @Aq1)) ?_)
 (refine @unH _ ?_; refine zG (And.intro Aql (And.intro @Aq2 @Aq1)) ?_)
 (refine @unH _ ?_; refine zF (And.intro Aql (And.intro @Aq2 @Aq1)) ?_)
 (refine @unH _ ?_; refine zF (And.intro Aql (And.intro @Aq2 @Aq1)) ?_)
 (refine @unH _ ?_; refine zG (And.intro Aql (And.intro @Aq2 @Aq1)) ?_)
 (refine @unH _ ?_; refine zG (And.intro Aql (And.intro @Aq2 @Aq1)) ?_)
 (refine @unH _ ?_; refine zF (And.intro Aql (And.intro @Aq2 @Aq1)) ?_)
 (refine @unH _ ?_; refine zF (And.intro Aql (And.intro @Aq2 @Aq1)) ?_)
 (refine @unH _ ?_; refine zG (And.intro Aql (And.intro @Aq2 @Aq1)) ?_)
 (refine @unH _ ?_; refine zG (And.intro Aql (And.intro @Aq2 @Aq1)) ?_)
 (refine @unH _ ?_; refine zF (And.intro Aql (And.intro @Aq2 @Aq1)) ?_)
 (refine @unH _ ?_; refine zF (And.intro Aql (And.intro @Aq2 @Aq1)) ?_)
 (refine @unH _ ?_; refine zG (And.intro Aql (And.intro @Aq2 @Aq1)) ?_)
 (refine @unH _ ?_; refine zG (And.intro Aql (And.intro @Aq2 @Aq1)) ?_)
 (refine @unH _ ?_; refine zF (And.intro Aql (And.intro @Aq2 @Aq1)) ?_)
 (refine @unH _ ?_; refine zF (And.intro Aql (And.intro @Aq2 @Aq1)) ?_)
 (refine @unH _ ?_; refine zG (And.intro Aql (And.intro @Aq2 @Aq1)) ?_)
 (refine @unH _ ?_; refine zG (And.intro Aql (And.intro @Aq2 @Aq1)) ?_)
 (refine @unH _ ?_; refine zF (And.intro Aql (And.intro @Aq2 @Aq1)) ?_)
 (refine @unH _ ?_; refine zF (And.intro Aql (And.intro @Aq2 @Aq1)) ?_)
 (refine @unH _ ?_; refine zG (And.intro Aql (And.intro @Aq2 @Aq1)) ?_)
 (refine @unH _ ?_; refine zG (And.intro Aql (And.intro @Aq2 @Aq1)) ?_)
 (refine @unH _ ?_; refine zF (And.intro Aql (And.intro @Aq2 @Aq1)) ?_)
 (refine @unH _ ?_; refine zF (And.intro Aql (And.intro @Aq2 @Aq1)) ?_)
 (apply Ay0 hOz rfl rfl rfl rfl (by simp -implicitDefEqProofs (disch := omega) only [act_get?, Axn, Nat.reduceEqDiff, ↓reduceIte, beq_self_eq_true, Bool.and_self, *]) ‹_›; (focus (intro HX hHX; simp -implicitDefEqProofs (disch := first | omega | (simp only [qd] <;> omega)) only [xq, ↓xp, qc, Nat.reduceAdd, List.range, List.range.loop, fine, Nat.reduceEqDiff, ↓reduceIte, yielded, reduceCtorEq, Nat.reduceLT, Nat.reduceMul, Nat.reduceSub, one, Nat.reduceLeDiff, Aqj, Aql, aq, ↓ap, qe0, qe1, qe2, *, -hK, Aq9, hHX _ _ vba_C8, Aw3] <;> (first | exact rfl | exact ⟨rfl, rfl⟩ | exact ⟨rfl, trivial⟩))); simp -implicitDefEqProofs (disch := first | omega | (simp only [qd] <;> omega)) only [Aq3, Aqm])
 (refine @unH _ ?_; refine zN (And.intro Aql (And.intro @Aq2 @Aq1)) ?_)
 refine (Bxc _ C8 4 6).runs.mono ?_
 rintro _ E32 ⟨rfl, lE32⟩
 have mE32 : C8.le E32 := lE32
 simp -implicitDefEqProofs (disch := omega) only [Azt, Aq3, Aqm]
 refine ⟨.inr fun _ => (by first | trivial | exact mE32 | exact lE32), ?_⟩
 (refine @unH _ ?_; refine zG (And.intro Aql (And.intro @Aq2 @Aq1)) ?_)
 (refine @unH _ ?_; refine zF (And.intro Aql (And.intro @Aq2 @Aq1)) ?_)
 (refine @unH _ ?_; refine zF (And.intro Aql (And.intro @Aq2 @Aq1)) ?_)
 (refine @unH _ ?_; refine zG (And.intro Aql (And.intro @Aq2 @Aq1)) ?_)
 (refine @unH _ ?_; refine zG (And.intro Aql (And.intro @Aq2 @Aq1)) ?_)
 (refine @unH _ ?_; refine zF (And.intro Aql (And.intro @Aq2 @Aq1)) ?_)
 (refine @unH _ ?_; refine zF (And.intro Aql (And.intro @Aq2 @Aq1)) ?_)
 (apply Ay0 hOz rfl rfl rfl rfl (by simp -implicitDefEqProofs (disch := omega) only [act_get?, Axn, Nat.reduceEqDiff, ↓reduceIte, beq_self_eq_true, Bool.and_self, *]) ‹_›; (focus (intro HX hHX; simp -implicitDefEqProofs (disch := first | omega | (simp only [qd] <;> omega)) only [xq, ↓xp, qc, Nat.reduceAdd, List.range, List.range.loop, fine, Nat.reduceEqDiff, ↓reduceIte, yielded, reduceCtorEq, Nat.reduceLT, Nat.reduceMul, Nat.reduceSub, one, Nat.reduceLeDiff, Aqj, Aql, aq, ↓ap, qe0, qe1, qe2, *, -hK, Aq9, hHX _ _ vbb_C8, Aw3] <;> (first | exact rfl | exact ⟨rfl, rfl⟩ | exact ⟨rfl, trivial⟩))); simp -implicitDefEqProofs (disch := first | omega | (simp only [qd] <;> omega)) only [Aq3, Aqm])
 (refine @unH _ ?_; refine zN (And.intro Aql (And.intro @Aq2 @Aq1)) ?_)
 refine (Bxc _ E32 0 3).runs.mono ?_
 rintro _ E41 ⟨rfl, lE41⟩
 have mE41 : C8.le E41 := Hp.le_trans mE32 lE41
 simp -implicitDefEqProofs (disch := omega) only [Azt, Aq3, Aqm]
 refine ⟨.inr fun _ => (by first | trivial | exact mE41 | exact lE41), ?_⟩
 (refine @unH _ ?_; refine zG (And.intro Aql (And.intro @Aq2 @Aq1)) ?_)
 (refine @unH _ ?_; refine zF (And.intro Aql (And.intro @Aq2 @Aq1)) ?_)
 (refine @unH _ ?_; refine zF (And.intro Aql (And.intro @Aq2 @Aq1)) ?_)
 (refine @unH _ ?_; refine zG (And.intro Aql (And.intro @Aq2 @Aq1)) ?_)
 (refine @unH _ ?_; refine zG (And.intro Aql (And.intro @Aq2 @Aq1)) ?_)
 (refine @unH _ ?_; refine zF (And.intro Aql (And.intro @Aq2 @Aq1)) ?_)
 (refine @unH _ ?_; refine zF (And.intro Aql (And.intro @Aq2 @Aq1)) ?_)
 (apply Ay0 hOz rfl rfl rfl rfl (by simp -implicitDefEqProofs (disch := omega) only [act_get?, Axn, Nat.reduceEqDiff, ↓reduceIte, beq_self_eq_true, Bool.and_self, *]) ‹_›; (focus (intro HX hHX; simp -implicitDefEqProofs (disch := first | omega | (simp only [qd] <;> omega)) only [xq, ↓xp, qc, Nat.reduceAdd, List.range, List.range.loop, fine, Nat.reduceEqDiff, ↓reduceIte, yielded, reduceCtorEq, Nat.reduceLT, Nat.reduceMul, Nat.reduceSub, one, Nat.reduceLeDiff, Aqj, Aql, aq, ↓ap, qe0, qe1, qe2, *, -hK, Aq9, hHX _ _ vbc_C8, Aw3] <;> (first | exact rfl | exact ⟨rfl, rfl⟩ | exact ⟨rfl, trivial⟩))); simp -implicitDefEqProofs (disch := first | omega | (simp only [qd] <;> omega)) only [Aq3, Aqm])
 (refine @unH _ ?_; refine zN (And.intro Aql (And.intro @Aq2 @Aq1)) ?_)
 refine (Bxc _ E41 4 9).runs.mono ?_
 rintro _ E50 ⟨rfl, lE50⟩
 have mE50 : C8.le E50 := Hp.le_trans mE41 lE50
 simp -implicitDefEqProofs (disch := omega) only [Azt, Aq3, Aqm]
 refine ⟨.inr fun _ => (by first | trivial | exact mE50 | exact lE50), ?_⟩
 (refine @unH _ ?_; refine zG (And.intro Aql (And.intro @Aq2 @Aq1)) ?_)
 (refine @unH _ ?_; refine zF (And.intro Aql (And.intro @Aq2 @Aq1)) ?_)
 (refine @unH _ ?_; refine zF (And.intro Aql (And.intro @Aq2 @Aq1)) ?_)
 (refine @unH _ ?_; refine zG (And.intro Aql (And.intro @Aq2 @Aq1)) ?_)
 (refine @unH _ ?_; refine zG (And.intro Aql (And.intro @Aq2 @Aq1)) ?_)
 (refine @unH _ ?_; refine zF (And.intro Aql (And.intro @Aq2 @Aq1)) ?_)
 (refine @unH _ ?_; refine zF (And.intro Aql (And.intro @Aq2 @Aq1)) ?_)
 (refine @unH _ ?_; refine zG (And.intro Aql (And.intro @Aq2 @Aq1)) ?_)
 (refine @unH _ ?_; refine zG (And.intro Aql (And.intro @Aq2 @Aq1)) ?_)
 (refine @unH _ ?_; refine zF (And.intro Aql (And.intro @Aq2 @Aq1)) ?_)
 (refine @unH _ ?_; refine zF (And.intro Aql (And.intro @Aq2 @Aq1)) ?_)
 (refine @unH _ ?_; refine zG (And.intro Aql (And.intro @Aq2 @Aq1)) ?_)
 (refine @unH _ ?_; refine zG (And.intro Aql (And.intro @Aq2 @Aq1)) ?_)
 (refine @unH _ ?_; refine zF (And.intro Aql (And.intro @Aq2 @Aq1)) ?_)
 (refine @unH _ ?_; refine zF (And.intro Aql (And.intro @Aq2 @Aq1)) ?_)
 (refine @unH _ ?_; refine zG (And.intro Aql (And.intro @Aq2 @Aq1)) ?_)
 (refine @unH _ ?_; refine zG (And.intro Aql (And.intro @Aq2 @Aq1)) ?_)
 (refine @unH _ ?_; refine zF (And.intro Aql (And.intro @Aq2 @Aq1)) ?_)
 (refine @unH _ ?_; refine zF (And.intro Aql (And.intro @Aq2 @Aq1)) ?_)
 (refine @unH _ ?_; refine zG (And.intro Aql (And.intro @Aq2 @Aq1)) ?_)
 (refine @unH _ ?_; refine zN (And.intro Aql (And.intro @Aq2 @Aq1)) ?_)
 intro g71 hg71
 generalize hG : Hp.set E50 g71 _ = E71
 have lE71 := Aqc hG hg71
 have vg71 := Aqb hG
 clear hG
 have mE71 : C8.le E71 := Hp.le_trans mE50 lE71
 refine ⟨.inr fun _ => mE71, ?_⟩
 have sl71 : SlI E71 (.slice (some ⟨g71, 0, none⟩) 1 1) [0] := Bzd (xs := [0]) vg71 rfl
 have sw71 : SlI E71 wv [0] := SlI.le hw_C8 mE71
 clear hg71 vg71
 (refine @unH _ ?_; refine zN (And.intro Aql (And.intro @Aq2 @Aq1)) ?_)
 refine (Bqp _ E71 wv _ [0] [0] sw71 sl71 (by decide) (by decide)).runs.mono ?_
 rintro _ HQ ⟨rfl, hHQ⟩
 rw [hHQ]
 clear hHQ HQ
 rw [decide_eq_true rfl]
 clear sl71 sw71
 simp -implicitDefEqProofs (disch := omega) only [Azt, Aq3, Aqm]
 refine ⟨.inr fun _ => mE71, ?_⟩
 (refine @unH _ ?_; refine zF (And.intro Aql (And.intro @Aq2 @Aq1)) ?_)
 (refine @unH _ ?_; refine zF (And.intro Aql (And.intro @Aq2 @Aq1)) ?_)
 (refine @unH _ ?_; refine zG (And.intro Aql (And.intro @Aq2 @Aq1)) ?_)
 (refine @unH _ ?_; refine zN (And.intro Aql (And.intro @Aq2 @Aq1)) ?_)
 intro g76 hg76
 generalize hG : Hp.set E71 g76 _ = E76
 have lE76 := Aqc hG hg76
 have vg76 := Aqb hG
 clear hG
 have mE76 : C8.le E76 := Hp.le_trans mE71 lE76
 refine ⟨.inr fun _ => mE76, ?_⟩
 have sl76 : SlI E76 (.slice (some ⟨g76, 0, none⟩) 3 3) [2, 1, 2] := Bzd (xs := [2, 1, 2]) vg76 rfl
 have sw76 : SlI E76 fv [2, 1, 2] := SlI.le hf_C8 mE76
 clear hg76 vg76
 (refine @unH _ ?_; refine zN (And.intro Aql (And.intro @Aq2 @Aq1)) ?_)
 refine (Bqp _ E76 fv _ [2, 1, 2] [2, 1, 2] sw76 sl76 (by decide) (by decide)).runs.mono ?_
 rintro _ HQ ⟨rfl, hHQ⟩
 rw [hHQ]
 clear hHQ HQ
 rw [decide_eq_true rfl]
 clear sl76 sw76
 simp -implicitDefEqProofs (disch := omega) only [Azt, Aq3, Aqm]
 refine ⟨.inr fun _ => mE76, ?_⟩
 (refine @unH _ ?_; refine zF (And.intro Aql (And.intro @Aq2 @Aq1)) ?_)
 (refine @unH _ ?_; refine zF (And.intro Aql (And.intro @Aq2 @Aq1)) ?_)
 refine Axq (hK _ _ ?_)
 clear hK K
 (try refine @unH _ (zQ ?_))
 (refine @unH _ ?_; refine z9 Tryz.results13 ?_)
 exact ⟨by trivial, Hp.le_trans tC8 mE76⟩
end Go.Proofs.YtnfnaehonkbknaaGreatDoor
end
section
namespace Go.Proofs.YtnfnaehonkbknaaGreatDoor
open Go Go.X
def Bqi (d hr : Int) : Int := if d = 99 then 1000 else hr + d
def Awf (s : Sm) (p hr : Int) (ts : List Int) : List Int := (List.range s.places.toNat).map fun (q : Nat) => Bqi (gI (Aq4 s.doors p (pad6 ts)) q) hr
theorem Bzp (s : Sm) (p hr : Int) (ts : List Int) : (Awf s p hr ts).length = s.places.toNat := by simp [Awf]
theorem Bx5 {s : Sm} {p hr : Int} {ts : List Int} {q : Int} (h0 : 0 <= q) (h1 : q < s.places) : gI (Awf s p hr ts) q = Bqi (gI (Aq4 s.doors p (pad6 ts)) q) hr := by
 unfold gI Awf
 rw [List.getD, List.getElem?_map, List.getElem?_range (by omega)]
 simp only [Option.map_some, Option.getD_some]
 rw [show ((q.toNat : Nat) : Int) = q by omega]
 rfl
structure Awb (E : Int -> Int -> Int -> Prop) (pl p hr : Int) (c : List Int) : Prop where
 len : c.length = pl.toNat
 at0 : gI c p = hr
 att : ∀ q, 0 <= q -> q < pl -> gI c q = 1000 ∨ (gI c q < 1000 /\ Walk E p q (gI c q - hr))
 pos : ∀ q, 0 <= q -> q < pl -> hr <= gI c q
theorem Awb.start (E : Int -> Int -> Int -> Prop) {pl p hr : Int} (h0 : 0 <= p) (h1 : p < pl) (hh : hr <= 12) : Awb E pl p hr ((List.replicate pl.toNat (1000 : Int)).set p.toNat hr) := by
 have hl : ∀ q, 0 <= q -> q < pl -> gI (List.replicate pl.toNat (1000 : Int)) q = 1000 := fun q h0 h1 => by
  unfold gI
  rw [List.getD, List.getElem?_replicate, if_pos (by omega)]
  rfl
 have hg : ∀ q, 0 <= q -> q < pl -> gI ((List.replicate pl.toNat (1000 : Int)).set p.toNat hr) q = if p = q then hr else 1000 := fun q hq0 hq1 => by
  rw [Awh h0 (by simp; omega) hq0, hl q hq0 hq1]
 refine ⟨by simp, by rw [hg p h0 h1, if_pos rfl], fun q hq0 hq1 => ?_, fun q hq0 hq1 => ?_⟩
 ·rw [hg q hq0 hq1]
  split
  ·rename_i h; subst h; refine .inr ⟨by omega, ?_⟩; rw [Int.sub_self]; exact .here
  ·exact .inl rfl
 ·rw [hg q hq0 hq1]; split <;> omega
theorem Awb.le {E : Int -> Int -> Int -> Prop} {pl p hr : Int} {c : List Int} (h : Awb E pl p hr c) {q : Int} (h0 : 0 <= q) (h1 : q < pl) : gI c q <= 1000 := by
 rcases h.att q h0 h1 with h | h <;> omega
theorem Awb.one {E : Int -> Int -> Int -> Prop} {pl p hr : Int} {c : List Int} (h : Awb E pl p hr c) {a b t : Int} (hE : E a b t) (ht : 1 <= t) (ha0 : 0 <= a) (ha1 : a < pl) (hb0 : 0 <= b) (hb1 : b < pl) (h0 : 0 <= p) (h1 : p < pl) (hlt : gI c a + t < gI c b) : Awb E pl p hr (c.set b.toNat (gI c a + t)) := by
 have hl := h.len
 have hg : ∀ q, 0 <= q -> gI (c.set b.toNat (gI c a + t)) q = if b = q then gI c a + t else gI c q := fun q hq => Awh hb0 (by omega) hq
 have pa := h.pos a ha0 ha1
 have lb := h.le hb0 hb1
 refine ⟨by rw [Cw1, hl], ?_, fun q hq0 hq1 => ?_, fun q hq0 hq1 => ?_⟩
 ·rw [hg p h0]
  split
  ·rename_i e; subst e; have := h.at0; omega
  ·exact h.at0
 ·rw [hg q hq0]
  split
  ·rename_i e; subst e
   rcases h.att a ha0 ha1 with h2 | ⟨h2, hw⟩
   ·omega
   ·refine .inr ⟨by omega, ?_⟩
    rw [show gI c a + t - hr = gI c a - hr + t by omega]
    exact hw.step hE
  ·exact h.att q hq0 hq1
 ·rw [hg q hq0]
  split
  ·omega
  ·exact h.pos q hq0 hq1
def sumI (c : List Int) : Int := c.foldr (· + ·) 0
theorem Czx : ∀ (c : List Int) (i : Nat) (v x : Int), c[i]? = some x -> sumI (c.set i v) = sumI c - x + v
 | [], i, v, x, h => by simp at h
 | y :: c, 0, v, x, h => by
  simp at h
  subst h
  simp only [List.set_cons_zero, sumI, List.foldr_cons]
  omega
 | y :: c, i + 1, v, x, h => by
  have := Czx c i v x (by simpa using h)
  simp only [List.set_cons_succ, sumI, List.foldr_cons] at this ⊢
  omega
theorem Cyc : ∀ {c : List Int}, (∀ x ∈ c, 0 <= x) -> 0 <= sumI c
 | [], _ => Int.le_refl _
 | x :: c, h => by
  have h1 := h x List.mem_cons_self
  have := Cyc (c := c) fun y hy => h y (List.mem_cons_of_mem _ hy)
  simp only [sumI, List.foldr_cons] at this ⊢
  omega
theorem Dvk {c : List Int} {x : Int} (h : x ∈ c) : ∃ q : Int, 0 <= q /\ q < c.length /\ gI c q = x := by
 obtain ⟨i, hi, rfl⟩ := List.mem_iff_getElem.1 h
 refine ⟨i, by omega, by omega, ?_⟩
 unfold gI
 simp [List.getD, List.getElem?_eq_getElem hi]
theorem Awb.sum {E : Int -> Int -> Int -> Prop} {pl p hr : Int} {c : List Int} (h : Awb E pl p hr c) (hh : 0 <= hr) : 0 <= sumI c := Cyc fun x hx => by
 obtain ⟨q, h0, h1, rfl⟩ := Dvk hx
 have := h.pos q h0 (by have := h.len; omega)
 omega
theorem Awb.is {s : Sm} (ok : SmOk s) {p hr : Int} {ts c : List Int} (hc : Awb (Edg s.doors ts) s.places p hr c) (ht : ts ∈ Axv s.doors) (hr0 : 0 <= hr) (hr1 : hr <= 12) (h0 : 0 <= p) (h1 : p < s.places) (rel : ∀ a b n, Edg s.doors ts a b n -> gI c b <= gI c a + n) : c = Awf s p hr ts := by
 have hE : ∀ a b n, Edg s.doors (pad6 ts) a b n ↔ Edg s.doors ts a b n := fun a b n => by unfold pad6; exact Ckz (Akq ht) _
 have hd := Ayp ok h0 h1 ht
 have hto := Aka (pl := s.places) ok.dk ht
 have h6 := ok.p1
 apply List.ext_getElem?
 intro i
 by_cases hi : i < s.places.toNat
 ·have g1 := Awg (c := c) (p := (i : Int)) (by omega) (by rw [hc.len]; omega)
  have g2 := Awg (c := Awf s p hr ts) (p := (i : Int)) (by omega) (by rw [Bzp]; omega)
  simp only [Int.toNat_natCast] at g1 g2
  rw [g1, g2, Bx5 (by omega) (by omega)]
  congr 1
  unfold Bqi
  rcases hc.att i (by omega) (by omega) with ha | ⟨ha, hw⟩
  ·rcases hd.att i (by omega) (by omega) with hb | ⟨hb, hv⟩
   ·rw [if_pos hb, ha]
   ·have := Walk.ge hv (c := gI c) fun a b t he => rel a b t ((hE a b t).1 he)
    rw [hc.at0] at this
    omega
  ·have hw' : Walk (Edg s.doors (pad6 ts)) p i (gI c i - hr) := Walk.map (fun x => x) (fun a b t he => (hE a b t).2 he) hw
   obtain ⟨_, _, g3, g4⟩ := hd.walk h6 ok.dk hto h0 (by omega) hw'
   rcases hd.att i (by omega) (by omega) with hb | ⟨hb, hv⟩
   ·omega
   ·have := Walk.ge hv (c := gI c) fun a b t he => rel a b t ((hE a b t).1 he)
    rw [hc.at0] at this
    rw [if_neg (by omega)]
    omega
 ·rw [List.getElem?_eq_none (by rw [hc.len]; omega), List.getElem?_eq_none (by rw [Bzp]; omega)]
theorem Ckp {s : Sm} (ok : SmOk s) {i b : Nat} (hi : i < s.hampers.length) (hb : b <= 12) {ts : List Int} (ht : ts ∈ Axv s.doors) (hn : ∀ n ∈ s.noses, n.sm = decide (gI (Awf s (s.hampers.getD i 0) b ts) n.pl <= n.hr)) :
  (i, b, pad6 ts, Aq4 s.doors (s.hampers.getD i 0) (pad6 ts)) ∈ allT s := by
 refine (Ajo s i b _ _).2 ⟨hi, by omega, ?_⟩
 unfold fitS fitL trL
 rw [List.mem_filter]
 refine ⟨List.mem_map.2 ⟨ts, ht, rfl⟩, (Czg fun n hn => (ok.nk n hn).h1).2 ⟨by omega, by omega, fun n hm => ?_⟩⟩
 have h1 := ok.nk n hm
 obtain ⟨q0, q1⟩ := Czj ok hi
 show n.sm = decide ((b : Int) + gI (Aq4 s.doors (s.hampers.getD i 0) (pad6 ts)) n.pl <= n.hr)
 rw [hn n hm, Bx5 h1.p0 h1.p1, decide_eq_decide]
 have := h1.h1
 have hp := (Ayp ok q0 q1 ht).pos n.pl h1.p0 (by have := ok.p1; have := h1.p1; omega)
 unfold Bqi
 split <;> constructor <;> intro <;> omega
def Avs (s : Sm) (i b : Nat) (ts : List Int) (p : Int) : Int := gI (Awf s (s.hampers.getD i 0) b ts) p
structure Tr (s : Sm) (i₀ b₀ : Nat) (ts : List Int) : Prop where
 i : i₀ < s.hampers.length
 b : b₀ < 13
 t : ts ∈ Axv s.doors
 n : ∀ m ∈ s.noses, m.sm = decide (Avs s i₀ b₀ ts m.pl <= m.hr)
theorem Tr.mem {s : Sm} (ok : SmOk s) {i b : Nat} {ts : List Int} (h : Tr s i b ts) : (i, b, pad6 ts, Aq4 s.doors (s.hampers.getD i 0) (pad6 ts)) ∈ allT s := Ckp ok h.i (by have := h.b; omega) h.t h.n
theorem Akh {s : Sm} {i b : Nat} {ts : List Int} {p : Int} (h0 : 0 <= p) (h1 : p < s.places) : Avs s i b ts p = Bqi (gI (Aq4 s.doors (s.hampers.getD i 0) (pad6 ts)) p) b := Bx5 h0 h1
theorem Aj8 {s : Sm} (ok : SmOk s) {i : Nat} (hi : i < s.hampers.length) {ts : List Int} (ht : ts ∈ Axv s.doors) {p : Int} (h0 : 0 <= p) (h1 : p < s.places) : 0 <= gI (Aq4 s.doors (s.hampers.getD i 0) (pad6 ts)) p /\ (gI (Aq4 s.doors (s.hampers.getD i 0) (pad6 ts)) p = 99 ∨ gI (Aq4 s.doors (s.hampers.getD i 0) (pad6 ts)) p <= 24) := by
 obtain ⟨q0, q1⟩ := Czj ok hi
 have h6 := ok.p1
 have hd := Ayp ok q0 q1 ht
 exact ⟨hd.pos p h0 (by omega), hd.small h6 ok.dk (Aka (pl := s.places) ok.dk ht) q0 (by omega) h0 (by omega)⟩
theorem Bq2 {s : Sm} (ok : SmOk s) {i b : Nat} {t c : List Int} (h : (i, b, t, c) ∈ allT s) : ∃ ts, Tr s i b ts /\ t = pad6 ts /\ c = Aq4 s.doors (s.hampers.getD i 0) (pad6 ts) := by
 obtain ⟨ts, h1, h2, h3, h4, h5, h6⟩ := Ck2 ok h
 refine ⟨ts, ⟨h4, h5, h1, fun n hm => ?_⟩, h2, h3⟩
 have hn := ((Czg fun n hn => (ok.nk n hn).h1).1 h6).2.2 n hm
 have hk := ok.nk n hm
 subst h3
 unfold Cq0 at hn
 rw [hn, Akh hk.p0 hk.p1]
 rw [decide_eq_decide]
 have := hk.h1
 have := Aj8 ok h4 h1 hk.p0 hk.p1
 unfold Bqi
 split <;> constructor <;> intro <;> omega
theorem Bvj {s : Sm} (ok : SmOk s) {i b : Nat} (hi : i < s.hampers.length) (hb : b < 13) : fitS s i b ≠ [] ↔ ∃ ts, Tr s i b ts := by
 constructor
 ·intro h
  obtain ⟨⟨t, c⟩, hx⟩ := List.exists_mem_of_ne_nil _ h
  obtain ⟨ts, h1, _⟩ := Bq2 ok ((Ajo s i b t c).2 ⟨hi, hb, hx⟩)
  exact ⟨ts, h1⟩
 ·rintro ⟨ts, h⟩
  exact List.ne_nil_of_mem ((Ajo s i b _ _).1 (h.mem ok)).2.2
theorem Bvy {s : Sm} (ok : SmOk s) : susp s ≠ [] ↔ ∃ i b ts, Tr s i b ts := by
 rw [ne_eq, Dxv]
 constructor
 ·intro h
  obtain ⟨⟨i, b, t, c⟩, hx⟩ := List.exists_mem_of_ne_nil _ h
  obtain ⟨ts, h1, _⟩ := Bq2 ok hx
  exact ⟨i, b, ts, h1⟩
 ·rintro ⟨i, b, ts, h⟩
  exact List.ne_nil_of_mem (h.mem ok)
theorem Dxa {s : Sm} (ok : SmOk s) : Az1 s ≠ 0 ↔ ∃ i b ts, Tr s i b ts := by
 rw [<- Bvy ok, Awj, ne_eq, List.length_eq_zero_iff]
theorem Ck6 {s : Sm} {i b : Nat} {ts : List Int} (ok : SmOk s) (h : Tr s i b ts) {ps : List Int} (hp : ∀ p ∈ ps, 0 <= p /\ p < s.places) {hr : Int} (h0 : 0 <= hr) (h1 : hr <= 12) : begE s ps hr = 0 := by
 unfold begE
 rw [if_neg, if_neg (by omega), if_neg ((Dxa ok).2 ⟨i, b, ts, h⟩)]
 simp only [List.any_eq_true, Bool.or_eq_true, decide_eq_true_eq, not_exists, not_and]
 intro p hm
 have := hp p hm
 omega
theorem Dkt {s : Sm} (ok : SmOk s) {p : Int} (h0 : 0 <= p) (h1 : p < s.places) (hne : ∃ i b ts, Tr s i b ts) {k : Int} (hk : k <= 98) : (arrL (susp s) p).lo <= k ↔ ∃ i b ts, Tr s i b ts /\ Avs s i b ts p <= k := by
 rw [(Bqe ok h0 h1 ((Bvy ok).2 hne)).lo_iff]
 constructor
 ·rintro ⟨x, hx, hle⟩
  obtain ⟨⟨i, b, t, c⟩, hm, rfl⟩ := List.mem_map.1 hx
  obtain ⟨ts, h2, rfl, rfl⟩ := Bq2 ok hm
  refine ⟨i, b, ts, h2, ?_⟩
  have := Aj8 ok h2.i h2.t h0 h1
  have := h2.b
  rw [Akh h0 h1]
  unfold Bqi
  simp only at hle
  split <;> omega
 ·rintro ⟨i, b, ts, h2, hle⟩
  refine ⟨_, List.mem_map.2 ⟨_, h2.mem ok, rfl⟩, ?_⟩
  rw [Akh h0 h1] at hle
  unfold Bqi at hle
  simp only
  split at hle <;> omega
theorem Dkr {s : Sm} (ok : SmOk s) {p : Int} (h0 : 0 <= p) (h1 : p < s.places) (hne : ∃ i b ts, Tr s i b ts) {k : Int} (hk : k <= 98) : (arrL (susp s) p).hi <= k ↔ ∀ i b ts, Tr s i b ts -> Avs s i b ts p <= k := by
 have hb := Bqe ok h0 h1 ((Bvy ok).2 hne)
 constructor
 ·intro h i b ts h2
  have h3 := (hb.all _ (List.mem_map.2 ⟨_, h2.mem ok, rfl⟩)).2
  simp only at h3
  have := Aj8 ok h2.i h2.t h0 h1
  have := h2.b
  rw [Akh h0 h1]
  unfold Bqi
  split <;> omega
 ·intro h
  obtain ⟨⟨i, b, t, c⟩, hm, he⟩ := List.mem_map.1 hb.hi
  obtain ⟨ts, h2, rfl, rfl⟩ := Bq2 ok hm
  have h3 := h i b ts h2
  rw [Akh h0 h1] at h3
  unfold Bqi at h3
  have := Aj8 ok h2.i h2.t h0 h1
  simp only at he
  split at h3 <;> omega
theorem Dks {s : Sm} (ok : SmOk s) {p : Int} (h0 : 0 <= p) (h1 : p < s.places) (hne : ∃ i b ts, Tr s i b ts) : (arrL (susp s) p).lo <= (arrL (susp s) p).hi := by
 have hb := Bqe ok h0 h1 ((Bvy ok).2 hne)
 exact (hb.all _ hb.lo).2
theorem verd_always {s : Sm} (ok : SmOk s) {p : Int} (h0 : 0 <= p) (h1 : p < s.places) (hne : ∃ i b ts, Tr s i b ts) {h : Int} (hh : h <= 12) : Cxp (arrL (susp s) p) h = 1 ↔ ∀ i b ts, Tr s i b ts -> Avs s i b ts p <= h := by
 rw [<- Dkr ok h0 h1 hne (by omega)]
 have := Dks ok h0 h1 hne
 unfold Cxp
 split
 ·constructor <;> intro <;> omega
 ·split <;> constructor <;> intro <;> omega
theorem safe_tr {s : Sm} (ok : SmOk s) {p : Int} (h0 : 0 <= p) (h1 : p < s.places) (hne : ∃ i b ts, Tr s i b ts) {k : Int} (hk : k <= 12) : k <= Bye s p ↔ ∀ i b ts, Tr s i b ts -> k < Avs s i b ts p := by
 obtain ⟨i, b, ts, ht⟩ := id hne
 unfold Bye
 rw [if_pos (Ck6 ok ht (by simp only [List.mem_cons, List.not_mem_nil, or_false]; rintro _ rfl; exact ⟨h0, h1⟩) (by omega) (by omega))]
 have hlo := Dkt ok h0 h1 hne (k := k) (by omega)
 constructor
 ·intro g i b ts g1
  by_cases hc : Avs s i b ts p <= k
  ·have := hlo.2 ⟨i, b, ts, g1, hc⟩
   omega
  ·omega
 ·intro g
  have : ¬ (arrL (susp s) p).lo <= k := by
   rw [hlo]
   rintro ⟨i, b, ts, g1, g2⟩
   have := g i b ts g1
   omega
  omega
theorem safe_le {s : Sm} {p : Int} (h : begE s [p] 0 = 0) : Bye s p <= 12 := by
 unfold Bye
 rw [if_pos h]
 omega
theorem Bzo (p : Int) : ∀ (L : List (Int × Int × Hint)) (w : Bd), L.foldl (comF p) w = (L.filter fun x => decide ((gB x.2.2 p).hi < 99)).foldl (arrF p) w
 | [], _ => rfl
 | x :: L, w => by
  rw [List.foldl_cons, Bzo p L, List.filter_cons]
  unfold comF
  by_cases h : (gB x.2.2 p).hi < 99
  ·simp [h]
  ·simp [h]
theorem walk_other {E E' : Int -> Int -> Int -> Prop} (hE : ∀ a b t, E a b t -> ∃ t', E' a b t') {p q n : Int} (h : Walk E p q n) : ∃ m, Walk E' p q m := by
 induction h with
 | here => exact ⟨0, .here⟩
 | step _ he ih =>
  obtain ⟨m, hm⟩ := ih
  obtain ⟨t', ht⟩ := hE _ _ _ he
  exact ⟨_, hm.step ht⟩
theorem Bkn {s : Sm} (ok : SmOk s) {h : Int} (h0 : 0 <= h) (h1 : h < s.places) {t t' : List Int} (ht : t ∈ Axv s.doors) (ht' : t' ∈ Axv s.doors) {p : Int} (hp0 : 0 <= p) (hp1 : p < s.places) (hc : gI (Aq4 s.doors h (pad6 t')) p = 99) : gI (Aq4 s.doors h (pad6 t)) p = 99 := by
 have h6 := ok.p1
 have hd := Ayp ok h0 h1 ht
 have hd' := Ayp ok h0 h1 ht'
 rcases hd.att p hp0 (by omega) with h2 | ⟨_, hw⟩
 ·exact h2
 ·exfalso
  obtain ⟨m, hm⟩ := walk_other (E' := Edg s.doors (pad6 t')) (fun a b n he => by
   obtain ⟨i, d, g1, g2, g3⟩ := he.ix
   have hl := Akq ht'
   have hil := (List.getElem?_eq_some_iff.1 g1).1
   have g4 : (pad6 t')[i]? = some (t'[i]'(by omega)) := by
    unfold pad6
    rw [List.getElem?_append_left (by omega), List.getElem?_eq_getElem]
   refine ⟨t'[i]'(by omega), ?_⟩
   rcases g3 with ⟨rfl, rfl⟩ | ⟨rfl, rfl⟩
   ·exact Edg.of g1 g4
   ·exact (Edg.of g1 g4).symm) hw
  have := (hd'.walk h6 ok.dk (Aka (pl := s.places) ok.dk ht') h0 (by omega) hm).2.2.1
  omega
theorem Czh {s : Sm} (ok : SmOk s) {i b : Nat} {ts : List Int} (h : Tr s i b ts) {p : Int} (h0 : 0 <= p) (h1 : p < s.places) : (gB (Ays s (trL s (s.hampers.getD i 0)) (b : Int)) p).hi < 99 ↔ Avs s i b ts p < 1000 := by
 have hB := Cqr s i b h0 h1 ok.p1 ((Bvj ok h.i h.b).2 ⟨ts, h⟩)
 obtain ⟨q0, q1⟩ := Czj ok h.i
 have hb := h.b
 rw [Akh h0 h1]
 have hc := Aj8 ok h.i h.t h0 h1
 have key : ∀ x ∈ Bzq s i b p, ∃ t', Tr s i b t' /\ x = min 99 ((b : Int) + gI (Aq4 s.doors (s.hampers.getD i 0) (pad6 t')) p) := by
  intro x hx
  obtain ⟨⟨t, c⟩, hm, rfl⟩ := List.mem_map.1 hx
  obtain ⟨t', g1, rfl, rfl⟩ := Bq2 ok ((Ajo s i b t c).2 ⟨h.i, h.b, hm⟩)
  exact ⟨t', g1, rfl⟩
 obtain ⟨t', g1, g2⟩ := key _ hB.hi
 have hc' := Aj8 ok g1.i g1.t h0 h1
 have r1 := Bkn ok q0 q1 h.t g1.t h0 h1
 have r2 := Bkn ok q0 q1 g1.t h.t h0 h1
 unfold Bqi
 rw [g2]
 split
 ·rename_i e
  have := r2 e
  constructor <;> intro <;> omega
 ·rename_i e
  have : ¬ gI (Aq4 s.doors (s.hampers.getD i 0) (pad6 t')) p = 99 := fun e' => e (r1 e')
  constructor <;> intro <;> omega
theorem Bwr {s : Sm} (ok : SmOk s) {p : Int} (h0 : 0 <= p) (h1 : p < s.places) : ((∃ i b ts, Tr s i b ts /\ Avs s i b ts p < 1000) -> ∃ V, IsBd V (comL (susp s) p) /\ ∀ x, x ∈ V ↔ x < 1000 /\ ∃ i b ts, Tr s i b ts /\ Avs s i b ts p = x) /\
  (¬ (∃ i b ts, Tr s i b ts /\ Avs s i b ts p < 1000) -> comL (susp s) p = bd0) := by
 unfold comL
 rw [Bzo]
 have key : ∀ x, x ∈ ((susp s).filter fun x => decide ((gB x.2.2 p).hi < 99)) ↔ ∃ i b : Nat, (∃ ts, Tr s i b ts /\ Avs s i b ts p < 1000) /\ x = ((i : Int), (b : Int), Ays s (trL s (s.hampers.getD i 0)) (b : Int)) := by
  intro x
  rw [List.mem_filter, Aya, decide_eq_true_eq]
  constructor
  ·rintro ⟨⟨i, b, hi, hb, hne, rfl⟩, hh⟩
   obtain ⟨ts, ht⟩ := (Bvj ok hi hb).1 hne
   exact ⟨i, b, ⟨ts, ht, (Czh ok ht h0 h1).1 hh⟩, rfl⟩
  ·rintro ⟨i, b, ⟨ts, ht, hc⟩, rfl⟩
   exact ⟨⟨i, b, ht.i, ht.b, (Bvj ok ht.i ht.b).2 ⟨ts, ht⟩, rfl⟩, (Czh ok ht h0 h1).2 hc⟩
 constructor
 ·rintro ⟨i, b, ts, ht, hc⟩
  rw [Dj5]
  refine ⟨_, Bw3 (V := fun x => Bzq s x.1.toNat x.2.1.toNat p) (g := fun x => gB x.2.2 p) (fun x hx => ?_) (List.ne_nil_of_mem ((key _).2 ⟨i, b, ⟨ts, ht, hc⟩, rfl⟩)), fun x => ?_⟩
  ·obtain ⟨i, b, ⟨ts, ht, hc⟩, rfl⟩ := (key x).1 hx
   simp only [Int.toNat_natCast]
   exact Cqr s i b h0 h1 ok.p1 ((Bvj ok ht.i ht.b).2 ⟨ts, ht⟩)
  ·rw [List.mem_flatMap]
   constructor
   ·rintro ⟨y, hy, hx⟩
    obtain ⟨i, b, ⟨ts, ht, hc⟩, rfl⟩ := (key y).1 hy
    simp only [Int.toNat_natCast] at hx
    obtain ⟨⟨t, c⟩, hm, he⟩ := List.mem_map.1 hx
    obtain ⟨t', g1, rfl, rfl⟩ := Bq2 ok ((Ajo s i b t c).2 ⟨ht.i, ht.b, hm⟩)
    have hhi := (Czh ok g1 h0 h1).1 ((Czh ok ht h0 h1).2 hc)
    have hc' := Aj8 ok g1.i g1.t h0 h1
    have hb := g1.b
    rw [Akh h0 h1] at hhi
    refine ⟨?_, i, b, t', g1, ?_⟩
    ·simp only at he; omega
    ·rw [Akh h0 h1]
     unfold Bqi at hhi ⊢
     simp only at he
     split at hhi
     ·omega
     ·rename_i e
      rw [if_neg e]
      omega
   ·rintro ⟨hx, i, b, ts, ht, rfl⟩
    refine ⟨_, (key _).2 ⟨i, b, ⟨ts, ht, hx⟩, rfl⟩, ?_⟩
    simp only [Int.toNat_natCast]
    refine List.mem_map.2 ⟨_, ((Ajo s i b _ _).1 (ht.mem ok)).2.2, ?_⟩
    have hc' := Aj8 ok ht.i ht.t h0 h1
    have hb := ht.b
    rw [Akh h0 h1] at hx ⊢
    unfold Bqi at hx ⊢
    split at hx
    ·omega
    ·rename_i e
     rw [if_neg e]
     simp only
     omega
 ·intro hn
  have : ((susp s).filter fun x => decide ((gB x.2.2 p).hi < 99)) = [] := by
   cases hs : ((susp s).filter fun x => decide ((gB x.2.2 p).hi < 99)) with
   | nil => rfl
   | cons x L =>
    exfalso
    obtain ⟨i, b, ⟨ts, h⟩, _⟩ := (key x).1 (by rw [hs]; exact List.mem_cons_self)
    exact hn ⟨i, b, ts, h⟩
  rw [this]
  rfl
theorem Dx1 {s : Sm} {i b : Nat} {ts : List Int} (ok : SmOk s) (h : Tr s i b ts) {p : Int} (h0 : 0 <= p) (h1 : p < s.places) {hr : Int} (h2 : 0 <= hr) (h3 : hr <= 12) : begE s [p] hr = 0 :=
 Ck6 ok h (by simp only [List.mem_cons, List.not_mem_nil, or_false]; rintro _ rfl; exact ⟨h0, h1⟩) h2 h3
theorem come_some {s : Sm} (ok : SmOk s) {p : Int} (h0 : 0 <= p) (h1 : p < s.places) (h : ∃ i b ts, Tr s i b ts /\ Avs s i b ts p < 1000) : ∃ lo hi : Int, comE s p = (lo, hi, 0) /\ lo < 1000 /\ hi < 1000 /\ (∀ i b ts, Tr s i b ts -> Avs s i b ts p < 1000 -> lo <= Avs s i b ts p /\ Avs s i b ts p <= hi) /\
  (∃ i b ts, Tr s i b ts /\ Avs s i b ts p = lo) /\ ∃ i b ts, Tr s i b ts /\ Avs s i b ts p = hi := by
 obtain ⟨V, hb, hV⟩ := (Bwr ok h0 h1).1 h
 obtain ⟨i, b, ts, ht, _⟩ := id h
 refine ⟨(comL (susp s) p).lo, (comL (susp s) p).hi, ?_, ((hV _).1 hb.lo).1, ((hV _).1 hb.hi).1, fun i b ts ht hc => hb.all _ ((hV _).2 ⟨hc, i, b, ts, ht, rfl⟩), ((hV _).1 hb.lo).2, ((hV _).1 hb.hi).2⟩
 unfold comE bdE
 rw [Dx1 ok ht h0 h1 (by omega) (by omega), if_pos rfl, hb.some, if_pos rfl]
theorem come_none {s : Sm} (ok : SmOk s) {p : Int} (h0 : 0 <= p) (h1 : p < s.places) {i b : Nat} {ts : List Int} (ht : Tr s i b ts) (h : ¬ ∃ i b ts, Tr s i b ts /\ Avs s i b ts p < 1000) : comE s p = (0, 0, 11) := by
 unfold comE bdE
 rw [Dx1 ok ht h0 h1 (by omega) (by omega), if_pos rfl, (Bwr ok h0 h1).2 h]
 rfl
end Go.Proofs.YtnfnaehonkbknaaGreatDoor
end
