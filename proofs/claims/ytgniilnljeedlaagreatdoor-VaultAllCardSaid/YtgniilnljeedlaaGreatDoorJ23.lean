/- Texts VKept1 VEval VKept LKit FollowW Leave. -/
import Derived.Test.YtgniilnljeedlaaGreatDoorJ22
import Derived.Conc.Holds
import Derived.Conc.LeavingOf
import Derived.Calls
import Derived.Below
import Derived.Carry
import Derived.ChangeSame
import Derived.ChangeVars
import Derived.ChangeSlices
import Derived.JoinedOf
import Derived.RowKit
import Derived.RowKitTokens
import Derived.LaidLaws
import Derived.LaidHandle
import Derived.Stop.Joined
import Derived.Handed
set_option linter.defProp false
set_option linter.unusedSimpArgs false
set_option linter.unusedVariables false
set_option maxRecDepth 100000
set_option maxHeartbeats 2000000
section
namespace Go.Proofs.YtgniilnljeedlaaGreatDoor
open Go Go.X
def Bx0 := And.intro (fun H => Aq1 (H := H) (P := Tryz.prog) (h := Tryz.zeroValue25)) (And.intro @Ajg (And.intro @Axp (And.intro @Bq2 (And.intro @Awh (fun H => Aq3 (H := H) Tryz.sizeOf25)))))
def Cxa := @Az0
def Cxb := @Az0
def Bx1 := And.intro (fun H => Aq1 (H := H) (P := Tryz.prog) (h := Tryz.zeroValue25)) (And.intro @Axp (And.intro @Ajg (And.intro @Bj6 (And.intro @Awh (fun H => Aq3 (H := H) Tryz.sizeOf25)))))
theorem Ajq : Az5 2 4 [0, 1] [[2], [0], [1, 3], [0]] := by unfold Az5 Bx2; decide
theorem Az6 (main : Md) (H : Hp) : FnX Tryz.prog main 67 #[] H fun e H' => ∃ sv cv, e = .returned (.agg #[.int .i64 2, .int .i64 4, sv, cv]) /\ H.le H' /\ Akt H' 2 4 sv cv [0, 1] [[2], [0], [1, 3], [0]] := by
 refine Aqk (args := []) Tryz.func67 rfl Tryz.ntmps67 (by simp) ?_
 (refine @unH _ ?_; refine zA Bx0 ?_; (repeat (refine inC ?_; intro hc)); try (refine inK ?_; intro K hK))
 (intro rb hrb; generalize hG : Hp.set _ rb _ = H0; have lH0 := Aqg hG hrb; have vrb := Aqf hG; clear hG)
 have h0rb := hrb
 ((try (refine @unH _ ?_; refine zX Bx0 ?_)); (try (refine hK _ _ ?_; clear hK K; (try simp only [nq, ↓reduceIte, Nat.reduceEqDiff]))); refine @unH _ ?_; refine zA Bx0 ?_; (repeat (refine inC ?_; intro hc)); try (refine inK ?_; intro K hK))
 intro b0 hb0 b1 hb1 b2 hb2 b3 hb3 b4 hb4 b5 hb5
 replace hb1 : (Hp.set H0 b0 _) b1 = none := hb1
 replace hb2 : (Hp.set (Hp.set H0 b0 _) b1 _) b2 = none := hb2
 replace hb3 : (Hp.set (Hp.set (Hp.set H0 b0 _) b1 _) b2 _) b3 = none := hb3
 replace hb4 : (Hp.set (Hp.set (Hp.set (Hp.set H0 b0 _) b1 _) b2 _) b3 _) b4 = none := hb4
 replace hb5 : (Hp.set (Hp.set (Hp.set (Hp.set (Hp.set H0 b0 _) b1 _) b2 _) b3 _) b4 _) b5 = none := hb5
 generalize hG : Hp.set H0 b0 _ = HA1 at hb1 hb2 hb3 hb4 hb5 ⊢
 have lHA1 := Aqg hG hb0
 have vb0 := Aqf hG
 clear hG
 generalize hG : Hp.set HA1 b1 _ = HA2 at hb2 hb3 hb4 hb5 ⊢
 have lHA2 := Aqg hG hb1
 have vb1 := Aqf hG
 clear hG
 generalize hG : Hp.set HA2 b2 _ = HA3 at hb3 hb4 hb5 ⊢
 have lHA3 := Aqg hG hb2
 have vb2 := Aqf hG
 clear hG
 generalize hG : Hp.set HA3 b3 _ = HA4 at hb4 hb5 ⊢
 have lHA4 := Aqg hG hb3
 have vb3 := Aqf hG
 clear hG
 generalize hG : Hp.set HA4 b4 _ = HA5 at hb5 ⊢
 have lHA5 := Aqg hG hb4
 have vb4 := Aqf hG
 clear hG
 generalize hG : Hp.set HA5 b5 _ = HA6
 have lHA6 := Aqg hG hb5
 have vb5 := Aqf hG
 clear hG
 have vr0 := vrb
 have nr0 : rb ≠ b0 := Ax0 vr0 hb0
 have vr1 := lHA1 _ _ vr0
 have nr1 : rb ≠ b1 := Ax0 vr1 hb1
 have vr2 := lHA2 _ _ vr1
 have nr2 : rb ≠ b2 := Ax0 vr2 hb2
 have vr3 := lHA3 _ _ vr2
 have nr3 : rb ≠ b3 := Ax0 vr3 hb3
 have vr4 := lHA4 _ _ vr3
 have nr4 : rb ≠ b4 := Ax0 vr4 hb4
 have vr5 := lHA5 _ _ vr4
 have nr5 : rb ≠ b5 := Ax0 vr5 hb5
 have vr6 := lHA6 _ _ vr5
 clear vr0 vr1 vr2 vr3 vr4 vr5 vr6
 have la5 := Hp.le_refl HA6
 have la4 := Hp.le_trans lHA6 la5
 have la3 := Hp.le_trans lHA5 la4
 have la2 := Hp.le_trans lHA4 la3
 have la1 := Hp.le_trans lHA3 la2
 have la0 := Hp.le_trans lHA2 la1
 have laa := Hp.le_trans lHA1 la0
 have s0 : SlI HA6 (.slice (some ⟨b0, 0, none⟩) 2 2) [0, 1] := Azp (xs := [0, 1]) (la0 _ _ vb0) rfl
 have s1 : SlI HA6 (.slice (some ⟨b1, 0, none⟩) 1 1) [2] := Azp (xs := [2]) (la1 _ _ vb1) rfl
 have s2 : SlI HA6 (.slice (some ⟨b2, 0, none⟩) 1 1) [0] := Azp (xs := [0]) (la2 _ _ vb2) rfl
 have s3 : SlI HA6 (.slice (some ⟨b3, 0, none⟩) 2 2) [1, 3] := Azp (xs := [1, 3]) (la3 _ _ vb3) rfl
 have s4 : SlI HA6 (.slice (some ⟨b4, 0, none⟩) 1 1) [0] := Azp (xs := [0]) (la4 _ _ vb4) rfl
 have vrows := la5 _ _ vb5
 have hrows : SlR HA6 (.slice (some ⟨b5, 0, none⟩) 4 4) [[2], [0], [1, 3], [0]] := ⟨_, _, rfl, Nat.le_refl _, fun i xs hi => by
  match i, hi with
  | 0, hi => cases hi; exact ⟨b5, 0, _, _, _, _, rfl, vrows, rfl, s1⟩
  | 1, hi => cases hi; exact ⟨b5, 0, _, _, _, _, rfl, vrows, rfl, s2⟩
  | 2, hi => cases hi; exact ⟨b5, 0, _, _, _, _, rfl, vrows, rfl, s3⟩
  | 3, hi => cases hi; exact ⟨b5, 0, _, _, _, _, rfl, vrows, rfl, s4⟩
  | i + 4, hi => simp at hi⟩
 have vrb1 := laa _ _ vrb
 have lA : H.le HA6 := Hp.le_trans lH0 laa
 have n1 : HA6 rb ≠ none := by rw [vrb1]; simp
 have st : SlI HA6 (.slice (some ⟨b0, 0, none⟩) 2 2) [0, 1] := s0
 clear laa vrows la0 la1 la2 la3 la4 la5 lHA1 lHA2 lHA3 lHA4 lHA5 lHA6 vb0 vb1 vb2 vb3 vb4 vb5 s0 s1 s2 s3 s4 hb0 hb1 hb2 hb3 hb4 hb5 vrb lH0 hrb
 rw [if_neg nr5, if_neg nr4, if_neg nr3, if_neg nr2, if_neg nr1, if_neg nr0]
 ((try (refine @unH _ ?_; refine zX Bx0 ?_)); (try (refine hK _ _ ?_; clear hK K; (try simp only [nq, ↓reduceIte, Nat.reduceEqDiff]))); refine @unH _ ?_; refine zA Bx0 ?_; (repeat (refine inC ?_; intro hc)); try (refine inK ?_; intro K hK))
 (refine Ax7 ?_; (try simp only [nq, ↓reduceIte, Nat.reduceEqDiff]); rw [Axw, Az8 Tryz.results67 (by decide) (b := rb) (o := 0) rfl Tryz.underlying25 rfl Tryz.sizeOf25]; simp -implicitDefEqProofs (disch := first | omega | (simp only [qd] <;> omega)) only [xq, ↓xp, qc, Nat.reduceAdd, List.range, List.range.loop, fine, Nat.reduceEqDiff, ↓reduceIte, yielded, reduceCtorEq, Nat.reduceLT, Nat.reduceMul, Nat.reduceSub, one, Nat.reduceLeDiff, Aqa, Bx0, Ajh])
 generalize hG : HA6.set rb _ = H9
 have hmv : ∀ x p c fr e, (e = 3 ∨ e = 22) -> HA6 x = some (p, .cells c e fr) -> H9 x = some (p, .cells c e fr) := fun x p c fr e he hx => by
  rw [<- hG, Aqp (fun h => ?_)]
  ·exact hx
  ·rw [h, vrb1] at hx
   simp only [Option.some.injEq, Prod.mk.injEq, Obj.cells.injEq] at hx
   have h9 := hx.2.2.1
   rcases he with rfl | rfl <;> exact absurd h9 (by decide)
 exact ⟨_, _, rfl, hG ▸ ((Lex.of lA : Lex none H HA6).own h0rb).toLe, st.move fun x p c fr hx => hmv x p c fr _ (.inl rfl) hx, hrows.move hmv, Ajq, by decide⟩
theorem Cv2 : Az5 1 2 [0] [[0, 1], [0, 1]] := by unfold Az5 Bx2; decide
theorem Bkp (main : Md) (H : Hp) : FnX Tryz.prog main 70 #[] H fun e H' => ∃ sv cv, e = .returned (.agg #[.int .i64 1, .int .i64 2, sv, cv]) /\ H.le H' /\ Akt H' 1 2 sv cv [0] [[0, 1], [0, 1]] := by
 refine Aqk (args := []) Tryz.func70 rfl Tryz.ntmps70 (by simp) ?_
 (refine @unH _ ?_; refine zA Bx1 ?_; (repeat (refine inC ?_; intro hc)); try (refine inK ?_; intro K hK))
 (intro rb hrb; generalize hG : Hp.set _ rb _ = H0; have lH0 := Aqg hG hrb; have vrb := Aqf hG; clear hG)
 have h0rb := hrb
 ((try (refine @unH _ ?_; refine zX Bx1 ?_)); (try (refine hK _ _ ?_; clear hK K; (try simp only [nq, ↓reduceIte, Nat.reduceEqDiff]))); refine @unH _ ?_; refine zA Bx1 ?_; (repeat (refine inC ?_; intro hc)); try (refine inK ?_; intro K hK))
 intro b0 hb0 b1 hb1 b2 hb2 b3 hb3
 replace hb1 : (Hp.set H0 b0 _) b1 = none := hb1
 replace hb2 : (Hp.set (Hp.set H0 b0 _) b1 _) b2 = none := hb2
 replace hb3 : (Hp.set (Hp.set (Hp.set H0 b0 _) b1 _) b2 _) b3 = none := hb3
 generalize hG : Hp.set H0 b0 _ = HA1 at hb1 hb2 hb3 ⊢
 have lHA1 := Aqg hG hb0
 have vb0 := Aqf hG
 clear hG
 generalize hG : Hp.set HA1 b1 _ = HA2 at hb2 hb3 ⊢
 have lHA2 := Aqg hG hb1
 have vb1 := Aqf hG
 clear hG
 generalize hG : Hp.set HA2 b2 _ = HA3 at hb3 ⊢
 have lHA3 := Aqg hG hb2
 have vb2 := Aqf hG
 clear hG
 generalize hG : Hp.set HA3 b3 _ = HA4
 have lHA4 := Aqg hG hb3
 have vb3 := Aqf hG
 clear hG
 have vr0 := vrb
 have nr0 : rb ≠ b0 := Ax0 vr0 hb0
 have vr1 := lHA1 _ _ vr0
 have nr1 : rb ≠ b1 := Ax0 vr1 hb1
 have vr2 := lHA2 _ _ vr1
 have nr2 : rb ≠ b2 := Ax0 vr2 hb2
 have vr3 := lHA3 _ _ vr2
 have nr3 : rb ≠ b3 := Ax0 vr3 hb3
 have vr4 := lHA4 _ _ vr3
 clear vr0 vr1 vr2 vr3 vr4
 have la3 := Hp.le_refl HA4
 have la2 := Hp.le_trans lHA4 la3
 have la1 := Hp.le_trans lHA3 la2
 have la0 := Hp.le_trans lHA2 la1
 have laa := Hp.le_trans lHA1 la0
 have s0 : SlI HA4 (.slice (some ⟨b0, 0, none⟩) 1 1) [0] := Azp (xs := [0]) (la0 _ _ vb0) rfl
 have s1 : SlI HA4 (.slice (some ⟨b1, 0, none⟩) 2 2) [0, 1] := Azp (xs := [0, 1]) (la1 _ _ vb1) rfl
 have s2 : SlI HA4 (.slice (some ⟨b2, 0, none⟩) 2 2) [0, 1] := Azp (xs := [0, 1]) (la2 _ _ vb2) rfl
 have vrows := la3 _ _ vb3
 have hrows : SlR HA4 (.slice (some ⟨b3, 0, none⟩) 2 2) [[0, 1], [0, 1]] := ⟨_, _, rfl, Nat.le_refl _, fun i xs hi => by
  match i, hi with
  | 0, hi => cases hi; exact ⟨b3, 0, _, _, _, _, rfl, vrows, rfl, s1⟩
  | 1, hi => cases hi; exact ⟨b3, 0, _, _, _, _, rfl, vrows, rfl, s2⟩
  | i + 2, hi => simp at hi⟩
 have vrb1 := laa _ _ vrb
 have lA : H.le HA4 := Hp.le_trans lH0 laa
 have n1 : HA4 rb ≠ none := by rw [vrb1]; simp
 have st : SlI HA4 (.slice (some ⟨b0, 0, none⟩) 1 1) [0] := s0
 clear laa vrows la0 la1 la2 la3 lHA1 lHA2 lHA3 lHA4 vb0 vb1 vb2 vb3 s0 s1 s2 hb0 hb1 hb2 hb3 vrb lH0 hrb
 rw [if_neg nr3, if_neg nr2, if_neg nr1, if_neg nr0]
 ((try (refine @unH _ ?_; refine zX Bx1 ?_)); (try (refine hK _ _ ?_; clear hK K; (try simp only [nq, ↓reduceIte, Nat.reduceEqDiff]))); refine @unH _ ?_; refine zA Bx1 ?_; (repeat (refine inC ?_; intro hc)); try (refine inK ?_; intro K hK))
 (refine Ax7 ?_; (try simp only [nq, ↓reduceIte, Nat.reduceEqDiff]); rw [Axw, Az8 Tryz.results70 (by decide) (b := rb) (o := 0) rfl Tryz.underlying25 rfl Tryz.sizeOf25]; simp -implicitDefEqProofs (disch := first | omega | (simp only [qd] <;> omega)) only [xq, ↓xp, qc, Nat.reduceAdd, List.range, List.range.loop, fine, Nat.reduceEqDiff, ↓reduceIte, yielded, reduceCtorEq, Nat.reduceLT, Nat.reduceMul, Nat.reduceSub, one, Nat.reduceLeDiff, Aqa, Bx1, Ajh])
 generalize hG : HA4.set rb _ = H9
 have hmv : ∀ x p c fr e, (e = 3 ∨ e = 22) -> HA4 x = some (p, .cells c e fr) -> H9 x = some (p, .cells c e fr) := fun x p c fr e he hx => by
  rw [<- hG, Aqp (fun h => ?_)]
  ·exact hx
  ·rw [h, vrb1] at hx
   simp only [Option.some.injEq, Prod.mk.injEq, Obj.cells.injEq] at hx
   have h9 := hx.2.2.1
   rcases he with rfl | rfl <;> exact absurd h9 (by decide)
 exact ⟨_, _, rfl, hG ▸ ((Lex.of lA : Lex none H HA4).own h0rb).toLe, st.move fun x p c fr hx => hmv x p c fr _ (.inl rfl) hx, hrows.move hmv, Cv2, by decide⟩
theorem Ak0 (main : Md) (H : Hp) : FnX Tryz.prog main 68 #[] H fun e H' => ∃ v, e = .returned v /\ H.le H' /\ SlI H' v [2, 0, 1, 0] := by
 refine Aqk (args := []) Tryz.func68 rfl Tryz.ntmps68 (by simp) ?_
 (refine @unH _ ?_; refine zA @Cxa ?_; (repeat (refine inC ?_; intro hc)); try (refine inK ?_; intro K hK))
 (intro rb hrb; generalize hG : Hp.set _ rb _ = H0; have lH0 := Aqg hG hrb; have vrb := Aqf hG; clear hG)
 ((try (refine @unH _ ?_; refine zX @Cxa ?_)); (try (refine hK _ _ ?_; clear hK K; (try simp only [nq, ↓reduceIte, Nat.reduceEqDiff]))); refine @unH _ ?_; refine zA @Cxa ?_; (repeat (refine inC ?_; intro hc)); try (refine inK ?_; intro K hK))
 (refine @unH _ ?_; refine z9 Tryz.results68 ?_)
 exact ⟨_, rfl, lH0, Azp (xs := [2, 0, 1, 0]) vrb rfl⟩
theorem Cz5 (main : Md) (H : Hp) : FnX Tryz.prog main 69 #[] H fun e H' => ∃ v, e = .returned v /\ H.le H' /\ SlI H' v [2, 0, 3, 0] := by
 refine Aqk (args := []) Tryz.func69 rfl Tryz.ntmps69 (by simp) ?_
 (refine @unH _ ?_; refine zA @Cxb ?_; (repeat (refine inC ?_; intro hc)); try (refine inK ?_; intro K hK))
 (intro rb hrb; generalize hG : Hp.set _ rb _ = H0; have lH0 := Aqg hG hrb; have vrb := Aqf hG; clear hG)
 ((try (refine @unH _ ?_; refine zX @Cxb ?_)); (try (refine hK _ _ ?_; clear hK K; (try simp only [nq, ↓reduceIte, Nat.reduceEqDiff]))); refine @unH _ ?_; refine zA @Cxb ?_; (repeat (refine inC ?_; intro hc)); try (refine inK ?_; intro K hK))
 (refine @unH _ ?_; refine z9 Tryz.results69 ?_)
 exact ⟨_, rfl, lH0, Azp (xs := [2, 0, 3, 0]) vrb rfl⟩
theorem Aw7 : Azz [[2], [0], [1, 3], [0]] [2, 0, 1, 0] := by
 refine ⟨rfl, fun i t xs ht hx => ?_⟩
 match i, ht, hx with
 | 0, ht, hx => cases ht; cases hx; decide
 | 1, ht, hx => cases ht; cases hx; decide
 | 2, ht, hx => cases ht; cases hx; decide
 | 3, ht, hx => cases ht; cases hx; decide
 | i + 4, ht, hx => simp at ht
theorem Cyy : Azz [[2], [0], [1, 3], [0]] [2, 0, 3, 0] := by
 refine ⟨rfl, fun i t xs ht hx => ?_⟩
 match i, ht, hx with
 | 0, ht, hx => cases ht; cases hx; decide
 | 1, ht, hx => cases ht; cases hx; decide
 | 2, ht, hx => cases ht; cases hx; decide
 | 3, ht, hx => cases ht; cases hx; decide
 | i + 4, ht, hx => simp at ht
theorem runE : (rrun 2 0 [2, 0, 1, 0] (rs0 [0, 1]) 4).f = 4 := by kernel_rfl
theorem Dkm : (rrun 2 0 [2, 0, 1, 0] (rs0 [0, 1]) 4).cl.take 4 = [0, 1, 0, 1] := by kernel_rfl
theorem Dkc : optF 4 2 [2, 0, 1, 0] (oOf [0, 1]) = 2 := by kernel_rfl
theorem Dz4 : Aj9 4 2 [2, 0, 1, 0] (oOf [0, 1]) = [0, 2, -1, -1] := by kernel_rfl
theorem Djd : (Axl 4 2 [2, 0, 1, 0] (oOf [0, 1])).length = 2 := by kernel_rfl
theorem Dkq : Dqk ((Axl 4 2 [2, 0, 3, 0] (oOf [0, 1])).countP fun cs => cs.getD 0 0 == 1) (Axl 4 2 [2, 0, 3, 0] (oOf [0, 1])).length = 1 := by kernel_rfl
theorem Dzh : Azi 2 [2, 0, 1, 0] 4 0 = [0, 2] := by kernel_rfl
theorem Dzi : Ayz [0, 1] [2, 0, 1, 0] 1 = some 3 := by kernel_rfl
theorem fewE : bdT (fewF 1 [0]) (Aqz [[0, 1], [0, 1]]) = ⟨0, 2, true⟩ := by kernel_rfl
theorem Dkl : (Az1 (fun r => regF 2 r [0, 1] [[2], [0], [1, 3], [0]]) 4).1 = 1 := by kernel_rfl
theorem askE : askF 1 [0] [[0, 1], [0, 1]] = (0, 1) := by kernel_rfl
end Go.Proofs.YtgniilnljeedlaaGreatDoor
end
section
namespace Go.X
open Go
theorem Bzp {P : Program} {H : Hp} {t : TypeId} (h : P.eqGuardType P.depth t = false) (op : BinOp) (x y : Operand) (p q : Array Value) (K : Unit -> Hp -> Prop) (E : Value -> Hp -> Prop) : wpS P (eqGuard op t x y (.agg p) (.agg q)) H K E = K () H := by
 unfold eqGuard
 cases op <;> first | rfl | (simp only [Aqb, Bqn, h, Bool.not_false, if_true]; first | rfl | (simp [Aqb, Bqn, h, Aqi]; done))
theorem Bzj {P : Program} {H : Hp} {ks : TypeId} (h : Key2 P ks .i64 .i64) (a b c d : Int) (K : Value -> Hp -> Prop) (E : Value -> Hp -> Prop) :
  wpS P (binOp .eql ks (.agg #[.int .i64 a, .int .i64 b]) (.agg #[.int .i64 c, .int .i64 d])) H K E = K (.bool (a == c && b == d)) H := by
 simp only [binOp]
 rw [Aqb, Bz4 h]
 rfl
end Go.X
namespace Go.Proofs.YtgniilnljeedlaaGreatDoor
open Go Go.X
def Aq2 := And.intro @Dxt (And.intro @Dxu (And.intro @Dxj (And.intro @Dxm (And.intro @Dxn (And.intro @Dxv (And.intro @Dxo (And.intro @Dxl (And.intro @Dxp (And.intro @Dxw (And.intro @Dxr (And.intro (fun H => Aq1 (H := H) (P := Tryz.prog) (h := Tryz.zeroValue61)) (And.intro (fun H => Aq3 (H := H) Tryz.sizeOf61) (And.intro @Dxs (And.intro @Dxq (And.intro (fun H => Aqx (H := H) Tryz.underlying61 rfl Tryz.sizeOf61) (And.intro @Bx6 (And.intro @Az0 (And.intro @Dxk @Ajg))))))))))))))))))
theorem Cwm {p q : Prop} (g : q) (h : Hid q -> p := by
 intro g
 repeat' (first
 | (refine Axn rfl ?_; intro Kz hKz; simp -implicitDefEqProofs (disch := first | omega | (simp only [qd] <;> omega)) only [xq, ↓xp, qc, Nat.reduceAdd, List.range, List.range.loop, fine, Nat.reduceEqDiff, ↓reduceIte, yielded, reduceCtorEq, Nat.reduceLT, Nat.reduceMul, Nat.reduceSub, one, Nat.reduceLeDiff, Aqa, Aq2, aq, ↓ap, qe0, qe1, qe2, *, -g, -hKz, Bzp Bq0, Bzj Bvh]; try (refine hKz _ _ ?_; clear hKz Kz))
 | (refine Axs rfl ?_; intro Kz hKz; simp -implicitDefEqProofs (disch := first | omega | (simp only [qd] <;> omega)) only [xq, ↓xp, qc, Nat.reduceAdd, List.range, List.range.loop, fine, Nat.reduceEqDiff, ↓reduceIte, yielded, reduceCtorEq, Nat.reduceLT, Nat.reduceMul, Nat.reduceSub, one, Nat.reduceLeDiff, Aqa, Aq2, aq, ↓ap, qe0, qe1, qe2, *, -g, -hKz, Bzp Bq0, Bzj Bvh]; try (refine hKz _ _ ?_; clear hKz Kz; (try simp only [nq, ↓reduceIte, Nat.reduceEqDiff])))
 | (refine Aqu ?_; (try simp only [nq, ↓reduceIte, Nat.reduceEqDiff]))
 | (refine Axr ?_; (try simp only [nq, ↓reduceIte, Nat.reduceEqDiff]))
 | (refine Axa ?_; (try simp only [nq, ↓reduceIte, Nat.reduceEqDiff]))
 | (refine Azb ?_; (try simp only [nq, ↓reduceIte, Nat.reduceEqDiff]))
 | (refine Axy (by simp only [Aqm, Aqr, Nat.reduceEqDiff, Nat.reduceLT, ↓reduceIte, *, -g]; rfl) ?_ ?_ <;> (intro hcz; first | (exfalso; simp -implicitDefEqProofs (disch := omega) only [*, -g, bq, reduceCtorEq] at hcz; done) | (simp only [dq, qe3, qe4, qe5, qe6] at hcz) | skip))
 | (refine Axq ?_)
 | (refine Aqo ?_)
 | (refine Aql ?_))
 (try (revert Kz; refine unK ?_)); (repeat (revert hcz; refine unC ?_))
 exact Hid.out g) : Hid p := ⟨h ⟨g⟩⟩
theorem Cwi {p q : Prop} (g : q) (h : Hid q -> p := by
 intro g
 simp -implicitDefEqProofs (disch := first | omega | (simp only [qd] <;> omega)) only [xq, ↓xp, qc, Nat.reduceAdd, List.range, List.range.loop, fine, Nat.reduceEqDiff, ↓reduceIte, yielded, reduceCtorEq, Nat.reduceLT, Nat.reduceMul, Nat.reduceSub, one, Nat.reduceLeDiff, Aqa, Aq2, aq, ↓ap, qe0, qe1, qe2, *, -g, -hK, Bzp Bq0, Bzj Bvh]
 exact Hid.out g) : Hid p := ⟨h ⟨g⟩⟩
theorem Bvh : Key2 Tryz.prog 61 .i64 .i64 := ⟨⟨_, _, Tryz.underlying61, by decide, by decide, rfl, rfl, ⟨_, Tryz.underlying3⟩, ⟨_, Tryz.underlying3⟩⟩, by kernel_rfl⟩
theorem Bq0 : Program.eqGuardType Tryz.prog (Program.depth Tryz.prog) 61 = false := by kernel_rfl
theorem kept_spec (H : Hp) : FnX Tryz.prog (.wg Tryz.prog) 22 #[] H fun e H' => e = .returned (.bool true) /\ H.le H' := by
 refine Aqk (args := []) Tryz.func22 rfl Tryz.ntmps22 (by simp) ?_
 (refine @unH _ ?_; refine zA Aq2 ?_; (repeat (refine inC ?_; intro hc)); try (refine inK ?_; intro K hK))
 refine (Az6 _ H).runs.mono ?_
 rintro _ A1 ⟨sv1, cv1, rfl, lA1, hv1⟩
 have tA1 := lA1
 clear lA1
 ((try (refine @unH _ ?_; refine zX Aq2 ?_)); (try (refine hK _ _ ?_; clear hK K; (try simp only [nq, ↓reduceIte, Nat.reduceEqDiff]))); refine @unH _ ?_; refine zA Aq2 ?_; (repeat (refine inC ?_; intro hc)); try (refine inK ?_; intro K hK))
 refine (Ak0 _ A1).runs.mono ?_
 rintro _ B1 ⟨tv1, rfl, lB1, ht1⟩
 have hd1 : Awr B1 2 4 sv1 cv1 tv1 [0, 1] [[2], [0], [1, 3], [0]] [2, 0, 1, 0] := ⟨(hv1.le lB1).st, (hv1.le lB1).calls, ht1, Ajq, by decide, Aw7⟩
 clear hv1 ht1
 have tB1 := Hp.le_trans tA1 lB1
 clear lB1 tA1
 ((try (refine @unH _ ?_; refine zX Aq2 ?_)); (try (refine hK _ _ ?_; clear hK K; (try simp only [nq, ↓reduceIte, Nat.reduceEqDiff]))); refine @unH _ ?_; refine zA Aq2 ?_; (repeat (refine inC ?_; intro hc)); try (refine inK ?_; intro K hK))
 refine (Cwa _ _ 2 4 _ _ _ _ _ _ hd1 0 (by omega) (by omega)).runs.mono ?_
 rintro _ C1 ⟨rv, rfl, lC1, hr⟩
 simp only [List.length_cons, List.length_nil] at hr ⊢
 rw [show (rrun 2 0 [2, 0, 1, 0] (rs0 [0, 1]) (0 + 1 + 1 + 1 + 1)).cl.take (0 + 1 + 1 + 1 + 1) = [0, 1, 0, 1] from Dkm] at hr
 rw [show (rrun 2 0 [2, 0, 1, 0] (rs0 [0, 1]) (0 + 1 + 1 + 1 + 1)).f = 4 from runE, show ((4 : Nat) : Int) = 4 from rfl]
 clear hd1
 have tC1 := Hp.le_trans tB1 lC1
 clear lC1 tB1
 ((try (refine @unH _ ?_; refine zX Aq2 ?_)); (try (refine hK _ _ ?_; clear hK K; (try simp only [nq, ↓reduceIte, Nat.reduceEqDiff]))); refine @unH _ ?_; refine zA Aq2 ?_; (repeat (refine inC ?_; intro hc)); try (refine inK ?_; intro K hK))
 refine (Az6 _ C1).runs.mono ?_
 rintro _ A2 ⟨sv2, cv2, rfl, lA2, hv2⟩
 have hr_A2 := hr.le lA2
 clear hr
 have tA2 := Hp.le_trans tC1 lA2
 clear lA2 tC1
 ((try (refine @unH _ ?_; refine zX Aq2 ?_)); (try (refine hK _ _ ?_; clear hK K; (try simp only [nq, ↓reduceIte, Nat.reduceEqDiff]))); refine @unH _ ?_; refine zA Aq2 ?_; (repeat (refine inC ?_; intro hc)); try (refine inK ?_; intro K hK))
 refine (Ak0 _ A2).runs.mono ?_
 rintro _ B2 ⟨tv2, rfl, lB2, ht2⟩
 have hr_B2 := hr_A2.le lB2
 clear hr_A2
 have hd2 : Awr B2 2 4 sv2 cv2 tv2 [0, 1] [[2], [0], [1, 3], [0]] [2, 0, 1, 0] := ⟨(hv2.le lB2).st, (hv2.le lB2).calls, ht2, Ajq, by decide, Aw7⟩
 clear hv2 ht2
 have tB2 := Hp.le_trans tA2 lB2
 clear lB2 tA2
 ((try (refine @unH _ ?_; refine zX Aq2 ?_)); (try (refine hK _ _ ?_; clear hK K; (try simp only [nq, ↓reduceIte, Nat.reduceEqDiff]))); refine @unH _ ?_; refine zA Aq2 ?_; (repeat (refine inC ?_; intro hc)); try (refine inK ?_; intro K hK))
 refine (Cj9 _ _ 2 4 _ _ _ _ _ _ hd2).runs.mono ?_
 rintro _ C2 ⟨bv, rfl, hb, lC2⟩
 have hr_C2 := hr_B2.le lC2
 clear hr_B2
 simp only [List.length_cons, List.length_nil] at hb ⊢
 rw [show Aj9 (0 + 1 + 1 + 1 + 1) 2 [2, 0, 1, 0] (oOf [0, 1]) = [0, 2, -1, -1] from Dz4] at hb
 rw [show optF (0 + 1 + 1 + 1 + 1) 2 [2, 0, 1, 0] (oOf [0, 1]) = 2 from Dkc, show ((2 : Nat) : Int) = 2 from rfl]
 clear hd2
 have tC2 := Hp.le_trans tB2 lC2
 clear lC2 tB2
 ((try (refine @unH _ ?_; refine zX Aq2 ?_)); (try (refine hK _ _ ?_; clear hK K; (try simp only [nq, ↓reduceIte, Nat.reduceEqDiff]))); refine @unH _ ?_; refine zA Aq2 ?_; (repeat (refine inC ?_; intro hc)); try (refine inK ?_; intro K hK))
 refine (Az6 _ C2).runs.mono ?_
 rintro _ A3 ⟨sv3, cv3, rfl, lA3, hv3⟩
 have hr_A3 := hr_C2.le lA3
 have hb_A3 := hb.le lA3
 clear hr_C2 hb
 have tA3 := Hp.le_trans tC2 lA3
 clear lA3 tC2
 ((try (refine @unH _ ?_; refine zX Aq2 ?_)); (try (refine hK _ _ ?_; clear hK K; (try simp only [nq, ↓reduceIte, Nat.reduceEqDiff]))); refine @unH _ ?_; refine zA Aq2 ?_; (repeat (refine inC ?_; intro hc)); try (refine inK ?_; intro K hK))
 refine (Ak0 _ A3).runs.mono ?_
 rintro _ B3 ⟨tv3, rfl, lB3, ht3⟩
 have hr_B3 := hr_A3.le lB3
 have hb_B3 := hb_A3.le lB3
 clear hr_A3 hb_A3
 have hd3 : Awr B3 2 4 sv3 cv3 tv3 [0, 1] [[2], [0], [1, 3], [0]] [2, 0, 1, 0] := ⟨(hv3.le lB3).st, (hv3.le lB3).calls, ht3, Ajq, by decide, Aw7⟩
 clear hv3 ht3
 have tB3 := Hp.le_trans tA3 lB3
 clear lB3 tA3
 ((try (refine @unH _ ?_; refine zX Aq2 ?_)); (try (refine hK _ _ ?_; clear hK K; (try simp only [nq, ↓reduceIte, Nat.reduceEqDiff]))); refine @unH _ ?_; refine zA Aq2 ?_; (repeat (refine inC ?_; intro hc)); try (refine inK ?_; intro K hK))
 refine (Cqf _ _ 2 4 _ _ _ _ _ _ hd3).runs.mono ?_
 rintro _ C3 ⟨rfl, lC3⟩
 have hr_C3 := hr_B3.le lC3
 have hb_C3 := hb_B3.le lC3
 clear hr_B3 hb_B3
 rw [show (Axl ([2, 0, 1, 0] : List Int).length 2 [2, 0, 1, 0] (oOf [0, 1])).length = 2 from Djd, show ((2 : Nat) : Int) = 2 from rfl]
 clear hd3
 have tC3 := Hp.le_trans tB3 lC3
 clear lC3 tB3
 ((try (refine @unH _ ?_; refine zX Aq2 ?_)); (try (refine hK _ _ ?_; clear hK K; (try simp only [nq, ↓reduceIte, Nat.reduceEqDiff]))); refine @unH _ ?_; refine zA Aq2 ?_; (repeat (refine inC ?_; intro hc)); try (refine inK ?_; intro K hK))
 refine (Az6 _ C3).runs.mono ?_
 rintro _ A4 ⟨sv4, cv4, rfl, lA4, hv4⟩
 have hr_A4 := hr_C3.le lA4
 have hb_A4 := hb_C3.le lA4
 clear hr_C3 hb_C3
 have tA4 := Hp.le_trans tC3 lA4
 clear lA4 tC3
 ((try (refine @unH _ ?_; refine zX Aq2 ?_)); (try (refine hK _ _ ?_; clear hK K; (try simp only [nq, ↓reduceIte, Nat.reduceEqDiff]))); refine @unH _ ?_; refine zA Aq2 ?_; (repeat (refine inC ?_; intro hc)); try (refine inK ?_; intro K hK))
 refine (Cz5 _ A4).runs.mono ?_
 rintro _ B4 ⟨tv4, rfl, lB4, ht4⟩
 have hr_B4 := hr_A4.le lB4
 have hb_B4 := hb_A4.le lB4
 clear hr_A4 hb_A4
 have hd4 : Awr B4 2 4 sv4 cv4 tv4 [0, 1] [[2], [0], [1, 3], [0]] [2, 0, 3, 0] := ⟨(hv4.le lB4).st, (hv4.le lB4).calls, ht4, Ajq, by decide, Cyy⟩
 clear hv4 ht4
 have tB4 := Hp.le_trans tA4 lB4
 clear lB4 tA4
 ((try (refine @unH _ ?_; refine zX Aq2 ?_)); (try (refine hK _ _ ?_; clear hK K; (try simp only [nq, ↓reduceIte, Nat.reduceEqDiff]))); refine @unH _ ?_; refine zA Aq2 ?_; (repeat (refine inC ?_; intro hc)); try (refine inK ?_; intro K hK))
 refine (Cjo _ _ 2 4 _ _ _ _ _ _ hd4 0 1 (by omega) (by decide) (by omega) (by omega)).runs.mono ?_
 rintro _ C4 ⟨rfl, lC4⟩
 have hr_C4 := hr_B4.le lC4
 have hb_C4 := hb_B4.le lC4
 clear hr_B4 hb_B4
 rw [show Dqk ((Axl ([2, 0, 3, 0] : List Int).length 2 [2, 0, 3, 0] (oOf [0, 1])).countP fun cs => cs.getD (0 : Int).toNat 0 == 1) (Axl ([2, 0, 3, 0] : List Int).length 2 [2, 0, 3, 0] (oOf [0, 1])).length = 1 from Dkq]
 clear hd4
 have tC4 := Hp.le_trans tB4 lC4
 clear lC4 tB4
 ((try (refine @unH _ ?_; refine zX Aq2 ?_)); (try (refine hK _ _ ?_; clear hK K; (try simp only [nq, ↓reduceIte, Nat.reduceEqDiff]))); refine @unH _ ?_; refine zA Aq2 ?_; (repeat (refine inC ?_; intro hc)); try (refine inK ?_; intro K hK))
 refine (Az6 _ C4).runs.mono ?_
 rintro _ A5 ⟨sv5, cv5, rfl, lA5, hv5⟩
 have hr_A5 := hr_C4.le lA5
 have hb_A5 := hb_C4.le lA5
 clear hr_C4 hb_C4
 have tA5 := Hp.le_trans tC4 lA5
 clear lA5 tC4
 ((try (refine @unH _ ?_; refine zX Aq2 ?_)); (try (refine hK _ _ ?_; clear hK K; (try simp only [nq, ↓reduceIte, Nat.reduceEqDiff]))); refine @unH _ ?_; refine zA Aq2 ?_; (repeat (refine inC ?_; intro hc)); try (refine inK ?_; intro K hK))
 refine (Ak0 _ A5).runs.mono ?_
 rintro _ B5 ⟨tv5, rfl, lB5, ht5⟩
 have hr_B5 := hr_A5.le lB5
 have hb_B5 := hb_A5.le lB5
 clear hr_A5 hb_A5
 have hd5 : Awr B5 2 4 sv5 cv5 tv5 [0, 1] [[2], [0], [1, 3], [0]] [2, 0, 1, 0] := ⟨(hv5.le lB5).st, (hv5.le lB5).calls, ht5, Ajq, by decide, Aw7⟩
 clear hv5 ht5
 have tB5 := Hp.le_trans tA5 lB5
 clear lB5 tA5
 ((try (refine @unH _ ?_; refine zX Aq2 ?_)); (try (refine hK _ _ ?_; clear hK K; (try simp only [nq, ↓reduceIte, Nat.reduceEqDiff]))); refine @unH _ ?_; refine zA Aq2 ?_; (repeat (refine inC ?_; intro hc)); try (refine inK ?_; intro K hK))
 refine (Byl _ _ 2 4 _ _ _ _ _ _ hd5).runs.mono ?_
 rintro _ C5 ⟨pv, rfl, lC5, hp⟩
 have hr_C5 := hr_B5.le lC5
 have hb_C5 := hb_B5.le lC5
 clear hr_B5 hb_B5
 rw [show Azi 2 [2, 0, 1, 0] ([2, 0, 1, 0] : List Int).length 0 = [0, 2] from Dzh] at hp
 clear hd5
 have tC5 := Hp.le_trans tB5 lC5
 clear lC5 tB5
 ((try (refine @unH _ ?_; refine zX Aq2 ?_)); (try (refine hK _ _ ?_; clear hK K; (try simp only [nq, ↓reduceIte, Nat.reduceEqDiff]))); refine @unH _ ?_; refine zA Aq2 ?_; (repeat (refine inC ?_; intro hc)); try (refine inK ?_; intro K hK))
 refine (Az6 _ C5).runs.mono ?_
 rintro _ A6 ⟨sv6, cv6, rfl, lA6, hv6⟩
 have hr_A6 := hr_C5.le lA6
 have hb_A6 := hb_C5.le lA6
 have hp_A6 := hp.le lA6
 clear hr_C5 hb_C5 hp
 have tA6 := Hp.le_trans tC5 lA6
 clear lA6 tC5
 ((try (refine @unH _ ?_; refine zX Aq2 ?_)); (try (refine hK _ _ ?_; clear hK K; (try simp only [nq, ↓reduceIte, Nat.reduceEqDiff]))); refine @unH _ ?_; refine zA Aq2 ?_; (repeat (refine inC ?_; intro hc)); try (refine inK ?_; intro K hK))
 refine (Ak0 _ A6).runs.mono ?_
 rintro _ B6 ⟨tv6, rfl, lB6, ht6⟩
 have hr_B6 := hr_A6.le lB6
 have hb_B6 := hb_A6.le lB6
 have hp_B6 := hp_A6.le lB6
 clear hr_A6 hb_A6 hp_A6
 have hd6 : Awr B6 2 4 sv6 cv6 tv6 [0, 1] [[2], [0], [1, 3], [0]] [2, 0, 1, 0] := ⟨(hv6.le lB6).st, (hv6.le lB6).calls, ht6, Ajq, by decide, Aw7⟩
 clear hv6 ht6
 have tB6 := Hp.le_trans tA6 lB6
 clear lB6 tA6
 ((try (refine @unH _ ?_; refine zX Aq2 ?_)); (try (refine hK _ _ ?_; clear hK K; (try simp only [nq, ↓reduceIte, Nat.reduceEqDiff]))); refine @unH _ ?_; refine zA Aq2 ?_; (repeat (refine inC ?_; intro hc)); try (refine inK ?_; intro K hK))
 refine (Bym _ _ 2 4 _ _ _ _ _ _ hd6 1 (by omega)).runs.mono ?_
 rintro _ C6 ⟨rfl, lC6⟩
 have hr_C6 := hr_B6.le lC6
 have hb_C6 := hb_B6.le lC6
 have hp_C6 := hp_B6.le lC6
 clear hr_B6 hb_B6 hp_B6
 rw [show Ayz [0, 1] [2, 0, 1, 0] 1 = some 3 from Dzi]
 clear hd6
 simp only [Option.getD_some, Option.isSome_some, if_true]
 have tC6 := Hp.le_trans tB6 lC6
 clear lC6 tB6
 ((try (refine @unH _ ?_; refine zX Aq2 ?_)); (try (refine hK _ _ ?_; clear hK K; (try simp only [nq, ↓reduceIte, Nat.reduceEqDiff]))); refine @unH _ ?_; refine zA Aq2 ?_; (repeat (refine inC ?_; intro hc)); try (refine inK ?_; intro K hK))
 refine (Bkp _ C6).runs.mono ?_
 rintro _ A7 ⟨sv7, cv7, rfl, lA7, hv7⟩
 have hr_A7 := hr_C6.le lA7
 have hb_A7 := hb_C6.le lA7
 have hp_A7 := hp_C6.le lA7
 clear hr_C6 hb_C6 hp_C6
 have tA7 := Hp.le_trans tC6 lA7
 clear lA7 tC6
 ((try (refine @unH _ ?_; refine zX Aq2 ?_)); (try (refine hK _ _ ?_; clear hK K; (try simp only [nq, ↓reduceIte, Nat.reduceEqDiff]))); refine @unH _ ?_; refine zA Aq2 ?_; (repeat (refine inC ?_; intro hc)); try (refine inK ?_; intro K hK))
 refine (Byj _ 1 2 _ _ _ _ hv7).runs.mono ?_
 rintro _ C7 ⟨rfl, lC7⟩
 have hr_C7 := hr_A7.le lC7
 have hb_C7 := hb_A7.le lC7
 have hp_C7 := hp_A7.le lC7
 clear hr_A7 hb_A7 hp_A7
 have tC7 := Hp.le_trans tA7 lC7
 clear lC7 tA7
 rw [fewE]
 clear hv7
 ((try (refine @unH _ ?_; refine zX Aq2 ?_)); (try (refine hK _ _ ?_; clear hK K; (try simp only [nq, ↓reduceIte, Nat.reduceEqDiff]))); refine @unH _ ?_; refine zA Aq2 ?_; (repeat (refine inC ?_; intro hc)); try (refine inK ?_; intro K hK))
 (intro bb hbb; generalize hG : Hp.set _ bb _ = D7; have lD7 := Aqg hG hbb; have vbb := Aqf hG; clear hG)
 have hr_D7 := hr_C7.le lD7
 have hb_D7 := hb_C7.le lD7
 have hp_D7 := hp_C7.le lD7
 clear hr_C7 hb_C7 hp_C7
 have tD7 := Hp.le_trans tC7 lD7
 clear lD7 tC7
 clear hbb
 ((try (refine @unH _ ?_; refine zX Aq2 ?_)); (try (refine hK _ _ ?_; clear hK K; (try simp only [nq, ↓reduceIte, Nat.reduceEqDiff]))); refine @unH _ ?_; refine zA Aq2 ?_; (repeat (refine inC ?_; intro hc)); try (refine inK ?_; intro K hK))
 refine (Az6 _ D7).runs.mono ?_
 rintro _ A8 ⟨sv8, cv8, rfl, lA8, hv8⟩
 have hr_A8 := hr_D7.le lA8
 have hb_A8 := hb_D7.le lA8
 have hp_A8 := hp_D7.le lA8
 clear hr_D7 hb_D7 hp_D7
 have lA8x := lA8
 have tA8 := Hp.le_trans tD7 lA8
 clear lA8 tD7
 ((try (refine @unH _ ?_; refine zX Aq2 ?_)); (try (refine hK _ _ ?_; clear hK K; (try simp only [nq, ↓reduceIte, Nat.reduceEqDiff]))); refine @unH _ ?_; refine zA Aq2 ?_; (repeat (refine inC ?_; intro hc)); try (refine inK ?_; intro K hK))
 refine (Cju _ 2 4 _ _ _ _ hv8).runs.mono ?_
 rintro _ C8 ⟨rfl, lC8⟩
 have hr_C8 := hr_A8.le lC8
 have hb_C8 := hb_A8.le lC8
 have hp_C8 := hp_A8.le lC8
 clear hr_A8 hb_A8 hp_A8
 have vbb8 := lC8 _ _ (lA8x _ _ vbb)
 have tC8 := Hp.le_trans tA8 lC8
 clear lC8 tA8
 rw [Dkl]
 clear hv8
 ((try (refine @unH _ ?_; refine zX Aq2 ?_)); (try (refine hK _ _ ?_; clear hK K; (try simp only [nq, ↓reduceIte, Nat.reduceEqDiff]))); refine @unH _ ?_; refine zA Aq2 ?_; (repeat (refine inC ?_; intro hc)); try (refine inK ?_; intro K hK))
 refine (Bkp _ C8).runs.mono ?_
 rintro _ A9 ⟨sv9, cv9, rfl, lA9, hv9⟩
 have hr_A9 := hr_C8.le lA9
 have hb_A9 := hb_C8.le lA9
 have hp_A9 := hp_C8.le lA9
 clear hr_C8 hb_C8 hp_C8
 have vbb9 := lA9 _ _ vbb8
 have tA9 := Hp.le_trans tC8 lA9
 clear lA9 tC8
 ((try (refine @unH _ ?_; refine zX Aq2 ?_)); (try (refine hK _ _ ?_; clear hK K; (try simp only [nq, ↓reduceIte, Nat.reduceEqDiff]))); refine @unH _ ?_; refine zA Aq2 ?_; (repeat (refine inC ?_; intro hc)); try (refine inK ?_; intro K hK))
 refine (Cv9 _ 1 2 _ _ _ _ hv9).runs.mono ?_
 rintro _ C9 ⟨rfl, lC9⟩
 have hr_C9 := hr_A9.le lC9
 have hb_C9 := hb_A9.le lC9
 have hp_C9 := hp_A9.le lC9
 clear hr_A9 hb_A9 hp_A9
 have vbb10 := lC9 _ _ vbb9
 have tC9 := Hp.le_trans tA9 lC9
 clear lC9 tA9
 rw [askE]
 clear hv9 vbb vbb8 vbb9 lA8x
 simp only [Int.reduceLT, if_false]
 ((try (refine @unH _ ?_; refine zX Aq2 ?_)); (try (refine hK _ _ ?_; clear hK K; (try simp only [nq, ↓reduceIte, Nat.reduceEqDiff]))); refine @unH _ ?_; refine zA Aq2 ?_; (repeat (refine inC ?_; intro hc)); try (refine inK ?_; intro K hK))
 refine Avy (fun e => e 1 = rv /\ e 2 = .int .i64 4 /\ e 3 = .int .i64 0 /\ e 4 = bv /\ e 5 = .int .i64 2 /\ e 6 = .int .i64 0 /\ e 7 = .int .i64 2 /\ e 8 = .int .i64 0 /\ e 9 = .int .i64 1 /\ e 10 = .int .i64 0 /\ e 11 = pv /\ e 12 = .int .i64 0 /\ e 13 = .int .i64 3 /\ e 14 = .int .i64 0 /\ e 15 = .pointer (some ⟨bb, 0, none⟩) /\ e 16 = .int .i64 0 /\ e 17 = .int .i64 1 /\ e 18 = .int .i64 0 /\ e 19 = .int .i64 0 /\ e 20 = .int .i64 1 /\ e 21 = .int .i64 0) ⟨rfl, rfl, rfl, rfl, rfl, rfl, rfl, rfl, rfl, rfl, rfl, rfl, rfl, rfl, rfl, rfl, rfl, rfl, rfl, rfl, rfl⟩ ?_
 rintro e ⟨e1, e2, e3, e4, e5, e6, e7, e8, e9, e10, e11, e12, e13, e14, e15, e16, e17, e18, e19, e20, e21⟩
 simp only [List.append]
 refine Axs rfl ?_; intro K hK
 simp -implicitDefEqProofs (disch := first | omega | (simp only [qd] <;> omega)) only [xq, ↓xp, qc, Nat.reduceAdd, List.range, List.range.loop, fine, Nat.reduceEqDiff, ↓reduceIte, yielded, reduceCtorEq, Nat.reduceLT, Nat.reduceMul, Nat.reduceSub, one, Nat.reduceLeDiff, Aqa, Aq2, aq, ↓ap, qe0, qe1, qe2, *, -hK, Bzp Bq0, Bzj Bvh]
 (intro g1 hg1; generalize hG : Hp.set _ g1 _ = E1; have lE1 := Aqg hG hg1; have vg1 := Aqf hG; clear hG)
 have hr_E1 := hr_C9.le lE1
 have hb_E1 := hb_C9.le lE1
 have hp_E1 := hp_C9.le lE1
 clear hr_C9 hb_C9 hp_C9
 have sl1 : SlI E1 (.slice (some ⟨g1, 0, none⟩) 4 4) [0, 1, 0, 1] := Azp (xs := [0, 1, 0, 1]) vg1 rfl
 clear hg1 vg1
 have tE1 := Hp.le_trans tC9 lE1
 clear lE1 tC9
 refine (Av8 _ E1 rv _ [0, 1, 0, 1] [0, 1, 0, 1] hr_E1 sl1 (by decide) (by decide)).runs.mono ?_
 rintro _ HQ ⟨rfl, hHQ⟩
 rw [hHQ]
 clear hHQ HQ
 rw [decide_eq_true rfl]
 clear sl1
 ((try (refine @unH _ ?_; refine Cwi ?_)); (try (refine hK _ _ ?_; clear hK K; (try simp only [nq, ↓reduceIte, Nat.reduceEqDiff]))); refine @unH _ ?_; refine Cwm ?_; (repeat (refine inC ?_; intro hc)); try (refine inK ?_; intro K hK))
 (intro g2 hg2; generalize hG : Hp.set _ g2 _ = E2; have lE2 := Aqg hG hg2; have vg2 := Aqf hG; clear hG)
 have hr_E2 := hr_E1.le lE2
 have hb_E2 := hb_E1.le lE2
 have hp_E2 := hp_E1.le lE2
 clear hr_E1 hb_E1 hp_E1
 have sl2 : SlI E2 (.slice (some ⟨g2, 0, none⟩) 4 4) [0, 2, -1, -1] := Azp (xs := [0, 2, -1, -1]) vg2 rfl
 clear hg2 vg2
 have tE2 := Hp.le_trans tE1 lE2
 clear lE2 tE1
 refine (Av8 _ E2 bv _ [0, 2, -1, -1] [0, 2, -1, -1] hb_E2 sl2 (by decide) (by decide)).runs.mono ?_
 rintro _ HQ ⟨rfl, hHQ⟩
 rw [hHQ]
 clear hHQ HQ
 rw [decide_eq_true rfl]
 clear sl2
 ((try (refine @unH _ ?_; refine Cwi ?_)); (try (refine hK _ _ ?_; clear hK K; (try simp only [nq, ↓reduceIte, Nat.reduceEqDiff]))); refine @unH _ ?_; refine Cwm ?_; (repeat (refine inC ?_; intro hc)); try (refine inK ?_; intro K hK))
 (intro g3 hg3; generalize hG : Hp.set _ g3 _ = E3; have lE3 := Aqg hG hg3; have vg3 := Aqf hG; clear hG)
 have hr_E3 := hr_E2.le lE3
 have hb_E3 := hb_E2.le lE3
 have hp_E3 := hp_E2.le lE3
 clear hr_E2 hb_E2 hp_E2
 have sl3 : SlI E3 (.slice (some ⟨g3, 0, none⟩) 2 2) [0, 2] := Azp (xs := [0, 2]) vg3 rfl
 clear hg3 vg3
 have tE3 := Hp.le_trans tE2 lE3
 clear lE3 tE2
 refine (Av8 _ E3 pv _ [0, 2] [0, 2] hp_E3 sl3 (by decide) (by decide)).runs.mono ?_
 rintro _ HQ ⟨rfl, hHQ⟩
 rw [hHQ]
 clear hHQ HQ
 rw [decide_eq_true rfl]
 clear sl3
 ((try (refine @unH _ ?_; refine Cwi ?_)); (try (refine hK _ _ ?_; clear hK K; (try simp only [nq, ↓reduceIte, Nat.reduceEqDiff]))); refine @unH _ ?_; refine Cwm ?_; (repeat (refine inC ?_; intro hc)); try (refine inK ?_; intro K hK))
 (refine @unH _ ?_; refine z9 Tryz.results22 ?_)
 exact ⟨by trivial, tE3⟩
end Go.Proofs.YtgniilnljeedlaaGreatDoor
end
section
namespace Go.Proofs.YtgniilnljeedlaaGreatDoor
open Go Go.X
theorem Cxe (m : Md) (H : Hp) (v : Value) (xs : List Int) (n : Int) (hv : SlI H v xs) (hl : xs.length <= 1000000) :
  FnX Tryz.prog m 50 #[v, .int .i64 n] H fun e H' => e = .returned (.int .i64 (atF xs n)) /\ H' = H :=
 (Cwr m H v xs n hv hl).mono fun e H' ⟨hH, r, he, h⟩ => ⟨by
  rw [he]
  rcases h with ⟨rfl, hn⟩ | ⟨k, rfl, _, hk, hn⟩
  ·rw [Cj6 hn]
  ·rw [Dzx hk hn], hH⟩
theorem Azz.below {xss : List (List Int)} {ts : List Int} {places pieces : Int} {start : List Int} (h : Azz xss ts) (ho : Az5 places pieces start xss) : ∀ t ∈ ts, 0 <= t /\ t < pieces := by
 intro t ht
 obtain ⟨i, hi, rfl⟩ := List.getElem_of_mem ht
 have hix : i < xss.length := by rw [<- h.1]; exact hi
 have := h.2 i ts[i] xss[i] (List.getElem?_eq_getElem hi) (List.getElem?_eq_getElem hix)
 have h2 := (ho.2.2.2.2.2.2.2 _ (List.getElem_mem hix)).2.2 _ this
 have h3 := ho.2.2.1
 omega
def Aqy := And.intro (fun H => Aq5 (H := H) Tryz.underlying22) (And.intro (fun H => Aqh (H := H) Tryz.underlying25 (i := 2) rfl (off := 2) rfl Tryz.sizeOf22) (And.intro (fun H => Aqd (H := H) Tryz.underlying22 rfl) (And.intro @Ckf (And.intro (fun H => Aqq (H := H) Tryz.underlying22 Tryz.sizeOf3) (And.intro (fun H => Aqd (H := H) Tryz.underlying3 rfl) (And.intro @Ckg (And.intro (fun H => Aqh (H := H) Tryz.underlying25 (i := 0) rfl (off := 0) rfl Tryz.sizeOf3) (And.intro @Axp (And.intro (fun H => Bvy (H := H) Tryz.underlying22 Tryz.sizeOf3) (And.intro (fun H => Bvz (H := H) Tryz.underlying22 Tryz.sizeOf3) (fun H => Bxx (H := H) Tryz.underlying22 Tryz.sizeOf3)))))))))))
theorem Cj5 {o : List Int} {x : Int} {j : Nat} (h : j < (atF o x).toNat) : o[j]? ≠ some x := by
 unfold atF at h
 cases hf : o.findIdx? (· == x) with
 | none => rw [hf] at h; simp at h
 | some k =>
  rw [hf] at h
  obtain ⟨h1, h2, h3⟩ := List.findIdx?_eq_some_iff_getElem.1 hf
  have hjk : j < k := by simpa using h
  have := h3 j hjk
  intro he
  rw [List.getElem?_eq_getElem (by omega), Option.some.injEq] at he
  simp [he] at this
theorem Bwc {H₀ H : Hp} {v : Value} {xs ys : List Int} (h : RowX none H₀ H v 3 (ints xs)) {g o m cap : Nat} (hm : ys.length = m) (hgx : ∃ u, H g = some u) (hsep : rowB v ≠ some g)
  (hys : ∀ (j : Nat) (y : Int), ys[j]? = some y -> H.cell ⟨g, o + j, none⟩ = some (.int .i64 y)) (hn : xs.length + m <= 1000000) (ty : TypeId) (cb : Array Bool) (K : Next -> Hp -> Prop) (E : Value -> Hp -> Prop)
  (h' : ∀ v' H', RowX none H₀ H' v' 3 (ints (xs ++ ys)) -> (∀ x u, H x = some u -> rowB v ≠ some x -> H' x = some u) -> (∀ x, rowB v' = some x -> rowB v = some x ∨ H x = none) -> K (.value v') H') :
  wpS Tryz.prog (builtin .append #[22, 22] ty cb #[v, .slice (some ⟨g, o, none⟩) m cap]) H K E := by
 obtain ⟨hlex, hrow⟩ := h
 obtain ⟨ug, hug⟩ := hgx
 rcases hrow with ⟨rfl, hx0⟩ | ⟨b, c, cp, hb0, hb, rfl, hcs, hcap, hget⟩
 ·have : xs = [] := by simpa [ints] using hx0
  subst this
  refine Ajo (H₀ := H) (H := H) (n := 0) (xs := []) (Aj3.nil H _ 1) (Hp.le_refl _) hm id hys (by omega) ty cb K E (fun v' H1 H2 hr hl => ?_)
  have hle : H.le H2 := fun x u hx => hl _ _ (hr.le _ _ hx)
  rcases hr with ⟨rfl, hn0, he, _⟩ | ⟨b', c', cap', hb', rfl, rfl, hs', hl', hn', hg'⟩
  ·exact h' _ H2 ⟨hlex.le hle, .inl ⟨rfl, he⟩⟩ (fun x u hx _ => hle _ _ hx) fun x hx => by cases hx
  ·refine h' _ H2 ⟨hlex.le hle, ?_⟩ (fun x u hx _ => hle _ _ hx) fun x hx => by simp only [rowB, Option.some.injEq] at hx; subst hx; exact .inr hb'
   refine .inr ⟨b', c', cap', hlex.gone hb', hl _ _ (by rw [Axm, if_pos rfl]), ?_, by omega, by omega, hg'⟩
   rw [hl', Nat.mul_one]
 ·have hgb : g ≠ b := fun e => hsep (by rw [e]; rfl)
  have hD : (fun x => if x = b then none else H x : Hp) b = none := by simp
  have hH : H = Hp.set (fun x => if x = b then none else H x) b (.cells c 3 (0, 0)) := by
   funext x
   unfold Hp.set
   by_cases e : x = b
   ·subst e; simp [hb]
   ·simp [e]
  rw [Aq7] at hcap
  have hil := Aq7 xs
  refine Ajo (H₀ := fun x => if x = b then none else H x) (H := H) (n := xs.length) (xs := xs) (.inr ⟨b, c, cp, hD, hH, by rw [hil], by omega, by omega, hcap, hget⟩) (Hp.le_refl _) hm (fun h => by simp only [hgb, if_false] at h; exact h) hys (by omega) ty cb K E (fun v' H1 H2 hr hl => ?_)
  have hkeep : ∀ x u, x ≠ b -> H x = some u -> H2 x = some u := fun x u hn hx => hl _ _ (hr.le _ _ (by simp only [hn, if_false]; exact hx))
  have hlx : Lex none H₀ H2 := fun x u hx => by
   obtain ⟨u', hu', e'⟩ := hlex x u hx
   exact ⟨u', hkeep x u' (fun e => by rw [e, hb0] at hx; cases hx) hu', e'⟩
  rcases hr with ⟨rfl, hn0, he, _⟩ | ⟨b', c', cap', hb', rfl, rfl, hs', hl', hn', hg'⟩
  ·exact h' _ H2 ⟨hlx, .inl ⟨rfl, he⟩⟩ (fun x u hx ho => hkeep x _ (fun e => ho (by rw [e]; rfl)) hx) fun x hx => by cases hx
  ·have hb2 : H2 b' = some (true, .cells c' 3 (0, 0)) := hl _ _ (by rw [Axm, if_pos rfl])
   have hb'0 : H₀ b' = none := by
    by_cases e : b' = b
    ·rw [e]; exact hb0
    ·simp only [e, if_false] at hb'; exact hlex.gone hb'
   refine h' _ H2 ⟨hlx, .inr ⟨b', c', cap', hb'0, hb2, ?_, by omega, by omega, hg'⟩⟩ (fun x u hx ho => hkeep x _ (fun e => ho (by rw [e]; rfl)) hx) fun x hx => by
    simp only [rowB, Option.some.injEq] at hx
    subst hx
    by_cases e : b' = b
    ·exact .inl (by rw [e]; rfl)
    ·simp only [e, if_false] at hb'; exact .inr hb'
   rw [hl', Nat.mul_one]
theorem Ay3 {H₀ H : Hp} {v w : Value} {xs ys : List Int} (h : RowX none H₀ H v 3 (ints xs)) (hw : SlI H w ys) (hsep : ys ≠ [] -> ∀ b, rowB w = some b -> rowB v ≠ some b) (hn : xs.length + ys.length <= 1000000) (ty : TypeId) (cb : Array Bool) (K : Next -> Hp -> Prop) (E : Value -> Hp -> Prop)
  (h' : ∀ v' H', RowX none H₀ H' v' 3 (ints (xs ++ ys)) -> (∀ x u, H x = some u -> rowB v ≠ some x -> H' x = some u) -> (∀ x, rowB v' = some x -> rowB v = some x ∨ H x = none) -> K (.value v') H') :
  wpS Tryz.prog (builtin .append #[22, 22] ty cb #[v, w]) H K E := by
 obtain ⟨a, cap, rfl, hcap, hx⟩ := hw
 cases ys with
 | nil =>
  have hv : ∃ va vc, v = .slice va (ints xs).length vc /\ (ints xs).length <= vc := by
   rcases h.2 with ⟨rfl, e⟩ | ⟨b, c, vc, _, _, rfl, _, hc, _⟩
   ·exact ⟨none, 0, by rw [e]; rfl, by rw [e]; exact Nat.le_refl _⟩
   ·exact ⟨_, vc, rfl, hc⟩
  obtain ⟨va, vc, rfl, hvc⟩ := hv
  exact Av1 Tryz.underlying22 Tryz.sizeOf3 _ _ _ _ _ _ _ hvc _ _ (h' _ H (by rw [List.append_nil]; exact h) (fun x u hx _ => hx) fun x hx => .inl hx)
 | cons y0 ys0 =>
  obtain ⟨b, o, p, c, fr, rfl, hb, _⟩ := hx 0 y0 rfl
  refine Bwc h rfl ⟨_, hb⟩ (hsep (by simp) b rfl) (fun j y hj => ?_) hn ty cb K E h'
  obtain ⟨b2, o2, p2, c2, fr2, e2, hb2, hc2⟩ := hx j y hj
  cases e2
  rw [cell_of hb2]
  exact hc2
theorem Bvx {H : Hp} {b o n cap so : Nat} {xs : List Int} (h : SlI H (.slice (some ⟨b, o, none⟩) n cap) xs) {A : Int} {k : Nat} (hso : 0 < xs.length - (A + 1).toNat -> so = o + (k + 1)) (hk : (A + 1).toNat = k + 1) : SlI H (.slice (some ⟨b, so, none⟩) (xs.length - (A + 1).toNat) (cap - (A + 1).toNat)) (xs.drop (k + 1)) := by
 obtain ⟨a', c', h1, h2, h3⟩ := h
 cases h1
 rw [hk] at hso ⊢
 refine ⟨_, _, by rw [List.length_drop], by rw [List.length_drop]; omega, fun i x hi => ?_⟩
 have hlt := (List.getElem?_eq_some_iff.1 hi).1
 rw [List.length_drop] at hlt
 rw [List.getElem?_drop] at hi
 obtain ⟨b1, o1, p1, c1, fr1, e1, hb1, hc1⟩ := h3 _ x hi
 cases e1
 exact ⟨b, so, p1, c1, fr1, rfl, hb1, by rw [hso (by omega), Nat.add_assoc]; exact hc1⟩
theorem Cqj {pl : Int} {start ts cs o : List Int} {f i : Nat} (hI : Axb pl start ts cs = (Axb pl o (ts.drop i) (cs.drop i)).map (f + ·)) (h1 : i < ts.length) (h2 : i < cs.length) :
  Axb pl start ts cs = if ts[i] ∈ o then (if cs[i] = -1 then (Axb pl o (ts.drop (i + 1)) (cs.drop (i + 1))).map (f + ·) else none)
   else if (o.length : Int) < pl then (if cs[i] = -1 then (Axb pl (o ++ [ts[i]]) (ts.drop (i + 1)) (cs.drop (i + 1))).map (f + 1 + ·) else none)
   else if cs[i] ∈ o then (Axb pl (o.erase cs[i] ++ [ts[i]]) (ts.drop (i + 1)) (cs.drop (i + 1))).map (f + 1 + ·) else none := by
 rw [hI, List.drop_eq_getElem_cons h1, List.drop_eq_getElem_cons h2]
 simp only [Axb]
 split
 ·split <;> rfl
 ·split
  ·split
   ·rw [Option.map_map]; congr 1; funext x; simp only [Function.comp]; omega
   ·rfl
  ·split
   ·rw [Option.map_map]; congr 1; funext x; simp only [Function.comp]; omega
   ·rfl
theorem Ckw {o : List Int} {x : Int} (h : x ∈ o) : o.take (atF o x).toNat ++ o.drop ((atF o x).toNat + 1) = o.erase x := by
 have hm := By0 h
 refine Cxn o _ hm.2.2 fun hn => ?_
 obtain ⟨j, hj, he⟩ := List.getElem_of_mem hn
 have hj2 : j < (atF o x).toNat := by simp at hj; omega
 have := Cj5 (o := o) (x := x) (j := j) hj2
 rw [List.getElem_take] at he
 exact this (by rw [List.getElem?_eq_getElem (by simp at hj; omega), he])
def Dza (q : Option Nat) : Int := match q with
 | some n => n
 | none => -1
theorem follow_spec (main : Md) (H : Hp) (places pieces : Int) (sv cv tv lv : Value) (start ts cs : List Int) (hst : SlI H sv start) (hcv : one cv = true) (htv : SlI H tv ts) (hlv : SlI H lv cs) (hsl : start.length <= 1000) (htl : ts.length <= 1000) (hcl : cs.length <= 1000) :
  FnX Tryz.prog main 47 #[.agg #[.int .i64 places, .int .i64 pieces, sv, cv], tv, lv] H fun e H' => e = .returned (.int .i64 (Dza (Axb places start ts cs))) /\ H.le H' := by
 obtain ⟨sa, sc, rfl, hsc, _⟩ := id hst
 obtain ⟨ta, tc, rfl, htc, _⟩ := id htv
 obtain ⟨la, lc, rfl, hlc, _⟩ := id hlv
 have hne : ts.length ≠ cs.length -> Axb places start ts cs = none := Bz9
 refine Aqk Tryz.func47 rfl Tryz.ntmps47 (by simp) ?_
 (refine @unH _ ?_; refine zA Aqy ?_; (repeat (refine inC ?_; intro hc)); try (refine inK ?_; intro K hK))
 (intro vb hvb; generalize hG : Hp.set _ vb _ = H1; have lH1 := Aqg hG hvb; have vvb := Aqf hG; clear hG)
 by_cases hlen : (cs.length : Int) = ts.length
 ·have hst1 := hst.le lH1
  ((try (refine @unH _ ?_; refine zX Aqy ?_)); (try (refine hK _ _ ?_; clear hK K; (try simp only [nq, ↓reduceIte, Nat.reduceEqDiff]))); refine @unH _ ?_; refine zA Aqy ?_; (repeat (refine inC ?_; intro hc)); try (refine inK ?_; intro K hK))
  refine (Bxt _ H1 _ start hst1 (by omega)).runs.mono ?_
  rintro _ H2 ⟨ov, rfl, hrow2⟩
  have vvb2 := hrow2.1.toLe _ _ vvb
  clear hst1 hne
  ((try (refine @unH _ ?_; refine zX Aqy ?_)); (try (refine hK _ _ ?_; clear hK K; (try simp only [nq, ↓reduceIte, Nat.reduceEqDiff]))); refine @unH _ ?_; refine zA Aqy ?_; (repeat (refine inC ?_; intro hc)); try (refine inK ?_; intro K hK))
  have htv1 := htv.le lH1
  have hlv1 := hlv.le lH1
  refine Axe (fun w a' H' => ∃ e, ∃ (i f : Nat) (o : List Int) (ov : Value), w = ts.length - i /\ i <= ts.length /\ a' = act 80 e [] /\ e 1 = .slice ta ts.length tc /\ e 2 = .slice la cs.length lc /\ e 3 = .pointer (some ⟨vb, 0, none⟩) /\ e 7 = ov /\ e 8 = .int .i64 (f : Nat) /\ e 9 = .int .i64 (i : Nat) /\ f <= i /\ o.length <= start.length + i /\ RowX none H1 H' ov 3 (ints o) /\ Axb places start ts cs = (Axb places o (ts.drop i) (cs.drop i)).map (f + ·)) (n := ts.length) ?_ ?_
  ·exact ⟨_, 0, 0, start, ov, by omega, by omega, rfl, rfl, rfl, rfl, rfl, rfl, rfl, by omega, by omega, hrow2, by simp⟩
  ·clear hrow2 vvb2 H2 ov
   rintro w a' H3 ⟨e, i, f, o, ov, rfl, hi, rfl, e1, e2, e3, e7, e8, e9, hf, hol, hrow, hI⟩
   have l13 := hrow.1.toLe
   have vvb3 := l13 _ _ vvb
   by_cases hlt : i < ts.length
   ·have hlc2 : i < cs.length := by omega
    have hst2 := Cqj hI hlt hlc2
    obtain ⟨b, q, c1, p, c, fr, hve, _, hb, hx⟩ := htv1.cons (fun h => absurd (congrArg List.length h) (by simp only [List.length_nil]; omega))
    obtain ⟨b', q', c1', p', c', fr', hve', _, hb', hx'⟩ := hlv1.cons (fun h => absurd (congrArg List.length h) (by simp only [List.length_nil]; omega))
    cases hve
    cases hve'
    have hb3 := l13 _ _ hb
    have hb3' := l13 _ _ hb'
    have hxi := hx i ts[i] (List.getElem?_eq_getElem hlt)
    have hyi := hx' i cs[i] (List.getElem?_eq_getElem hlc2)
    generalize ts[i] = t at *
    generalize cs[i] = x at *
    have hos := hrow.ints
    obtain ⟨oa, oc, rfl⟩ := hrow.len
    rw [Aq7] at hrow hos e7
    have hA1 := Cj4 o t
    have hA2 := Cj4 o x
    have hB1 : 0 <= atF o t ↔ t ∈ o := Bka
    have hB2 : 0 <= atF o x ↔ x ∈ o := Bka
    have hB3 : x ∈ o -> o.take (atF o x).toNat ++ o.drop ((atF o x).toNat + 1) = o.erase x := fun h => Ckw h
    have hq1 := Cxe main H3 _ o t hos (by omega)
    have hq2 := Cxe main H3 _ o x hos (by omega)
    replace hq1 : Aqs _ := hq1
    replace hq2 : Aqs _ := hq2
    generalize atF o t = A1 at *
    generalize atF o x = A2 at *
    replace hst2 : Aqs _ := hst2
    replace hB1 : Aqs _ := hB1
    replace hB2 : Aqs _ := hB2
    replace hB3 : Aqs _ := hB3
    clear hI hx hx' hb hb'
    by_cases hA : 0 <= A1
    ·by_cases hx1 : x = -1
     ·have hR : Axb places start ts cs = (Axb places o (ts.drop (i + 1)) (cs.drop (i + 1))).map (f + ·) := by
       have h : Axb places start ts cs = if t ∈ o then _ else _ := hst2
       rw [h, if_pos ((show 0 <= A1 ↔ t ∈ o from hB1).1 hA), if_pos hx1]
      clear hst2 hB1 hB2
      replace hR : Aqs _ := hR
      (refine @unH _ ?_; refine zA Aqy ?_; (repeat (refine inC ?_; intro hc)); try (refine inK ?_; intro K hK))
      refine (show FnX _ _ _ _ _ _ from hq1).runs.mono ?_; rintro _ HQ ⟨rfl, hHQ⟩; rw [hHQ]; clear hHQ HQ; ((try (refine @unH _ ?_; refine zX Aqy ?_)); (try (refine hK _ _ ?_; clear hK K; (try simp only [nq, ↓reduceIte, Nat.reduceEqDiff]))); refine @unH _ ?_; refine zA Aqy ?_; (repeat (refine inC ?_; intro hc)); try (refine inK ?_; intro K hK))
      exact ⟨ts.length - (i + 1), by omega, _, i + 1, f, o, _, rfl, hlt, rfl, e1, e2, e3, e7, e8, rfl, by omega, by omega, hrow, hR⟩
     ·have hR : Axb places start ts cs = none := by
       have h : Axb places start ts cs = if t ∈ o then _ else _ := hst2
       rw [h, if_pos ((show 0 <= A1 ↔ t ∈ o from hB1).1 hA), if_neg hx1]
      clear hst2 hB1 hB2 hB3
      replace hR : Aqs _ := hR
      (refine @unH _ ?_; refine zA Aqy ?_; (repeat (refine inC ?_; intro hc)); try (refine inK ?_; intro K hK))
      refine (show FnX _ _ _ _ _ _ from hq1).runs.mono ?_; rintro _ HQ ⟨rfl, hHQ⟩; rw [hHQ]; clear hHQ HQ; ((try (refine @unH _ ?_; refine zX Aqy ?_)); (try (refine hK _ _ ?_; clear hK K; (try simp only [nq, ↓reduceIte, Nat.reduceEqDiff]))); refine @unH _ ?_; refine zA Aqy ?_; (repeat (refine inC ?_; intro hc)); try (refine inK ?_; intro K hK))
      (refine @unH _ ?_; refine z9 Tryz.results47 ?_)
      rw [show Axb places start ts cs = none from hR]
      exact ⟨rfl, Hp.le_trans lH1 l13⟩
    ·by_cases hfull : (o.length : Int) < places
     ·by_cases hx1 : x = -1
      ·have hR : Axb places start ts cs = (Axb places (o ++ [t]) (ts.drop (i + 1)) (cs.drop (i + 1))).map (f + 1 + ·) := by
        have h : Axb places start ts cs = if t ∈ o then _ else _ := hst2
        rw [h, if_neg (fun h => hA ((show 0 <= A1 ↔ t ∈ o from hB1).2 h)), if_pos hfull, if_pos hx1]
       clear hst2 hB1 hB2
       replace hR : Aqs _ := hR
       (refine @unH _ ?_; refine zA Aqy ?_; (repeat (refine inC ?_; intro hc)); try (refine inK ?_; intro K hK))
       refine (show FnX _ _ _ _ _ _ from hq1).runs.mono ?_; rintro _ HQ ⟨rfl, hHQ⟩; rw [hHQ]; clear hHQ HQ; ((try (refine @unH _ ?_; refine zX Aqy ?_)); (try (refine hK _ _ ?_; clear hK K; (try simp only [nq, ↓reduceIte, Nat.reduceEqDiff]))); refine @unH _ ?_; refine zA Aqy ?_; (repeat (refine inC ?_; intro hc)); try (refine inK ?_; intro K hK))
       intro nb hnb
       generalize hG : Hp.set H3 nb _ = H5
       have lH5 := Aqg hG hnb
       have vnb := Aqf hG
       clear hG
       have hw : SlI H5 (.slice (some ⟨nb, 0, none⟩) 1 1) [t] := Azp (xs := [t]) vnb rfl
       have hsep : rowB (.slice oa o.length oc) ≠ some nb := hrow.rowB_ne fun c fr h => by rw [hnb] at h; cases h
       have hrow5 := hrow.le lH5
       refine Avm hrow5 hw (fun _ b hb => by simp only [rowB, Option.some.injEq] at hb; subst hb; exact hsep) (by simp only [List.length_cons, List.length_nil]; omega) _ _ _ _ (fun v6 H6 hrow6 hkeep => ?_)
       clear hw hsep hrow5 hkeep lH5 vnb hnb hrow hos
       ((try (refine @unH _ ?_; refine zX Aqy ?_)); (try (refine hK _ _ ?_; clear hK K; (try simp only [nq, ↓reduceIte, Nat.reduceEqDiff]))); refine @unH _ ?_; refine zA Aqy ?_; (repeat (refine inC ?_; intro hc)); try (refine inK ?_; intro K hK))
       exact ⟨ts.length - (i + 1), by omega, _, i + 1, f + 1, o ++ [t], _, rfl, hlt, rfl, e1, e2, e3, rfl, rfl, rfl, by omega, by simp only [List.length_append, List.length_cons, List.length_nil]; omega, hrow6, hR⟩
      ·have hR : Axb places start ts cs = none := by
        have h : Axb places start ts cs = if t ∈ o then _ else _ := hst2
        rw [h, if_neg (fun h => hA ((show 0 <= A1 ↔ t ∈ o from hB1).2 h)), if_pos hfull, if_neg hx1]
       clear hst2 hB1 hB2 hB3
       replace hR : Aqs _ := hR
       (refine @unH _ ?_; refine zA Aqy ?_; (repeat (refine inC ?_; intro hc)); try (refine inK ?_; intro K hK))
       refine (show FnX _ _ _ _ _ _ from hq1).runs.mono ?_; rintro _ HQ ⟨rfl, hHQ⟩; rw [hHQ]; clear hHQ HQ; ((try (refine @unH _ ?_; refine zX Aqy ?_)); (try (refine hK _ _ ?_; clear hK K; (try simp only [nq, ↓reduceIte, Nat.reduceEqDiff]))); refine @unH _ ?_; refine zA Aqy ?_; (repeat (refine inC ?_; intro hc)); try (refine inK ?_; intro K hK))
       (refine @unH _ ?_; refine z9 Tryz.results47 ?_)
       rw [show Axb places start ts cs = none from hR]
       exact ⟨rfl, Hp.le_trans lH1 l13⟩
     ·by_cases hA' : 0 <= A2
      ·have hxo : x ∈ o := (show 0 <= A2 ↔ x ∈ o from hB2).1 hA'
       have hB3' : o.take A2.toNat ++ o.drop (A2.toNat + 1) = o.erase x := (show x ∈ o -> _ from hB3) hxo
       replace hB3' : Aqs _ := hB3'
       have hR : Axb places start ts cs = (Axb places (o.erase x ++ [t]) (ts.drop (i + 1)) (cs.drop (i + 1))).map (f + 1 + ·) := by
        have h : Axb places start ts cs = if t ∈ o then _ else _ := hst2
        rw [h, if_neg (fun h => hA ((show 0 <= A1 ↔ t ∈ o from hB1).2 h)), if_neg hfull, if_pos hxo]
       clear hst2 hB1 hB2
       replace hR : Aqs _ := hR
       clear hB3
       replace hxo : Aqs _ := hxo
       obtain ⟨ob, oo, oc1, op1, occ, ofr, hoe, _, hob0, _⟩ := hos.cons (fun h => by rw [show o = [] from h] at hA2; simp at hA2; omega)
       cases hoe
       have hob : ∃ u, H3 ob = some u := ⟨_, hob0⟩
       clear hob0
       have hoc : o.length <= oc := by obtain ⟨_, _, h1, h2, _⟩ := id hos; cases h1; exact h2
       have hkl : (o.take A2.toNat).length = A2.toNat := by rw [List.length_take]; omega
       have hso : ∃ so : Nat, (if oc = (A2 + 1).toNat then some (⟨ob, oo, none⟩ : Addr) else some ⟨ob, oo + (A2 + 1).toNat, none⟩) = some ⟨ob, so, none⟩ /\ (0 < o.length - (A2 + 1).toNat -> so = oo + (A2.toNat + 1)) := by
        by_cases hc1 : oc = (A2 + 1).toNat
        ·exact ⟨oo, by rw [if_pos hc1], fun h => by omega⟩
        ·exact ⟨oo + (A2 + 1).toNat, by rw [if_neg hc1], fun _ => by omega⟩
       obtain ⟨so, hso, hso2⟩ := hso
       (refine @unH _ ?_; refine zA Aqy ?_; (repeat (refine inC ?_; intro hc)); try (refine inK ?_; intro K hK))
       refine (show FnX _ _ _ _ _ _ from hq1).runs.mono ?_; rintro _ HQ ⟨rfl, hHQ⟩; rw [hHQ]; clear hHQ HQ; ((try (refine @unH _ ?_; refine zX Aqy ?_)); (try (refine hK _ _ ?_; clear hK K; (try simp only [nq, ↓reduceIte, Nat.reduceEqDiff]))); refine @unH _ ?_; refine zA Aqy ?_; (repeat (refine inC ?_; intro hc)); try (refine inK ?_; intro K hK))
       refine (show FnX _ _ _ _ _ _ from hq2).runs.mono ?_; rintro _ HQ ⟨rfl, hHQ⟩; rw [hHQ]; clear hHQ HQ; ((try (refine @unH _ ?_; refine zX Aqy ?_)); (try (refine hK _ _ ?_; clear hK K; (try simp only [nq, ↓reduceIte, Nat.reduceEqDiff]))); refine @unH _ ?_; refine zA Aqy ?_; (repeat (refine inC ?_; intro hc)); try (refine inK ?_; intro K hK))
       refine Ajl (fun HX => HX b = some (p, .cells c 3 fr)) [14, 15] (.take 0 (.take 1 (.take 2 (.take 4 (.take 5 (.take 6 (.take 7 (.take 9 (.take 10 (.take 11 (.take 12 (.two 3 (.two 8 (.one 13 (.one 14 (.one 15 .nil))) 13 (.one 8 (.one 14 (.one 15 .nil)))) 13 (.one 3 (.one 8 (.one 14 (.one 15 .nil)))))))))))))))) (by kernel_rfl) (by kernel_rfl) (by decide) (by kernel_rfl) ?_; intro K hK
       (iterate 11 (apply Axd rfl rfl rfl ‹_›; (focus (intro HX hHX; simp -implicitDefEqProofs (disch := first | omega | (simp only [qd] <;> omega)) only [xq, ↓xp, qc, Nat.reduceAdd, List.range, List.range.loop, fine, Nat.reduceEqDiff, ↓reduceIte, yielded, reduceCtorEq, Nat.reduceLT, Nat.reduceMul, Nat.reduceSub, one, Nat.reduceLeDiff, Aqa, Aqy, aq, ↓ap, qe0, qe1, qe2, *, -hK, Aq0, hHX] <;> (first | exact rfl | exact ⟨rfl, rfl⟩ | exact ⟨rfl, trivial⟩))); simp -implicitDefEqProofs (disch := first | omega | (simp only [qd] <;> omega)) only [Aqn, Aqc]))
       clear e7 hq1 hq2 hA1
       refine ⟨?_, ?_⟩
       ·(refine @unH _ ?_; refine zX Aqy ?_)
        refine (Bxt main H3 _ (o.take A2.toNat) (Cv1 (hos.le (Hp.le_refl H3)) (by omega)) (by simp; omega)).runs.mono ?_
        rintro _ Ka ⟨kv, rfl, krow0⟩
        have krow := krow0.base (Lex.of (Hp.le_refl H3))
        have l3a := krow.1.toLe
        have lka := krow0.1.toLe
        obtain ⟨ka, kc, rfl⟩ := krow.len
        rw [Aq7, hkl] at krow krow0 ⊢
        have nkb : rowB (.slice ka A2.toNat kc) ≠ some b := fun h => by have h1 := krow.rowB_new h; rw [hb3] at h1; cases h1
        have nko : rowB (.slice ka A2.toNat kc) ≠ some ob := fun h => by have h1 := krow.rowB_new h; obtain ⟨u, hu⟩ := hob; rw [hu] at h1; cases h1
        have hbKa := lka _ _ hb3
        (refine @unH _ ?_; refine zX Aqy ?_)
        refine ⟨.inr fun _ => by first | trivial | exact hbKa, ?_⟩
        refine ⟨?_, ?_⟩
        ·(refine @unH _ ?_; refine zX Aqy ?_)
         refine Ay3 krow (Bvx (hos.le l3a) hso2 (by omega)) (fun _ b' hb' => by simp only [rowB, Option.some.injEq] at hb'; subst hb'; exact nko) (by simp; omega) _ _ _ _ (fun v2 Kb row2 keep2 new2 => ?_)
         rw [show o.take A2.toNat ++ o.drop (A2.toNat + 1) = o.erase x from hB3'] at row2
         obtain ⟨ra, rc, rfl⟩ := row2.len
         rw [Aq7] at row2 new2 ⊢
         have hb2 := keep2 _ _ hbKa nkb
         (refine @unH _ ?_; refine zX Aqy ?_)
         refine ⟨.inr fun _ => by first | trivial | exact hb2, ?_⟩
         refine Aq6 ?_
         (refine @unH _ ?_; refine zX Aqy ?_)
         intro nb hnb
         generalize hG : Hp.set Kb nb _ = Kc
         have lnb := Aqg hG hnb
         have vnb := Aqf hG
         clear hG
         refine ⟨.inr fun _ => by first | trivial | exact lnb _ _ hb2 | simp [Ax0 hb2 hnb, hb2], ?_⟩
         have hbKc := lnb _ _ hb2
         have row3 := row2.le lnb
         have sep : rowB (.slice ra (o.erase x).length rc) ≠ some nb := row2.rowB_ne fun c fr h => by rw [hnb] at h; cases h
         refine Aq6 ?_
         (refine @unH _ ?_; refine zX Aqy ?_)
         refine Avm row3 (Azp (xs := [t]) vnb rfl) (fun _ b' hb' => by simp only [rowB, Option.some.injEq] at hb'; subst hb'; exact sep) (by simp only [List.length_cons, List.length_nil]; have := List.length_erase_le (a := x) (l := o); omega) _ _ _ _ (fun v6 H6 hrow6 _ => ?_)
         obtain ⟨fa, fc, rfl⟩ := hrow6.len
         rw [Aq7] at hrow6 ⊢
         (refine @unH _ ?_; refine zX Aqy ?_)
         refine ⟨.inl (by decide), ?_⟩
         refine Aq6 ?_
         (refine @unH _ ?_; refine zX Aqy ?_)
         refine ⟨.inl (by decide), ?_⟩
         have hrow7 := hrow6.base hrow.1
         refine Azw (hK _ _ ?_)
         clear hK K hrow6
         (try simp only [nq, ↓reduceIte, Nat.reduceEqDiff])
         (refine @unH _ ?_; refine zA Aqy ?_; (repeat (refine inC ?_; intro hc)); try (refine inK ?_; intro K hK))
         exact ⟨ts.length - (i + 1), by omega, _, i + 1, f + 1, o.erase x ++ [t], _, rfl, hlt, rfl, e1, e2, e3, rfl, rfl, rfl, by omega, by simp only [List.length_append, List.length_cons, List.length_nil]; have := List.length_erase_le (a := x) (l := o); omega, hrow7, hR⟩
        ·(refine @unH _ ?_; refine zX Aqy ?_)
         intro nb hnb
         generalize hG : Hp.set Ka nb _ = Kb
         have lnb := Aqg hG hnb
         have vnb := Aqf hG
         clear hG
         refine ⟨.inr fun _ => by first | trivial | exact lnb _ _ hbKa | simp [Ax0 hbKa hnb, hbKa], ?_⟩
         have hbKb := lnb _ _ hbKa
         refine Aq6 ?_
         have krowb := krow.le lnb
         have l3b := Hp.le_trans l3a lnb
         have sep0 : rowB (.slice ka A2.toNat kc) ≠ some nb := krow.rowB_ne fun c fr h => by rw [hnb] at h; cases h
         (refine @unH _ ?_; refine zX Aqy ?_)
         refine Ay3 krowb (Bvx (hos.le l3b) hso2 (by omega)) (fun _ b' hb' => by simp only [rowB, Option.some.injEq] at hb'; subst hb'; exact nko) (by simp; omega) _ _ _ _ (fun v2 Kc row2 keep2 new2 => ?_)
         rw [show o.take A2.toNat ++ o.drop (A2.toNat + 1) = o.erase x from hB3'] at row2
         obtain ⟨ra, rc, rfl⟩ := row2.len
         rw [Aq7] at row2 new2 ⊢
         have hb2 := keep2 _ _ hbKb nkb
         (refine @unH _ ?_; refine zX Aqy ?_)
         refine ⟨.inr fun _ => by first | trivial | exact hb2, ?_⟩
         have vnb3 := keep2 _ _ vnb sep0
         have sep : rowB (.slice ra (o.erase x).length rc) ≠ some nb := fun h => (new2 _ h).elim sep0 fun h1 => by rw [vnb] at h1; cases h1
         refine Aq6 ?_
         (refine @unH _ ?_; refine zX Aqy ?_)
         refine Avm row2 (Azp (xs := [t]) vnb3 rfl) (fun _ b' hb' => by simp only [rowB, Option.some.injEq] at hb'; subst hb'; exact sep) (by simp only [List.length_cons, List.length_nil]; have := List.length_erase_le (a := x) (l := o); omega) _ _ _ _ (fun v6 H6 hrow6 _ => ?_)
         obtain ⟨fa, fc, rfl⟩ := hrow6.len
         rw [Aq7] at hrow6 ⊢
         (refine @unH _ ?_; refine zX Aqy ?_)
         refine ⟨.inl (by decide), ?_⟩
         refine Aq6 ?_
         (refine @unH _ ?_; refine zX Aqy ?_)
         refine ⟨.inl (by decide), ?_⟩
         have hrow7 := hrow6.base hrow.1
         refine Azw (hK _ _ ?_)
         clear hK K hrow6
         (try simp only [nq, ↓reduceIte, Nat.reduceEqDiff])
         (refine @unH _ ?_; refine zA Aqy ?_; (repeat (refine inC ?_; intro hc)); try (refine inK ?_; intro K hK))
         exact ⟨ts.length - (i + 1), by omega, _, i + 1, f + 1, o.erase x ++ [t], _, rfl, hlt, rfl, e1, e2, e3, rfl, rfl, rfl, by omega, by simp only [List.length_append, List.length_cons, List.length_nil]; have := List.length_erase_le (a := x) (l := o); omega, hrow7, hR⟩
       ·(refine @unH _ ?_; refine zX Aqy ?_)
        intro nb hnb
        generalize hG : Hp.set H3 nb _ = Kn
        have lnb := Aqg hG hnb
        have vnb := Aqf hG
        clear hG
        refine ⟨.inr fun _ => by first | trivial | exact lnb _ _ hb3 | simp [Ax0 hb3 hnb, hb3], ?_⟩
        have hbKn := lnb _ _ hb3
        refine Aq6 ?_
        (refine @unH _ ?_; refine zX Aqy ?_)
        refine (Bxt main Kn _ (o.take A2.toNat) (Cv1 (hos.le lnb) (by omega)) (by simp; omega)).runs.mono ?_
        rintro _ Ka ⟨kv, rfl, krow0⟩
        have krow := krow0.base (Lex.of lnb)
        have l3a := krow.1.toLe
        have lka := krow0.1.toLe
        obtain ⟨ka, kc, rfl⟩ := krow.len
        rw [Aq7, hkl] at krow krow0 ⊢
        have nkb : rowB (.slice ka A2.toNat kc) ≠ some b := fun h => by have h1 := krow.rowB_new h; rw [hb3] at h1; cases h1
        have nko : rowB (.slice ka A2.toNat kc) ≠ some ob := fun h => by have h1 := krow.rowB_new h; obtain ⟨u, hu⟩ := hob; rw [hu] at h1; cases h1
        have hbKa := lka _ _ hbKn
        (refine @unH _ ?_; refine zX Aqy ?_)
        refine ⟨.inr fun _ => by first | trivial | exact hbKa, ?_⟩
        have vnba := lka _ _ vnb
        have sep0 : rowB (.slice ka A2.toNat kc) ≠ some nb := fun h => by have h1 := krow0.rowB_new h; rw [vnb] at h1; cases h1
        refine Aq6 ?_
        (refine @unH _ ?_; refine zX Aqy ?_)
        refine Ay3 krow (Bvx (hos.le l3a) hso2 (by omega)) (fun _ b' hb' => by simp only [rowB, Option.some.injEq] at hb'; subst hb'; exact nko) (by simp; omega) _ _ _ _ (fun v2 Kc row2 keep2 new2 => ?_)
        rw [show o.take A2.toNat ++ o.drop (A2.toNat + 1) = o.erase x from hB3'] at row2
        obtain ⟨ra, rc, rfl⟩ := row2.len
        rw [Aq7] at row2 new2 ⊢
        have hb2 := keep2 _ _ hbKa nkb
        (refine @unH _ ?_; refine zX Aqy ?_)
        refine ⟨.inr fun _ => by first | trivial | exact hb2, ?_⟩
        have vnb3 := keep2 _ _ vnba sep0
        have sep : rowB (.slice ra (o.erase x).length rc) ≠ some nb := fun h => (new2 _ h).elim sep0 fun h1 => by rw [vnba] at h1; cases h1
        refine Aq6 ?_
        (refine @unH _ ?_; refine zX Aqy ?_)
        refine Avm row2 (Azp (xs := [t]) vnb3 rfl) (fun _ b' hb' => by simp only [rowB, Option.some.injEq] at hb'; subst hb'; exact sep) (by simp only [List.length_cons, List.length_nil]; have := List.length_erase_le (a := x) (l := o); omega) _ _ _ _ (fun v6 H6 hrow6 _ => ?_)
        obtain ⟨fa, fc, rfl⟩ := hrow6.len
        rw [Aq7] at hrow6 ⊢
        (refine @unH _ ?_; refine zX Aqy ?_)
        refine ⟨.inl (by decide), ?_⟩
        refine Aq6 ?_
        (refine @unH _ ?_; refine zX Aqy ?_)
        refine ⟨.inl (by decide), ?_⟩
        have hrow7 := hrow6.base hrow.1
        refine Azw (hK _ _ ?_)
        clear hK K hrow6
        (try simp only [nq, ↓reduceIte, Nat.reduceEqDiff])
        (refine @unH _ ?_; refine zA Aqy ?_; (repeat (refine inC ?_; intro hc)); try (refine inK ?_; intro K hK))
        exact ⟨ts.length - (i + 1), by omega, _, i + 1, f + 1, o.erase x ++ [t], _, rfl, hlt, rfl, e1, e2, e3, rfl, rfl, rfl, by omega, by simp only [List.length_append, List.length_cons, List.length_nil]; have := List.length_erase_le (a := x) (l := o); omega, hrow7, hR⟩
      ·have hR : Axb places start ts cs = none := by
        have h : Axb places start ts cs = if t ∈ o then _ else _ := hst2
        rw [h, if_neg (fun h => hA ((show 0 <= A1 ↔ t ∈ o from hB1).2 h)), if_neg hfull, if_neg (fun h => hA' ((show 0 <= A2 ↔ x ∈ o from hB2).2 h))]
       clear hst2 hB1 hB2 hB3
       replace hR : Aqs _ := hR
       (refine @unH _ ?_; refine zA Aqy ?_; (repeat (refine inC ?_; intro hc)); try (refine inK ?_; intro K hK))
       refine (show FnX _ _ _ _ _ _ from hq1).runs.mono ?_; rintro _ HQ ⟨rfl, hHQ⟩; rw [hHQ]; clear hHQ HQ; ((try (refine @unH _ ?_; refine zX Aqy ?_)); (try (refine hK _ _ ?_; clear hK K; (try simp only [nq, ↓reduceIte, Nat.reduceEqDiff]))); refine @unH _ ?_; refine zA Aqy ?_; (repeat (refine inC ?_; intro hc)); try (refine inK ?_; intro K hK))
       refine (show FnX _ _ _ _ _ _ from hq2).runs.mono ?_; rintro _ HQ ⟨rfl, hHQ⟩; rw [hHQ]; clear hHQ HQ; ((try (refine @unH _ ?_; refine zX Aqy ?_)); (try (refine hK _ _ ?_; clear hK K; (try simp only [nq, ↓reduceIte, Nat.reduceEqDiff]))); refine @unH _ ?_; refine zA Aqy ?_; (repeat (refine inC ?_; intro hc)); try (refine inK ?_; intro K hK))
       (refine @unH _ ?_; refine z9 Tryz.results47 ?_)
       rw [show Axb places start ts cs = none from hR]
       exact ⟨rfl, Hp.le_trans lH1 l13⟩
   ·obtain rfl : i = ts.length := by omega
    have hR : Axb places start ts cs = some f := by
     rw [hI, List.drop_length, show ts.length = cs.length by omega, List.drop_length]
     simp [Axb]
    clear hI
    replace hR : Aqs _ := hR
    (refine @unH _ ?_; refine zA Aqy ?_; (repeat (refine inC ?_; intro hc)); try (refine inK ?_; intro K hK))
    (refine @unH _ ?_; refine z9 Tryz.results47 ?_)
    rw [show Axb places start ts cs = some f from hR]
    exact ⟨rfl, Hp.le_trans lH1 l13⟩
 ·have hR := hne (by omega)
  clear hne
  replace hR : Aqs _ := hR
  ((try (refine @unH _ ?_; refine zX Aqy ?_)); (try (refine hK _ _ ?_; clear hK K; (try simp only [nq, ↓reduceIte, Nat.reduceEqDiff]))); refine @unH _ ?_; refine zA Aqy ?_; (repeat (refine inC ?_; intro hc)); try (refine inK ?_; intro K hK))
  (refine @unH _ ?_; refine z9 Tryz.results47 ?_)
  rw [show Axb places start ts cs = none from hR]
  exact ⟨rfl, lH1⟩
end Go.Proofs.YtgniilnljeedlaaGreatDoor
end
section
namespace Go.X
open Go Go.RowKit
open Go.Conc (G base)
theorem Base.below {W w : World} (h : Base W w) : Below W.heap.size W { w with tape := W.tape } := ⟨h.os, rfl, h.output, h.size, h.block⟩
theorem Base.kept {W w : World} (h : Base W w) (may : MemPlace -> Prop) : W.keptBut w may := by
 have := World.keptBut_refl W may
 refine ⟨h.os, h.output, fun i hi => ?_⟩
 rw [h.block i hi]
 exact this.2.2 i hi
theorem leaving_of_change_and {H : Type} {enc : TypeId × Value -> H} {a : Assume} {C : Checked} {os : Os} {f : FuncId} {fn : Func} {s : ChangeSpec} {conds : List PathCond} {apart fresh handsOn again : Bool} {X : World -> Array Value -> Prop}
  (hX : ∀ (w w' : World) (args : Array Value), w.heap = w'.heap -> X w args -> X w' args)
  (own : ownKnob C.prog.godebug = none) (started : os.Started) (hfn : C.prog.funcs[f]? = some fn)
  (witness : ∃ (w : World) (tape : Tape) (i : Input), w.os = os /\ (w.forCall tape i).Shaped C.prog /\ i.vars = [] /\ Input.okWide C.prog (w.forCall tape i) .any w.heap.size f i /\
   ((s.pre enc C.prog fn conds apart (w.forCall tape i).memory i.args /\ X (w.forCall tape i).memory i.args) /\ sizedMet enc C.prog fn (OpenSpec.ofChange s) apart (w.forCall tape i).memory i.args) /\ a.holds C.prog (lone (Frame.enter C.prog f i.args .normal) [] (w.forCall tape i)))
  (runs : ∀ (W : World) (base : Nat) (args : Array Value) (ds gs : List (DataW H)) (before : List MemPlace),
   (∀ (j : Nat) t v, fn.params[j]? = some t -> args[j]? = some v -> Value.okWide C.prog W .any base t v) ->
   DataW.Whole enc C.prog fn.params.toList s.vars apart W args.toList ds gs before -> X W args ->
   Ends C.prog (fun v W' => s.post enc C.prog fn apart fresh handsOn again W args v W') (Conc.solo (G (Frame.enter C.prog f args .normal) []) W) #[]) :
  ReturnsInLeavingWide a C os f .any (fun w args => (s.pre enc C.prog fn conds apart w args /\ X w args) /\ sizedMet enc C.prog fn (OpenSpec.ofChange s) apart w args) (s.post enc C.prog fn apart fresh handsOn again) := by
 refine returnsInLeavingWide_of_good own started witness ?_
 intro w tape i _ _ _ hok hpre hholds
 obtain ⟨_, _, _, fn', hfn', _, _, _, _, hval⟩ := hok
 have e : fn' = fn := Option.some.inj (hfn'.symm.trans hfn)
 subst e
 obtain ⟨⟨⟨ds, gs, before, hw, hc⟩, hx⟩, hz⟩ := hpre
 have hw' := DataW.Whole.of_heap (w' := w.forCall tape i) (by rfl) hw
 obtain ⟨M, last, o, w', t', h1, h2, h3, h4⟩ := runs (w.forCall tape i) w.heap.size i.args ds gs before hval hw' (hX _ _ _ (by rfl) hx)
 exact ⟨M, last, o, w', t', h1, h2, h3, h4.mono fun v hp => ChangeSpec.post_blind hp⟩
end Go.X
end
