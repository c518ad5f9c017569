/- Texts VKept1 VEval VKept Leave PBase. -/
import Derived.Test.YtgniilnljeedlaaGreatDoorJ22
import Derived.Conc.Holds
import Derived.Conc.LeavingOf
import Derived.Calls
import Derived.Below
import Derived.Carry
import Derived.ChangeSame
import Derived.ChangeVars
import Derived.ChangeSlices
import Derived.JoinedOf
import Derived.RowKit
import Derived.RowKitTokens
import Derived.LaidLaws
import Derived.LaidHandle
import Derived.Stop.Joined
import Derived.Handed
import Derived.Test.YtgniilnljeedlaaGreatDoorRows
set_option linter.defProp false
set_option linter.unusedSimpArgs false
set_option linter.unusedVariables false
set_option maxRecDepth 100000
set_option maxHeartbeats 2000000
section
namespace Go.Proofs.YtgniilnljeedlaaGreatDoor
open Go Go.X
def Bx3 := And.intro (fun H => Aqz (H := H) (P := Tryz.prog) (h := Tryz.zeroValue25)) (And.intro @Ajc (And.intro @Axq (And.intro @Bq5 (And.intro @Awh (fun H => Aq0 (H := H) Tryz.sizeOf25)))))
def Cq7 := @Azx
def Cq8 := @Azx
def Bx4 := And.intro (fun H => Aqz (H := H) (P := Tryz.prog) (h := Tryz.zeroValue25)) (And.intro @Axq (And.intro @Ajc (And.intro @Bj8 (And.intro @Awh (fun H => Aq0 (H := H) Tryz.sizeOf25)))))
theorem Ajk : Aja 2 4 [0, 1] [[2], [0], [1, 3], [0]] := by unfold Aja Bx5; decide
theorem Az2 (main : Md) (H : Hp) : FnX Tryz.prog main 67 #[] H fun e H' => ∃ sv cv, e = .returned (.agg #[.int .i64 2, .int .i64 4, sv, cv]) /\ H.le H' /\ Ajp H' 2 4 sv cv [0, 1] [[2], [0], [1, 3], [0]] := by
 refine Aqk (args := []) Tryz.func67 rfl Tryz.ntmps67 (by simp) ?_
 (refine @unH _ ?_; refine zA Bx3 ?_; (repeat (refine inC ?_; intro hc)); try (refine inK ?_; intro K hK))
 (intro rb hrb; generalize hG : Hp.set _ rb _ = H0; have lH0 := Aqg hG hrb; have vrb := Aqf hG; clear hG)
 have h0rb := hrb
 ((try (refine @unH _ ?_; refine zX Bx3 ?_)); (try (refine hK _ _ ?_; clear hK K; (try simp only [nq, ↓reduceIte, Nat.reduceEqDiff]))); refine @unH _ ?_; refine zA Bx3 ?_; (repeat (refine inC ?_; intro hc)); try (refine inK ?_; intro K hK))
 intro b0 hb0 b1 hb1 b2 hb2 b3 hb3 b4 hb4 b5 hb5
 replace hb1 : (Hp.set H0 b0 _) b1 = none := hb1
 replace hb2 : (Hp.set (Hp.set H0 b0 _) b1 _) b2 = none := hb2
 replace hb3 : (Hp.set (Hp.set (Hp.set H0 b0 _) b1 _) b2 _) b3 = none := hb3
 replace hb4 : (Hp.set (Hp.set (Hp.set (Hp.set H0 b0 _) b1 _) b2 _) b3 _) b4 = none := hb4
 replace hb5 : (Hp.set (Hp.set (Hp.set (Hp.set (Hp.set H0 b0 _) b1 _) b2 _) b3 _) b4 _) b5 = none := hb5
 generalize hG : Hp.set H0 b0 _ = HA1 at hb1 hb2 hb3 hb4 hb5 ⊢
 have lHA1 := Aqg hG hb0
 have vb0 := Aqf hG
 clear hG
 generalize hG : Hp.set HA1 b1 _ = HA2 at hb2 hb3 hb4 hb5 ⊢
 have lHA2 := Aqg hG hb1
 have vb1 := Aqf hG
 clear hG
 generalize hG : Hp.set HA2 b2 _ = HA3 at hb3 hb4 hb5 ⊢
 have lHA3 := Aqg hG hb2
 have vb2 := Aqf hG
 clear hG
 generalize hG : Hp.set HA3 b3 _ = HA4 at hb4 hb5 ⊢
 have lHA4 := Aqg hG hb3
 have vb3 := Aqf hG
 clear hG
 generalize hG : Hp.set HA4 b4 _ = HA5 at hb5 ⊢
 have lHA5 := Aqg hG hb4
 have vb4 := Aqf hG
 clear hG
 generalize hG : Hp.set HA5 b5 _ = HA6
 have lHA6 := Aqg hG hb5
 have vb5 := Aqf hG
 clear hG
 have vr0 := vrb
 have nr0 : rb ≠ b0 := Ax3 vr0 hb0
 have vr1 := lHA1 _ _ vr0
 have nr1 : rb ≠ b1 := Ax3 vr1 hb1
 have vr2 := lHA2 _ _ vr1
 have nr2 : rb ≠ b2 := Ax3 vr2 hb2
 have vr3 := lHA3 _ _ vr2
 have nr3 : rb ≠ b3 := Ax3 vr3 hb3
 have vr4 := lHA4 _ _ vr3
 have nr4 : rb ≠ b4 := Ax3 vr4 hb4
 have vr5 := lHA5 _ _ vr4
 have nr5 : rb ≠ b5 := Ax3 vr5 hb5
 have vr6 := lHA6 _ _ vr5
 clear vr0 vr1 vr2 vr3 vr4 vr5 vr6
 have la5 := Hp.le_refl HA6
 have la4 := Hp.le_trans lHA6 la5
 have la3 := Hp.le_trans lHA5 la4
 have la2 := Hp.le_trans lHA4 la3
 have la1 := Hp.le_trans lHA3 la2
 have la0 := Hp.le_trans lHA2 la1
 have laa := Hp.le_trans lHA1 la0
 have s0 : SlI HA6 (.slice (some ⟨b0, 0, none⟩) 2 2) [0, 1] := Ajm (xs := [0, 1]) (la0 _ _ vb0) rfl
 have s1 : SlI HA6 (.slice (some ⟨b1, 0, none⟩) 1 1) [2] := Ajm (xs := [2]) (la1 _ _ vb1) rfl
 have s2 : SlI HA6 (.slice (some ⟨b2, 0, none⟩) 1 1) [0] := Ajm (xs := [0]) (la2 _ _ vb2) rfl
 have s3 : SlI HA6 (.slice (some ⟨b3, 0, none⟩) 2 2) [1, 3] := Ajm (xs := [1, 3]) (la3 _ _ vb3) rfl
 have s4 : SlI HA6 (.slice (some ⟨b4, 0, none⟩) 1 1) [0] := Ajm (xs := [0]) (la4 _ _ vb4) rfl
 have vrows := la5 _ _ vb5
 have hrows : SlR HA6 (.slice (some ⟨b5, 0, none⟩) 4 4) [[2], [0], [1, 3], [0]] := ⟨_, _, rfl, Nat.le_refl _, fun i xs hi => by
  match i, hi with
  | 0, hi => cases hi; exact ⟨b5, 0, _, _, _, _, rfl, vrows, rfl, s1⟩
  | 1, hi => cases hi; exact ⟨b5, 0, _, _, _, _, rfl, vrows, rfl, s2⟩
  | 2, hi => cases hi; exact ⟨b5, 0, _, _, _, _, rfl, vrows, rfl, s3⟩
  | 3, hi => cases hi; exact ⟨b5, 0, _, _, _, _, rfl, vrows, rfl, s4⟩
  | i + 4, hi => simp at hi⟩
 have vrb1 := laa _ _ vrb
 have lA : H.le HA6 := Hp.le_trans lH0 laa
 have n1 : HA6 rb ≠ none := by rw [vrb1]; simp
 have st : SlI HA6 (.slice (some ⟨b0, 0, none⟩) 2 2) [0, 1] := s0
 clear laa vrows la0 la1 la2 la3 la4 la5 lHA1 lHA2 lHA3 lHA4 lHA5 lHA6 vb0 vb1 vb2 vb3 vb4 vb5 s0 s1 s2 s3 s4 hb0 hb1 hb2 hb3 hb4 hb5 vrb lH0 hrb
 rw [if_neg nr5, if_neg nr4, if_neg nr3, if_neg nr2, if_neg nr1, if_neg nr0]
 ((try (refine @unH _ ?_; refine zX Bx3 ?_)); (try (refine hK _ _ ?_; clear hK K; (try simp only [nq, ↓reduceIte, Nat.reduceEqDiff]))); refine @unH _ ?_; refine zA Bx3 ?_; (repeat (refine inC ?_; intro hc)); try (refine inK ?_; intro K hK))
 (refine Ax2 ?_; (try simp only [nq, ↓reduceIte, Nat.reduceEqDiff]); rw [Axm, Azk Tryz.results67 (by decide) (b := rb) (o := 0) rfl Tryz.underlying25 rfl Tryz.sizeOf25]; simp -implicitDefEqProofs (disch := first | omega | (simp only [qd] <;> omega)) only [xq, ↓xp, qc, Nat.reduceAdd, List.range, List.range.loop, fine, Nat.reduceEqDiff, ↓reduceIte, yielded, reduceCtorEq, Nat.reduceLT, Nat.reduceMul, Nat.reduceSub, one, Nat.reduceLeDiff, Aqa, Bx3, Ajd])
 generalize hG : HA6.set rb _ = H9
 have hmv : ∀ x p c fr e, (e = 3 ∨ e = 22) -> HA6 x = some (p, .cells c e fr) -> H9 x = some (p, .cells c e fr) := fun x p c fr e he hx => by
  rw [<- hG, Aqo (fun h => ?_)]
  ·exact hx
  ·rw [h, vrb1] at hx
   simp only [Option.some.injEq, Prod.mk.injEq, Obj.cells.injEq] at hx
   have h9 := hx.2.2.1
   rcases he with rfl | rfl <;> exact absurd h9 (by decide)
 exact ⟨_, _, rfl, hG ▸ ((Lex.of lA : Lex none H HA6).own h0rb).toLe, st.move fun x p c fr hx => hmv x p c fr _ (.inl rfl) hx, hrows.move hmv, Ajk, by decide⟩
theorem Cvm : Aja 1 2 [0] [[0, 1], [0, 1]] := by unfold Aja Bx5; decide
theorem Bkr (main : Md) (H : Hp) : FnX Tryz.prog main 70 #[] H fun e H' => ∃ sv cv, e = .returned (.agg #[.int .i64 1, .int .i64 2, sv, cv]) /\ H.le H' /\ Ajp H' 1 2 sv cv [0] [[0, 1], [0, 1]] := by
 refine Aqk (args := []) Tryz.func70 rfl Tryz.ntmps70 (by simp) ?_
 (refine @unH _ ?_; refine zA Bx4 ?_; (repeat (refine inC ?_; intro hc)); try (refine inK ?_; intro K hK))
 (intro rb hrb; generalize hG : Hp.set _ rb _ = H0; have lH0 := Aqg hG hrb; have vrb := Aqf hG; clear hG)
 have h0rb := hrb
 ((try (refine @unH _ ?_; refine zX Bx4 ?_)); (try (refine hK _ _ ?_; clear hK K; (try simp only [nq, ↓reduceIte, Nat.reduceEqDiff]))); refine @unH _ ?_; refine zA Bx4 ?_; (repeat (refine inC ?_; intro hc)); try (refine inK ?_; intro K hK))
 intro b0 hb0 b1 hb1 b2 hb2 b3 hb3
 replace hb1 : (Hp.set H0 b0 _) b1 = none := hb1
 replace hb2 : (Hp.set (Hp.set H0 b0 _) b1 _) b2 = none := hb2
 replace hb3 : (Hp.set (Hp.set (Hp.set H0 b0 _) b1 _) b2 _) b3 = none := hb3
 generalize hG : Hp.set H0 b0 _ = HA1 at hb1 hb2 hb3 ⊢
 have lHA1 := Aqg hG hb0
 have vb0 := Aqf hG
 clear hG
 generalize hG : Hp.set HA1 b1 _ = HA2 at hb2 hb3 ⊢
 have lHA2 := Aqg hG hb1
 have vb1 := Aqf hG
 clear hG
 generalize hG : Hp.set HA2 b2 _ = HA3 at hb3 ⊢
 have lHA3 := Aqg hG hb2
 have vb2 := Aqf hG
 clear hG
 generalize hG : Hp.set HA3 b3 _ = HA4
 have lHA4 := Aqg hG hb3
 have vb3 := Aqf hG
 clear hG
 have vr0 := vrb
 have nr0 : rb ≠ b0 := Ax3 vr0 hb0
 have vr1 := lHA1 _ _ vr0
 have nr1 : rb ≠ b1 := Ax3 vr1 hb1
 have vr2 := lHA2 _ _ vr1
 have nr2 : rb ≠ b2 := Ax3 vr2 hb2
 have vr3 := lHA3 _ _ vr2
 have nr3 : rb ≠ b3 := Ax3 vr3 hb3
 have vr4 := lHA4 _ _ vr3
 clear vr0 vr1 vr2 vr3 vr4
 have la3 := Hp.le_refl HA4
 have la2 := Hp.le_trans lHA4 la3
 have la1 := Hp.le_trans lHA3 la2
 have la0 := Hp.le_trans lHA2 la1
 have laa := Hp.le_trans lHA1 la0
 have s0 : SlI HA4 (.slice (some ⟨b0, 0, none⟩) 1 1) [0] := Ajm (xs := [0]) (la0 _ _ vb0) rfl
 have s1 : SlI HA4 (.slice (some ⟨b1, 0, none⟩) 2 2) [0, 1] := Ajm (xs := [0, 1]) (la1 _ _ vb1) rfl
 have s2 : SlI HA4 (.slice (some ⟨b2, 0, none⟩) 2 2) [0, 1] := Ajm (xs := [0, 1]) (la2 _ _ vb2) rfl
 have vrows := la3 _ _ vb3
 have hrows : SlR HA4 (.slice (some ⟨b3, 0, none⟩) 2 2) [[0, 1], [0, 1]] := ⟨_, _, rfl, Nat.le_refl _, fun i xs hi => by
  match i, hi with
  | 0, hi => cases hi; exact ⟨b3, 0, _, _, _, _, rfl, vrows, rfl, s1⟩
  | 1, hi => cases hi; exact ⟨b3, 0, _, _, _, _, rfl, vrows, rfl, s2⟩
  | i + 2, hi => simp at hi⟩
 have vrb1 := laa _ _ vrb
 have lA : H.le HA4 := Hp.le_trans lH0 laa
 have n1 : HA4 rb ≠ none := by rw [vrb1]; simp
 have st : SlI HA4 (.slice (some ⟨b0, 0, none⟩) 1 1) [0] := s0
 clear laa vrows la0 la1 la2 la3 lHA1 lHA2 lHA3 lHA4 vb0 vb1 vb2 vb3 s0 s1 s2 hb0 hb1 hb2 hb3 vrb lH0 hrb
 rw [if_neg nr3, if_neg nr2, if_neg nr1, if_neg nr0]
 ((try (refine @unH _ ?_; refine zX Bx4 ?_)); (try (refine hK _ _ ?_; clear hK K; (try simp only [nq, ↓reduceIte, Nat.reduceEqDiff]))); refine @unH _ ?_; refine zA Bx4 ?_; (repeat (refine inC ?_; intro hc)); try (refine inK ?_; intro K hK))
 (refine Ax2 ?_; (try simp only [nq, ↓reduceIte, Nat.reduceEqDiff]); rw [Axm, Azk Tryz.results70 (by decide) (b := rb) (o := 0) rfl Tryz.underlying25 rfl Tryz.sizeOf25]; simp -implicitDefEqProofs (disch := first | omega | (simp only [qd] <;> omega)) only [xq, ↓xp, qc, Nat.reduceAdd, List.range, List.range.loop, fine, Nat.reduceEqDiff, ↓reduceIte, yielded, reduceCtorEq, Nat.reduceLT, Nat.reduceMul, Nat.reduceSub, one, Nat.reduceLeDiff, Aqa, Bx4, Ajd])
 generalize hG : HA4.set rb _ = H9
 have hmv : ∀ x p c fr e, (e = 3 ∨ e = 22) -> HA4 x = some (p, .cells c e fr) -> H9 x = some (p, .cells c e fr) := fun x p c fr e he hx => by
  rw [<- hG, Aqo (fun h => ?_)]
  ·exact hx
  ·rw [h, vrb1] at hx
   simp only [Option.some.injEq, Prod.mk.injEq, Obj.cells.injEq] at hx
   have h9 := hx.2.2.1
   rcases he with rfl | rfl <;> exact absurd h9 (by decide)
 exact ⟨_, _, rfl, hG ▸ ((Lex.of lA : Lex none H HA4).own h0rb).toLe, st.move fun x p c fr hx => hmv x p c fr _ (.inl rfl) hx, hrows.move hmv, Cvm, by decide⟩
theorem Akz (main : Md) (H : Hp) : FnX Tryz.prog main 68 #[] H fun e H' => ∃ v, e = .returned v /\ H.le H' /\ SlI H' v [2, 0, 1, 0] := by
 refine Aqk (args := []) Tryz.func68 rfl Tryz.ntmps68 (by simp) ?_
 (refine @unH _ ?_; refine zA @Cq7 ?_; (repeat (refine inC ?_; intro hc)); try (refine inK ?_; intro K hK))
 (intro rb hrb; generalize hG : Hp.set _ rb _ = H0; have lH0 := Aqg hG hrb; have vrb := Aqf hG; clear hG)
 ((try (refine @unH _ ?_; refine zX @Cq7 ?_)); (try (refine hK _ _ ?_; clear hK K; (try simp only [nq, ↓reduceIte, Nat.reduceEqDiff]))); refine @unH _ ?_; refine zA @Cq7 ?_; (repeat (refine inC ?_; intro hc)); try (refine inK ?_; intro K hK))
 (refine @unH _ ?_; refine z9 Tryz.results68 ?_)
 exact ⟨_, rfl, lH0, Ajm (xs := [2, 0, 1, 0]) vrb rfl⟩
theorem Cz2 (main : Md) (H : Hp) : FnX Tryz.prog main 69 #[] H fun e H' => ∃ v, e = .returned v /\ H.le H' /\ SlI H' v [2, 0, 3, 0] := by
 refine Aqk (args := []) Tryz.func69 rfl Tryz.ntmps69 (by simp) ?_
 (refine @unH _ ?_; refine zA @Cq8 ?_; (repeat (refine inC ?_; intro hc)); try (refine inK ?_; intro K hK))
 (intro rb hrb; generalize hG : Hp.set _ rb _ = H0; have lH0 := Aqg hG hrb; have vrb := Aqf hG; clear hG)
 ((try (refine @unH _ ?_; refine zX @Cq8 ?_)); (try (refine hK _ _ ?_; clear hK K; (try simp only [nq, ↓reduceIte, Nat.reduceEqDiff]))); refine @unH _ ?_; refine zA @Cq8 ?_; (repeat (refine inC ?_; intro hc)); try (refine inK ?_; intro K hK))
 (refine @unH _ ?_; refine z9 Tryz.results69 ?_)
 exact ⟨_, rfl, lH0, Ajm (xs := [2, 0, 3, 0]) vrb rfl⟩
theorem Aw6 : Az9 [[2], [0], [1, 3], [0]] [2, 0, 1, 0] := by
 refine ⟨rfl, fun i t xs ht hx => ?_⟩
 match i, ht, hx with
 | 0, ht, hx => cases ht; cases hx; decide
 | 1, ht, hx => cases ht; cases hx; decide
 | 2, ht, hx => cases ht; cases hx; decide
 | 3, ht, hx => cases ht; cases hx; decide
 | i + 4, ht, hx => simp at ht
theorem Cyf : Az9 [[2], [0], [1, 3], [0]] [2, 0, 3, 0] := by
 refine ⟨rfl, fun i t xs ht hx => ?_⟩
 match i, ht, hx with
 | 0, ht, hx => cases ht; cases hx; decide
 | 1, ht, hx => cases ht; cases hx; decide
 | 2, ht, hx => cases ht; cases hx; decide
 | 3, ht, hx => cases ht; cases hx; decide
 | i + 4, ht, hx => simp at ht
theorem runE : (rrun 2 0 [2, 0, 1, 0] (rs0 [0, 1]) 4).f = 4 := by kernel_rfl
theorem Dj3 : (rrun 2 0 [2, 0, 1, 0] (rs0 [0, 1]) 4).cl.take 4 = [0, 1, 0, 1] := by kernel_rfl
theorem Djt : optF 4 2 [2, 0, 1, 0] (oOf [0, 1]) = 2 := by kernel_rfl
theorem Dzo : Akm 4 2 [2, 0, 1, 0] (oOf [0, 1]) = [0, 2, -1, -1] := by kernel_rfl
theorem Dzw : (Axw 4 2 [2, 0, 1, 0] (oOf [0, 1])).length = 2 := by kernel_rfl
theorem Dj7 : Cy0 ((Axw 4 2 [2, 0, 3, 0] (oOf [0, 1])).countP fun cs => cs.getD 0 0 == 1) (Axw 4 2 [2, 0, 3, 0] (oOf [0, 1])).length = 1 := by kernel_rfl
theorem Dx2 : Azh 2 [2, 0, 1, 0] 4 0 = [0, 2] := by kernel_rfl
theorem Dx3 : Ayz [0, 1] [2, 0, 1, 0] 1 = some 3 := by kernel_rfl
theorem fewE : bdT (fewF 1 [0]) (Aqt [[0, 1], [0, 1]]) = ⟨0, 2, true⟩ := by kernel_rfl
theorem Dj2 : (Azy (fun r => regF 2 r [0, 1] [[2], [0], [1, 3], [0]]) 4).1 = 1 := by kernel_rfl
theorem askE : askF 1 [0] [[0, 1], [0, 1]] = (0, 1) := by kernel_rfl
end Go.Proofs.YtgniilnljeedlaaGreatDoor
end
section
namespace Go.X
open Go
theorem Bzs {P : Program} {H : Hp} {t : TypeId} (h : P.eqGuardType P.depth t = false) (op : BinOp) (x y : Operand) (p q : Array Value) (K : Unit -> Hp -> Prop) (E : Value -> Hp -> Prop) : wpS P (eqGuard op t x y (.agg p) (.agg q)) H K E = K () H := by
 unfold eqGuard
 cases op <;> first | rfl | (simp only [Aqb, Bqm, h, Bool.not_false, if_true]; first | rfl | (simp [Aqb, Bqm, h, Aqi]; done))
theorem Bzm {P : Program} {H : Hp} {ks : TypeId} (h : Key2 P ks .i64 .i64) (a b c d : Int) (K : Value -> Hp -> Prop) (E : Value -> Hp -> Prop) :
  wpS P (binOp .eql ks (.agg #[.int .i64 a, .int .i64 b]) (.agg #[.int .i64 c, .int .i64 d])) H K E = K (.bool (a == c && b == d)) H := by
 simp only [binOp]
 rw [Aqb, Bq1 h]
 rfl
theorem bin_neq2 {P : Program} {H : Hp} {ks : TypeId} (h : Key2 P ks .i64 .i64) (a b c d : Int) (K : Value -> Hp -> Prop) (E : Value -> Hp -> Prop) :
  wpS P (binOp .neq ks (.agg #[.int .i64 a, .int .i64 b]) (.agg #[.int .i64 c, .int .i64 d])) H K E = K (.bool !(a == c && b == d)) H := by
 simp only [binOp]
 rw [Aqb, Bq1 h]
 rfl
end Go.X
namespace Go.Proofs.YtgniilnljeedlaaGreatDoor
open Go Go.X
def Aq1 := And.intro @Dxd (And.intro @Dxe (And.intro @Dq2 (And.intro @Dq5 (And.intro @Dq6 (And.intro @Dxf (And.intro @Dq7 (And.intro @Dq4 (And.intro @Dq8 (And.intro @Dxg (And.intro @Dxb (And.intro (fun H => Aqz (H := H) (P := Tryz.prog) (h := Tryz.zeroValue61)) (And.intro (fun H => Aq0 (H := H) Tryz.sizeOf61) (And.intro @Dxc (And.intro @Dxa (And.intro (fun H => Aqs (H := H) Tryz.underlying61 rfl Tryz.sizeOf61) (And.intro @Bx9 (And.intro @Azx (And.intro @Dq3 @Ajc))))))))))))))))))
theorem Cv5 {p q : Prop} (g : q) (h : Hid q -> p := by
 intro g
 repeat' (first
 | (refine Axk rfl ?_; intro Kz hKz; simp -implicitDefEqProofs (disch := first | omega | (simp only [qd] <;> omega)) only [xq, ↓xp, qc, Nat.reduceAdd, List.range, List.range.loop, fine, Nat.reduceEqDiff, ↓reduceIte, yielded, reduceCtorEq, Nat.reduceLT, Nat.reduceMul, Nat.reduceSub, one, Nat.reduceLeDiff, Aqa, Aq1, aq, ↓ap, qe0, qe1, qe2, *, -g, -hKz, Bzs Bq3, Bzm Bvl]; try (refine hKz _ _ ?_; clear hKz Kz))
 | (refine Axv rfl ?_; intro Kz hKz; simp -implicitDefEqProofs (disch := first | omega | (simp only [qd] <;> omega)) only [xq, ↓xp, qc, Nat.reduceAdd, List.range, List.range.loop, fine, Nat.reduceEqDiff, ↓reduceIte, yielded, reduceCtorEq, Nat.reduceLT, Nat.reduceMul, Nat.reduceSub, one, Nat.reduceLeDiff, Aqa, Aq1, aq, ↓ap, qe0, qe1, qe2, *, -g, -hKz, Bzs Bq3, Bzm Bvl]; try (refine hKz _ _ ?_; clear hKz Kz; (try simp only [nq, ↓reduceIte, Nat.reduceEqDiff])))
 | (refine Aqv ?_; (try simp only [nq, ↓reduceIte, Nat.reduceEqDiff]))
 | (refine Axu ?_; (try simp only [nq, ↓reduceIte, Nat.reduceEqDiff]))
 | (refine Aq7 ?_; (try simp only [nq, ↓reduceIte, Nat.reduceEqDiff]))
 | (refine Azc ?_; (try simp only [nq, ↓reduceIte, Nat.reduceEqDiff]))
 | (refine Ax0 (by simp only [Aqn, Aqr, Nat.reduceEqDiff, Nat.reduceLT, ↓reduceIte, *, -g]; rfl) ?_ ?_ <;> (intro hcz; first | (exfalso; simp -implicitDefEqProofs (disch := omega) only [*, -g, bq, reduceCtorEq] at hcz; done) | (simp only [dq, qe3, qe4, qe5, qe6] at hcz) | skip))
 | (refine Axo ?_)
 | (refine Aqp ?_)
 | (refine Aql ?_))
 (try (revert Kz; refine unK ?_)); (repeat (revert hcz; refine unC ?_))
 exact Hid.out g) : Hid p := ⟨h ⟨g⟩⟩
theorem Cv1 {p q : Prop} (g : q) (h : Hid q -> p := by
 intro g
 simp -implicitDefEqProofs (disch := first | omega | (simp only [qd] <;> omega)) only [xq, ↓xp, qc, Nat.reduceAdd, List.range, List.range.loop, fine, Nat.reduceEqDiff, ↓reduceIte, yielded, reduceCtorEq, Nat.reduceLT, Nat.reduceMul, Nat.reduceSub, one, Nat.reduceLeDiff, Aqa, Aq1, aq, ↓ap, qe0, qe1, qe2, *, -g, -hK, Bzs Bq3, Bzm Bvl]
 exact Hid.out g) : Hid p := ⟨h ⟨g⟩⟩
theorem Bvl : Key2 Tryz.prog 61 .i64 .i64 := ⟨⟨_, _, Tryz.underlying61, by decide, by decide, rfl, rfl, ⟨_, Tryz.underlying3⟩, ⟨_, Tryz.underlying3⟩⟩, by kernel_rfl⟩
theorem Bq3 : Program.eqGuardType Tryz.prog (Program.depth Tryz.prog) 61 = false := by kernel_rfl
theorem kept_spec (H : Hp) : FnX Tryz.prog (.wg Tryz.prog) 22 #[] H fun e H' => e = .returned (.bool true) /\ H.le H' := by
 refine Aqk (args := []) Tryz.func22 rfl Tryz.ntmps22 (by simp) ?_
 (refine @unH _ ?_; refine zA Aq1 ?_; (repeat (refine inC ?_; intro hc)); try (refine inK ?_; intro K hK))
 refine (Az2 _ H).runs.mono ?_
 rintro _ A1 ⟨sv1, cv1, rfl, lA1, hv1⟩
 have tA1 := lA1
 clear lA1
 ((try (refine @unH _ ?_; refine zX Aq1 ?_)); (try (refine hK _ _ ?_; clear hK K; (try simp only [nq, ↓reduceIte, Nat.reduceEqDiff]))); refine @unH _ ?_; refine zA Aq1 ?_; (repeat (refine inC ?_; intro hc)); try (refine inK ?_; intro K hK))
 refine (Akz _ A1).runs.mono ?_
 rintro _ B1 ⟨tv1, rfl, lB1, ht1⟩
 have hd1 : Awq B1 2 4 sv1 cv1 tv1 [0, 1] [[2], [0], [1, 3], [0]] [2, 0, 1, 0] := ⟨(hv1.le lB1).st, (hv1.le lB1).calls, ht1, Ajk, by decide, Aw6⟩
 clear hv1 ht1
 have tB1 := Hp.le_trans tA1 lB1
 clear lB1 tA1
 ((try (refine @unH _ ?_; refine zX Aq1 ?_)); (try (refine hK _ _ ?_; clear hK K; (try simp only [nq, ↓reduceIte, Nat.reduceEqDiff]))); refine @unH _ ?_; refine zA Aq1 ?_; (repeat (refine inC ?_; intro hc)); try (refine inK ?_; intro K hK))
 refine (Cvt _ _ 2 4 _ _ _ _ _ _ hd1 0 (by omega) (by omega)).runs.mono ?_
 rintro _ C1 ⟨rv, rfl, lC1, hr⟩
 simp only [List.length_cons, List.length_nil] at hr ⊢
 rw [show (rrun 2 0 [2, 0, 1, 0] (rs0 [0, 1]) (0 + 1 + 1 + 1 + 1)).cl.take (0 + 1 + 1 + 1 + 1) = [0, 1, 0, 1] from Dj3] at hr
 rw [show (rrun 2 0 [2, 0, 1, 0] (rs0 [0, 1]) (0 + 1 + 1 + 1 + 1)).f = 4 from runE, show ((4 : Nat) : Int) = 4 from rfl]
 clear hd1
 have tC1 := Hp.le_trans tB1 lC1
 clear lC1 tB1
 ((try (refine @unH _ ?_; refine zX Aq1 ?_)); (try (refine hK _ _ ?_; clear hK K; (try simp only [nq, ↓reduceIte, Nat.reduceEqDiff]))); refine @unH _ ?_; refine zA Aq1 ?_; (repeat (refine inC ?_; intro hc)); try (refine inK ?_; intro K hK))
 refine (Az2 _ C1).runs.mono ?_
 rintro _ A2 ⟨sv2, cv2, rfl, lA2, hv2⟩
 have hr_A2 := hr.le lA2
 clear hr
 have tA2 := Hp.le_trans tC1 lA2
 clear lA2 tC1
 ((try (refine @unH _ ?_; refine zX Aq1 ?_)); (try (refine hK _ _ ?_; clear hK K; (try simp only [nq, ↓reduceIte, Nat.reduceEqDiff]))); refine @unH _ ?_; refine zA Aq1 ?_; (repeat (refine inC ?_; intro hc)); try (refine inK ?_; intro K hK))
 refine (Akz _ A2).runs.mono ?_
 rintro _ B2 ⟨tv2, rfl, lB2, ht2⟩
 have hr_B2 := hr_A2.le lB2
 clear hr_A2
 have hd2 : Awq B2 2 4 sv2 cv2 tv2 [0, 1] [[2], [0], [1, 3], [0]] [2, 0, 1, 0] := ⟨(hv2.le lB2).st, (hv2.le lB2).calls, ht2, Ajk, by decide, Aw6⟩
 clear hv2 ht2
 have tB2 := Hp.le_trans tA2 lB2
 clear lB2 tA2
 ((try (refine @unH _ ?_; refine zX Aq1 ?_)); (try (refine hK _ _ ?_; clear hK K; (try simp only [nq, ↓reduceIte, Nat.reduceEqDiff]))); refine @unH _ ?_; refine zA Aq1 ?_; (repeat (refine inC ?_; intro hc)); try (refine inK ?_; intro K hK))
 refine (Cj3 _ _ 2 4 _ _ _ _ _ _ hd2).runs.mono ?_
 rintro _ C2 ⟨bv, rfl, hb, lC2⟩
 have hr_C2 := hr_B2.le lC2
 clear hr_B2
 simp only [List.length_cons, List.length_nil] at hb ⊢
 rw [show Akm (0 + 1 + 1 + 1 + 1) 2 [2, 0, 1, 0] (oOf [0, 1]) = [0, 2, -1, -1] from Dzo] at hb
 rw [show optF (0 + 1 + 1 + 1 + 1) 2 [2, 0, 1, 0] (oOf [0, 1]) = 2 from Djt, show ((2 : Nat) : Int) = 2 from rfl]
 clear hd2
 have tC2 := Hp.le_trans tB2 lC2
 clear lC2 tB2
 ((try (refine @unH _ ?_; refine zX Aq1 ?_)); (try (refine hK _ _ ?_; clear hK K; (try simp only [nq, ↓reduceIte, Nat.reduceEqDiff]))); refine @unH _ ?_; refine zA Aq1 ?_; (repeat (refine inC ?_; intro hc)); try (refine inK ?_; intro K hK))
 refine (Az2 _ C2).runs.mono ?_
 rintro _ A3 ⟨sv3, cv3, rfl, lA3, hv3⟩
 have hr_A3 := hr_C2.le lA3
 have hb_A3 := hb.le lA3
 clear hr_C2 hb
 have tA3 := Hp.le_trans tC2 lA3
 clear lA3 tC2
 ((try (refine @unH _ ?_; refine zX Aq1 ?_)); (try (refine hK _ _ ?_; clear hK K; (try simp only [nq, ↓reduceIte, Nat.reduceEqDiff]))); refine @unH _ ?_; refine zA Aq1 ?_; (repeat (refine inC ?_; intro hc)); try (refine inK ?_; intro K hK))
 refine (Akz _ A3).runs.mono ?_
 rintro _ B3 ⟨tv3, rfl, lB3, ht3⟩
 have hr_B3 := hr_A3.le lB3
 have hb_B3 := hb_A3.le lB3
 clear hr_A3 hb_A3
 have hd3 : Awq B3 2 4 sv3 cv3 tv3 [0, 1] [[2], [0], [1, 3], [0]] [2, 0, 1, 0] := ⟨(hv3.le lB3).st, (hv3.le lB3).calls, ht3, Ajk, by decide, Aw6⟩
 clear hv3 ht3
 have tB3 := Hp.le_trans tA3 lB3
 clear lB3 tA3
 ((try (refine @unH _ ?_; refine zX Aq1 ?_)); (try (refine hK _ _ ?_; clear hK K; (try simp only [nq, ↓reduceIte, Nat.reduceEqDiff]))); refine @unH _ ?_; refine zA Aq1 ?_; (repeat (refine inC ?_; intro hc)); try (refine inK ?_; intro K hK))
 refine (Cqc _ _ 2 4 _ _ _ _ _ _ hd3).runs.mono ?_
 rintro _ C3 ⟨rfl, lC3⟩
 have hr_C3 := hr_B3.le lC3
 have hb_C3 := hb_B3.le lC3
 clear hr_B3 hb_B3
 rw [show (Axw ([2, 0, 1, 0] : List Int).length 2 [2, 0, 1, 0] (oOf [0, 1])).length = 2 from Dzw, show ((2 : Nat) : Int) = 2 from rfl]
 clear hd3
 have tC3 := Hp.le_trans tB3 lC3
 clear lC3 tB3
 ((try (refine @unH _ ?_; refine zX Aq1 ?_)); (try (refine hK _ _ ?_; clear hK K; (try simp only [nq, ↓reduceIte, Nat.reduceEqDiff]))); refine @unH _ ?_; refine zA Aq1 ?_; (repeat (refine inC ?_; intro hc)); try (refine inK ?_; intro K hK))
 refine (Az2 _ C3).runs.mono ?_
 rintro _ A4 ⟨sv4, cv4, rfl, lA4, hv4⟩
 have hr_A4 := hr_C3.le lA4
 have hb_A4 := hb_C3.le lA4
 clear hr_C3 hb_C3
 have tA4 := Hp.le_trans tC3 lA4
 clear lA4 tC3
 ((try (refine @unH _ ?_; refine zX Aq1 ?_)); (try (refine hK _ _ ?_; clear hK K; (try simp only [nq, ↓reduceIte, Nat.reduceEqDiff]))); refine @unH _ ?_; refine zA Aq1 ?_; (repeat (refine inC ?_; intro hc)); try (refine inK ?_; intro K hK))
 refine (Cz2 _ A4).runs.mono ?_
 rintro _ B4 ⟨tv4, rfl, lB4, ht4⟩
 have hr_B4 := hr_A4.le lB4
 have hb_B4 := hb_A4.le lB4
 clear hr_A4 hb_A4
 have hd4 : Awq B4 2 4 sv4 cv4 tv4 [0, 1] [[2], [0], [1, 3], [0]] [2, 0, 3, 0] := ⟨(hv4.le lB4).st, (hv4.le lB4).calls, ht4, Ajk, by decide, Cyf⟩
 clear hv4 ht4
 have tB4 := Hp.le_trans tA4 lB4
 clear lB4 tA4
 ((try (refine @unH _ ?_; refine zX Aq1 ?_)); (try (refine hK _ _ ?_; clear hK K; (try simp only [nq, ↓reduceIte, Nat.reduceEqDiff]))); refine @unH _ ?_; refine zA Aq1 ?_; (repeat (refine inC ?_; intro hc)); try (refine inK ?_; intro K hK))
 refine (Cjm _ _ 2 4 _ _ _ _ _ _ hd4 0 1 (by omega) (by decide) (by omega) (by omega)).runs.mono ?_
 rintro _ C4 ⟨rfl, lC4⟩
 have hr_C4 := hr_B4.le lC4
 have hb_C4 := hb_B4.le lC4
 clear hr_B4 hb_B4
 rw [show Cy0 ((Axw ([2, 0, 3, 0] : List Int).length 2 [2, 0, 3, 0] (oOf [0, 1])).countP fun cs => cs.getD (0 : Int).toNat 0 == 1) (Axw ([2, 0, 3, 0] : List Int).length 2 [2, 0, 3, 0] (oOf [0, 1])).length = 1 from Dj7]
 clear hd4
 have tC4 := Hp.le_trans tB4 lC4
 clear lC4 tB4
 ((try (refine @unH _ ?_; refine zX Aq1 ?_)); (try (refine hK _ _ ?_; clear hK K; (try simp only [nq, ↓reduceIte, Nat.reduceEqDiff]))); refine @unH _ ?_; refine zA Aq1 ?_; (repeat (refine inC ?_; intro hc)); try (refine inK ?_; intro K hK))
 refine (Az2 _ C4).runs.mono ?_
 rintro _ A5 ⟨sv5, cv5, rfl, lA5, hv5⟩
 have hr_A5 := hr_C4.le lA5
 have hb_A5 := hb_C4.le lA5
 clear hr_C4 hb_C4
 have tA5 := Hp.le_trans tC4 lA5
 clear lA5 tC4
 ((try (refine @unH _ ?_; refine zX Aq1 ?_)); (try (refine hK _ _ ?_; clear hK K; (try simp only [nq, ↓reduceIte, Nat.reduceEqDiff]))); refine @unH _ ?_; refine zA Aq1 ?_; (repeat (refine inC ?_; intro hc)); try (refine inK ?_; intro K hK))
 refine (Akz _ A5).runs.mono ?_
 rintro _ B5 ⟨tv5, rfl, lB5, ht5⟩
 have hr_B5 := hr_A5.le lB5
 have hb_B5 := hb_A5.le lB5
 clear hr_A5 hb_A5
 have hd5 : Awq B5 2 4 sv5 cv5 tv5 [0, 1] [[2], [0], [1, 3], [0]] [2, 0, 1, 0] := ⟨(hv5.le lB5).st, (hv5.le lB5).calls, ht5, Ajk, by decide, Aw6⟩
 clear hv5 ht5
 have tB5 := Hp.le_trans tA5 lB5
 clear lB5 tA5
 ((try (refine @unH _ ?_; refine zX Aq1 ?_)); (try (refine hK _ _ ?_; clear hK K; (try simp only [nq, ↓reduceIte, Nat.reduceEqDiff]))); refine @unH _ ?_; refine zA Aq1 ?_; (repeat (refine inC ?_; intro hc)); try (refine inK ?_; intro K hK))
 refine (Byj _ _ 2 4 _ _ _ _ _ _ hd5).runs.mono ?_
 rintro _ C5 ⟨pv, rfl, lC5, hp⟩
 have hr_C5 := hr_B5.le lC5
 have hb_C5 := hb_B5.le lC5
 clear hr_B5 hb_B5
 rw [show Azh 2 [2, 0, 1, 0] ([2, 0, 1, 0] : List Int).length 0 = [0, 2] from Dx2] at hp
 clear hd5
 have tC5 := Hp.le_trans tB5 lC5
 clear lC5 tB5
 ((try (refine @unH _ ?_; refine zX Aq1 ?_)); (try (refine hK _ _ ?_; clear hK K; (try simp only [nq, ↓reduceIte, Nat.reduceEqDiff]))); refine @unH _ ?_; refine zA Aq1 ?_; (repeat (refine inC ?_; intro hc)); try (refine inK ?_; intro K hK))
 refine (Az2 _ C5).runs.mono ?_
 rintro _ A6 ⟨sv6, cv6, rfl, lA6, hv6⟩
 have hr_A6 := hr_C5.le lA6
 have hb_A6 := hb_C5.le lA6
 have hp_A6 := hp.le lA6
 clear hr_C5 hb_C5 hp
 have tA6 := Hp.le_trans tC5 lA6
 clear lA6 tC5
 ((try (refine @unH _ ?_; refine zX Aq1 ?_)); (try (refine hK _ _ ?_; clear hK K; (try simp only [nq, ↓reduceIte, Nat.reduceEqDiff]))); refine @unH _ ?_; refine zA Aq1 ?_; (repeat (refine inC ?_; intro hc)); try (refine inK ?_; intro K hK))
 refine (Akz _ A6).runs.mono ?_
 rintro _ B6 ⟨tv6, rfl, lB6, ht6⟩
 have hr_B6 := hr_A6.le lB6
 have hb_B6 := hb_A6.le lB6
 have hp_B6 := hp_A6.le lB6
 clear hr_A6 hb_A6 hp_A6
 have hd6 : Awq B6 2 4 sv6 cv6 tv6 [0, 1] [[2], [0], [1, 3], [0]] [2, 0, 1, 0] := ⟨(hv6.le lB6).st, (hv6.le lB6).calls, ht6, Ajk, by decide, Aw6⟩
 clear hv6 ht6
 have tB6 := Hp.le_trans tA6 lB6
 clear lB6 tA6
 ((try (refine @unH _ ?_; refine zX Aq1 ?_)); (try (refine hK _ _ ?_; clear hK K; (try simp only [nq, ↓reduceIte, Nat.reduceEqDiff]))); refine @unH _ ?_; refine zA Aq1 ?_; (repeat (refine inC ?_; intro hc)); try (refine inK ?_; intro K hK))
 refine (Byk _ _ 2 4 _ _ _ _ _ _ hd6 1 (by omega)).runs.mono ?_
 rintro _ C6 ⟨rfl, lC6⟩
 have hr_C6 := hr_B6.le lC6
 have hb_C6 := hb_B6.le lC6
 have hp_C6 := hp_B6.le lC6
 clear hr_B6 hb_B6 hp_B6
 rw [show Ayz [0, 1] [2, 0, 1, 0] 1 = some 3 from Dx3]
 clear hd6
 simp only [Option.getD_some, Option.isSome_some, if_true]
 have tC6 := Hp.le_trans tB6 lC6
 clear lC6 tB6
 ((try (refine @unH _ ?_; refine zX Aq1 ?_)); (try (refine hK _ _ ?_; clear hK K; (try simp only [nq, ↓reduceIte, Nat.reduceEqDiff]))); refine @unH _ ?_; refine zA Aq1 ?_; (repeat (refine inC ?_; intro hc)); try (refine inK ?_; intro K hK))
 refine (Bkr _ C6).runs.mono ?_
 rintro _ A7 ⟨sv7, cv7, rfl, lA7, hv7⟩
 have hr_A7 := hr_C6.le lA7
 have hb_A7 := hb_C6.le lA7
 have hp_A7 := hp_C6.le lA7
 clear hr_C6 hb_C6 hp_C6
 have tA7 := Hp.le_trans tC6 lA7
 clear lA7 tC6
 ((try (refine @unH _ ?_; refine zX Aq1 ?_)); (try (refine hK _ _ ?_; clear hK K; (try simp only [nq, ↓reduceIte, Nat.reduceEqDiff]))); refine @unH _ ?_; refine zA Aq1 ?_; (repeat (refine inC ?_; intro hc)); try (refine inK ?_; intro K hK))
 refine (Byh _ 1 2 _ _ _ _ hv7).runs.mono ?_
 rintro _ C7 ⟨rfl, lC7⟩
 have hr_C7 := hr_A7.le lC7
 have hb_C7 := hb_A7.le lC7
 have hp_C7 := hp_A7.le lC7
 clear hr_A7 hb_A7 hp_A7
 have tC7 := Hp.le_trans tA7 lC7
 clear lC7 tA7
 rw [fewE]
 clear hv7
 ((try (refine @unH _ ?_; refine zX Aq1 ?_)); (try (refine hK _ _ ?_; clear hK K; (try simp only [nq, ↓reduceIte, Nat.reduceEqDiff]))); refine @unH _ ?_; refine zA Aq1 ?_; (repeat (refine inC ?_; intro hc)); try (refine inK ?_; intro K hK))
 (intro bb hbb; generalize hG : Hp.set _ bb _ = D7; have lD7 := Aqg hG hbb; have vbb := Aqf hG; clear hG)
 have hr_D7 := hr_C7.le lD7
 have hb_D7 := hb_C7.le lD7
 have hp_D7 := hp_C7.le lD7
 clear hr_C7 hb_C7 hp_C7
 have tD7 := Hp.le_trans tC7 lD7
 clear lD7 tC7
 clear hbb
 ((try (refine @unH _ ?_; refine zX Aq1 ?_)); (try (refine hK _ _ ?_; clear hK K; (try simp only [nq, ↓reduceIte, Nat.reduceEqDiff]))); refine @unH _ ?_; refine zA Aq1 ?_; (repeat (refine inC ?_; intro hc)); try (refine inK ?_; intro K hK))
 refine (Az2 _ D7).runs.mono ?_
 rintro _ A8 ⟨sv8, cv8, rfl, lA8, hv8⟩
 have hr_A8 := hr_D7.le lA8
 have hb_A8 := hb_D7.le lA8
 have hp_A8 := hp_D7.le lA8
 clear hr_D7 hb_D7 hp_D7
 have lA8x := lA8
 have tA8 := Hp.le_trans tD7 lA8
 clear lA8 tD7
 ((try (refine @unH _ ?_; refine zX Aq1 ?_)); (try (refine hK _ _ ?_; clear hK K; (try simp only [nq, ↓reduceIte, Nat.reduceEqDiff]))); refine @unH _ ?_; refine zA Aq1 ?_; (repeat (refine inC ?_; intro hc)); try (refine inK ?_; intro K hK))
 refine (Cjs _ 2 4 _ _ _ _ hv8).runs.mono ?_
 rintro _ C8 ⟨rfl, lC8⟩
 have hr_C8 := hr_A8.le lC8
 have hb_C8 := hb_A8.le lC8
 have hp_C8 := hp_A8.le lC8
 clear hr_A8 hb_A8 hp_A8
 have vbb8 := lC8 _ _ (lA8x _ _ vbb)
 have tC8 := Hp.le_trans tA8 lC8
 clear lC8 tA8
 rw [Dj2]
 clear hv8
 ((try (refine @unH _ ?_; refine zX Aq1 ?_)); (try (refine hK _ _ ?_; clear hK K; (try simp only [nq, ↓reduceIte, Nat.reduceEqDiff]))); refine @unH _ ?_; refine zA Aq1 ?_; (repeat (refine inC ?_; intro hc)); try (refine inK ?_; intro K hK))
 refine (Bkr _ C8).runs.mono ?_
 rintro _ A9 ⟨sv9, cv9, rfl, lA9, hv9⟩
 have hr_A9 := hr_C8.le lA9
 have hb_A9 := hb_C8.le lA9
 have hp_A9 := hp_C8.le lA9
 clear hr_C8 hb_C8 hp_C8
 have vbb9 := lA9 _ _ vbb8
 have tA9 := Hp.le_trans tC8 lA9
 clear lA9 tC8
 ((try (refine @unH _ ?_; refine zX Aq1 ?_)); (try (refine hK _ _ ?_; clear hK K; (try simp only [nq, ↓reduceIte, Nat.reduceEqDiff]))); refine @unH _ ?_; refine zA Aq1 ?_; (repeat (refine inC ?_; intro hc)); try (refine inK ?_; intro K hK))
 refine (Cvs _ 1 2 _ _ _ _ hv9).runs.mono ?_
 rintro _ C9 ⟨rfl, lC9⟩
 have hr_C9 := hr_A9.le lC9
 have hb_C9 := hb_A9.le lC9
 have hp_C9 := hp_A9.le lC9
 clear hr_A9 hb_A9 hp_A9
 have vbb10 := lC9 _ _ vbb9
 have tC9 := Hp.le_trans tA9 lC9
 clear lC9 tA9
 rw [askE]
 clear hv9 vbb vbb8 vbb9 lA8x
 simp only [Int.reduceLT, if_false]
 ((try (refine @unH _ ?_; refine zX Aq1 ?_)); (try (refine hK _ _ ?_; clear hK K; (try simp only [nq, ↓reduceIte, Nat.reduceEqDiff]))); refine @unH _ ?_; refine zA Aq1 ?_; (repeat (refine inC ?_; intro hc)); try (refine inK ?_; intro K hK))
 refine Avz (fun e => e 1 = rv /\ e 2 = .int .i64 4 /\ e 3 = .int .i64 0 /\ e 4 = bv /\ e 5 = .int .i64 2 /\ e 6 = .int .i64 0 /\ e 7 = .int .i64 2 /\ e 8 = .int .i64 0 /\ e 9 = .int .i64 1 /\ e 10 = .int .i64 0 /\ e 11 = pv /\ e 12 = .int .i64 0 /\ e 13 = .int .i64 3 /\ e 14 = .int .i64 0 /\ e 15 = .pointer (some ⟨bb, 0, none⟩) /\ e 16 = .int .i64 0 /\ e 17 = .int .i64 1 /\ e 18 = .int .i64 0 /\ e 19 = .int .i64 0 /\ e 20 = .int .i64 1 /\ e 21 = .int .i64 0) ⟨rfl, rfl, rfl, rfl, rfl, rfl, rfl, rfl, rfl, rfl, rfl, rfl, rfl, rfl, rfl, rfl, rfl, rfl, rfl, rfl, rfl⟩ ?_
 rintro e ⟨e1, e2, e3, e4, e5, e6, e7, e8, e9, e10, e11, e12, e13, e14, e15, e16, e17, e18, e19, e20, e21⟩
 simp only [List.append]
 refine Axv rfl ?_; intro K hK
 simp -implicitDefEqProofs (disch := first | omega | (simp only [qd] <;> omega)) only [xq, ↓xp, qc, Nat.reduceAdd, List.range, List.range.loop, fine, Nat.reduceEqDiff, ↓reduceIte, yielded, reduceCtorEq, Nat.reduceLT, Nat.reduceMul, Nat.reduceSub, one, Nat.reduceLeDiff, Aqa, Aq1, aq, ↓ap, qe0, qe1, qe2, *, -hK, Bzs Bq3, Bzm Bvl]
 (intro g1 hg1; generalize hG : Hp.set _ g1 _ = E1; have lE1 := Aqg hG hg1; have vg1 := Aqf hG; clear hG)
 have hr_E1 := hr_C9.le lE1
 have hb_E1 := hb_C9.le lE1
 have hp_E1 := hp_C9.le lE1
 clear hr_C9 hb_C9 hp_C9
 have sl1 : SlI E1 (.slice (some ⟨g1, 0, none⟩) 4 4) [0, 1, 0, 1] := Ajm (xs := [0, 1, 0, 1]) vg1 rfl
 clear hg1 vg1
 have tE1 := Hp.le_trans tC9 lE1
 clear lE1 tC9
 refine (Av8 _ E1 rv _ [0, 1, 0, 1] [0, 1, 0, 1] hr_E1 sl1 (by decide) (by decide)).runs.mono ?_
 rintro _ HQ ⟨rfl, hHQ⟩
 rw [hHQ]
 clear hHQ HQ
 rw [decide_eq_true rfl]
 clear sl1
 ((try (refine @unH _ ?_; refine Cv1 ?_)); (try (refine hK _ _ ?_; clear hK K; (try simp only [nq, ↓reduceIte, Nat.reduceEqDiff]))); refine @unH _ ?_; refine Cv5 ?_; (repeat (refine inC ?_; intro hc)); try (refine inK ?_; intro K hK))
 (intro g2 hg2; generalize hG : Hp.set _ g2 _ = E2; have lE2 := Aqg hG hg2; have vg2 := Aqf hG; clear hG)
 have hr_E2 := hr_E1.le lE2
 have hb_E2 := hb_E1.le lE2
 have hp_E2 := hp_E1.le lE2
 clear hr_E1 hb_E1 hp_E1
 have sl2 : SlI E2 (.slice (some ⟨g2, 0, none⟩) 4 4) [0, 2, -1, -1] := Ajm (xs := [0, 2, -1, -1]) vg2 rfl
 clear hg2 vg2
 have tE2 := Hp.le_trans tE1 lE2
 clear lE2 tE1
 refine (Av8 _ E2 bv _ [0, 2, -1, -1] [0, 2, -1, -1] hb_E2 sl2 (by decide) (by decide)).runs.mono ?_
 rintro _ HQ ⟨rfl, hHQ⟩
 rw [hHQ]
 clear hHQ HQ
 rw [decide_eq_true rfl]
 clear sl2
 ((try (refine @unH _ ?_; refine Cv1 ?_)); (try (refine hK _ _ ?_; clear hK K; (try simp only [nq, ↓reduceIte, Nat.reduceEqDiff]))); refine @unH _ ?_; refine Cv5 ?_; (repeat (refine inC ?_; intro hc)); try (refine inK ?_; intro K hK))
 (intro g3 hg3; generalize hG : Hp.set _ g3 _ = E3; have lE3 := Aqg hG hg3; have vg3 := Aqf hG; clear hG)
 have hr_E3 := hr_E2.le lE3
 have hb_E3 := hb_E2.le lE3
 have hp_E3 := hp_E2.le lE3
 clear hr_E2 hb_E2 hp_E2
 have sl3 : SlI E3 (.slice (some ⟨g3, 0, none⟩) 2 2) [0, 2] := Ajm (xs := [0, 2]) vg3 rfl
 clear hg3 vg3
 have tE3 := Hp.le_trans tE2 lE3
 clear lE3 tE2
 refine (Av8 _ E3 pv _ [0, 2] [0, 2] hp_E3 sl3 (by decide) (by decide)).runs.mono ?_
 rintro _ HQ ⟨rfl, hHQ⟩
 rw [hHQ]
 clear hHQ HQ
 rw [decide_eq_true rfl]
 clear sl3
 ((try (refine @unH _ ?_; refine Cv1 ?_)); (try (refine hK _ _ ?_; clear hK K; (try simp only [nq, ↓reduceIte, Nat.reduceEqDiff]))); refine @unH _ ?_; refine Cv5 ?_; (repeat (refine inC ?_; intro hc)); try (refine inK ?_; intro K hK))
 (refine @unH _ ?_; refine z9 Tryz.results22 ?_)
 exact ⟨by trivial, tE3⟩
end Go.Proofs.YtgniilnljeedlaaGreatDoor
end
section
namespace Go.X
open Go Go.RowKit
open Go.Conc (G base)
theorem Base.below {W w : World} (h : Base W w) : Below W.heap.size W { w with tape := W.tape } := ⟨h.os, rfl, h.output, h.size, h.block⟩
theorem Base.kept {W w : World} (h : Base W w) (may : MemPlace -> Prop) : W.keptBut w may := by
 have := World.keptBut_refl W may
 refine ⟨h.os, h.output, fun i hi => ?_⟩
 rw [h.block i hi]
 exact this.2.2 i hi
theorem leaving_of_change_and {H : Type} {enc : TypeId × Value -> H} {a : Assume} {C : Checked} {os : Os} {f : FuncId} {fn : Func} {s : ChangeSpec} {conds : List PathCond} {apart fresh handsOn again : Bool} {X : World -> Array Value -> Prop}
  (hX : ∀ (w w' : World) (args : Array Value), w.heap = w'.heap -> X w args -> X w' args)
  (own : ownKnob C.prog.godebug = none) (started : os.Started) (hfn : C.prog.funcs[f]? = some fn)
  (witness : ∃ (w : World) (tape : Tape) (i : Input), w.os = os /\ (w.forCall tape i).Shaped C.prog /\ i.vars = [] /\ Input.okWide C.prog (w.forCall tape i) .any w.heap.size f i /\
   ((s.pre enc C.prog fn conds apart (w.forCall tape i).memory i.args /\ X (w.forCall tape i).memory i.args) /\ sizedMet enc C.prog fn (OpenSpec.ofChange s) apart (w.forCall tape i).memory i.args) /\ a.holds C.prog (lone (Frame.enter C.prog f i.args .normal) [] (w.forCall tape i)))
  (runs : ∀ (W : World) (base : Nat) (args : Array Value) (ds gs : List (DataW H)) (before : List MemPlace),
   (∀ (j : Nat) t v, fn.params[j]? = some t -> args[j]? = some v -> Value.okWide C.prog W .any base t v) ->
   DataW.Whole enc C.prog fn.params.toList s.vars apart W args.toList ds gs before -> X W args ->
   Ends C.prog (fun v W' => s.post enc C.prog fn apart fresh handsOn again W args v W') (Conc.solo (G (Frame.enter C.prog f args .normal) []) W) #[]) :
  ReturnsInLeavingWide a C os f .any (fun w args => (s.pre enc C.prog fn conds apart w args /\ X w args) /\ sizedMet enc C.prog fn (OpenSpec.ofChange s) apart w args) (s.post enc C.prog fn apart fresh handsOn again) := by
 refine returnsInLeavingWide_of_good own started witness ?_
 intro w tape i _ _ _ hok hpre hholds
 obtain ⟨_, _, _, fn', hfn', _, _, _, _, hval⟩ := hok
 have e : fn' = fn := Option.some.inj (hfn'.symm.trans hfn)
 subst e
 obtain ⟨⟨⟨ds, gs, before, hw, hc⟩, hx⟩, hz⟩ := hpre
 have hw' := DataW.Whole.of_heap (w' := w.forCall tape i) (by rfl) hw
 obtain ⟨M, last, o, w', t', h1, h2, h3, h4⟩ := runs (w.forCall tape i) w.heap.size i.args ds gs before hval hw' (hX _ _ _ (by rfl) hx)
 exact ⟨M, last, o, w', t', h1, h2, h3, h4.mono fun v hp => ChangeSpec.post_blind hp⟩
end Go.X
end
section
namespace Go.Proofs.YtgniilnljeedlaaGreatDoor
open Go Go.X Go.ChangeShapes Go.WideShapes Go.RowKit
theorem ownK : ownKnob Tryz.prog.godebug = none := by kernel_rfl
theorem laidOutK : laidOutB Tryz.prog = true := by kernel_rfl
theorem cellsK : Tryz.prog.cellsOf 3 = 1 := by kernel_rfl
noncomputable def laidWorld (os : Os) : World :=
 let w0 := World.holding Tryz.prog os ⟨#[], #[], []⟩
 {w0 with heap := w0.heap.modify 0 fun
   | .cells _ t frozen => .cells #[.iface 210 (.agg #[.pointer (some ⟨1, 139, none⟩)])] t frozen
   | o => o }
theorem laidWorld_met (os : Os) (args : Array Value) : laidMetH Tryz.prog [("errors.errorType", Rows.laid_errors_errorType)] ((laidWorld os).forCall (fun _ _ => 0) ⟨#[], args, []⟩).memory :=
 laidMetH_of_parts (laidMet_nil _ _) (by kernel_rfl)
theorem results_tmp {fn : Func} {t : Tmp} (h : fn.results = #[.tmp t]) (P : Program) (tmps : Array Value) (w : World) (v : Value) (w' : World) (hr : (results fn tmps).run P w = .ok v w') : w' = w := by
 simp [results, h] at hr
 exact hr.2.symm
end Go.Proofs.YtgniilnljeedlaaGreatDoor
end
