/- Texts VKept1 VEval VKept Leave PBase LawVT LTrs LTruths. -/
import Derived.Test.YtgniilnljeedlaaGreatDoorJ22
import Derived.Conc.Holds
import Derived.Conc.LeavingOf
import Derived.Calls
import Derived.Below
import Derived.Carry
import Derived.ChangeSame
import Derived.ChangeVars
import Derived.ChangeSlices
import Derived.JoinedOf
import Derived.RowKit
import Derived.RowKitTokens
import Derived.LaidLaws
import Derived.LaidHandle
import Derived.Stop.Joined
import Derived.Handed
import Derived.Test.YtgniilnljeedlaaGreatDoorRows
set_option linter.defProp false
set_option linter.unusedSimpArgs false
set_option linter.unusedVariables false
set_option maxRecDepth 100000
set_option maxHeartbeats 2000000
section
namespace Go.Proofs.YtgniilnljeedlaaGreatDoor
open Go Go.X
def Bx3 := And.intro (fun H => Aqz (H := H) (P := Tryz.prog) (h := Tryz.zeroValue25)) (And.intro @Ajc (And.intro @Axq (And.intro @Bq5 (And.intro @Awh (fun H => Aq0 (H := H) Tryz.sizeOf25)))))
def Cq7 := @Azx
def Cq8 := @Azx
def Bx4 := And.intro (fun H => Aqz (H := H) (P := Tryz.prog) (h := Tryz.zeroValue25)) (And.intro @Axq (And.intro @Ajc (And.intro @Bj8 (And.intro @Awh (fun H => Aq0 (H := H) Tryz.sizeOf25)))))
theorem Ajk : Aja 2 4 [0, 1] [[2], [0], [1, 3], [0]] := by unfold Aja Bx5; decide
theorem Az2 (main : Md) (H : Hp) : FnX Tryz.prog main 67 #[] H fun e H' => ∃ sv cv, e = .returned (.agg #[.int .i64 2, .int .i64 4, sv, cv]) /\ H.le H' /\ Ajp H' 2 4 sv cv [0, 1] [[2], [0], [1, 3], [0]] := by
 refine Aqk (args := []) Tryz.func67 rfl Tryz.ntmps67 (by simp) ?_
 (refine @unH _ ?_; refine zA Bx3 ?_; (repeat (refine inC ?_; intro hc)); try (refine inK ?_; intro K hK))
 (intro rb hrb; generalize hG : Hp.set _ rb _ = H0; have lH0 := Aqg hG hrb; have vrb := Aqf hG; clear hG)
 have h0rb := hrb
 ((try (refine @unH _ ?_; refine zX Bx3 ?_)); (try (refine hK _ _ ?_; clear hK K; (try simp only [nq, ↓reduceIte, Nat.reduceEqDiff]))); refine @unH _ ?_; refine zA Bx3 ?_; (repeat (refine inC ?_; intro hc)); try (refine inK ?_; intro K hK))
 intro b0 hb0 b1 hb1 b2 hb2 b3 hb3 b4 hb4 b5 hb5
 replace hb1 : (Hp.set H0 b0 _) b1 = none := hb1
 replace hb2 : (Hp.set (Hp.set H0 b0 _) b1 _) b2 = none := hb2
 replace hb3 : (Hp.set (Hp.set (Hp.set H0 b0 _) b1 _) b2 _) b3 = none := hb3
 replace hb4 : (Hp.set (Hp.set (Hp.set (Hp.set H0 b0 _) b1 _) b2 _) b3 _) b4 = none := hb4
 replace hb5 : (Hp.set (Hp.set (Hp.set (Hp.set (Hp.set H0 b0 _) b1 _) b2 _) b3 _) b4 _) b5 = none := hb5
 generalize hG : Hp.set H0 b0 _ = HA1 at hb1 hb2 hb3 hb4 hb5 ⊢
 have lHA1 := Aqg hG hb0
 have vb0 := Aqf hG
 clear hG
 generalize hG : Hp.set HA1 b1 _ = HA2 at hb2 hb3 hb4 hb5 ⊢
 have lHA2 := Aqg hG hb1
 have vb1 := Aqf hG
 clear hG
 generalize hG : Hp.set HA2 b2 _ = HA3 at hb3 hb4 hb5 ⊢
 have lHA3 := Aqg hG hb2
 have vb2 := Aqf hG
 clear hG
 generalize hG : Hp.set HA3 b3 _ = HA4 at hb4 hb5 ⊢
 have lHA4 := Aqg hG hb3
 have vb3 := Aqf hG
 clear hG
 generalize hG : Hp.set HA4 b4 _ = HA5 at hb5 ⊢
 have lHA5 := Aqg hG hb4
 have vb4 := Aqf hG
 clear hG
 generalize hG : Hp.set HA5 b5 _ = HA6
 have lHA6 := Aqg hG hb5
 have vb5 := Aqf hG
 clear hG
 have vr0 := vrb
 have nr0 : rb ≠ b0 := Ax3 vr0 hb0
 have vr1 := lHA1 _ _ vr0
 have nr1 : rb ≠ b1 := Ax3 vr1 hb1
 have vr2 := lHA2 _ _ vr1
 have nr2 : rb ≠ b2 := Ax3 vr2 hb2
 have vr3 := lHA3 _ _ vr2
 have nr3 : rb ≠ b3 := Ax3 vr3 hb3
 have vr4 := lHA4 _ _ vr3
 have nr4 : rb ≠ b4 := Ax3 vr4 hb4
 have vr5 := lHA5 _ _ vr4
 have nr5 : rb ≠ b5 := Ax3 vr5 hb5
 have vr6 := lHA6 _ _ vr5
 clear vr0 vr1 vr2 vr3 vr4 vr5 vr6
 have la5 := Hp.le_refl HA6
 have la4 := Hp.le_trans lHA6 la5
 have la3 := Hp.le_trans lHA5 la4
 have la2 := Hp.le_trans lHA4 la3
 have la1 := Hp.le_trans lHA3 la2
 have la0 := Hp.le_trans lHA2 la1
 have laa := Hp.le_trans lHA1 la0
 have s0 : SlI HA6 (.slice (some ⟨b0, 0, none⟩) 2 2) [0, 1] := Ajm (xs := [0, 1]) (la0 _ _ vb0) rfl
 have s1 : SlI HA6 (.slice (some ⟨b1, 0, none⟩) 1 1) [2] := Ajm (xs := [2]) (la1 _ _ vb1) rfl
 have s2 : SlI HA6 (.slice (some ⟨b2, 0, none⟩) 1 1) [0] := Ajm (xs := [0]) (la2 _ _ vb2) rfl
 have s3 : SlI HA6 (.slice (some ⟨b3, 0, none⟩) 2 2) [1, 3] := Ajm (xs := [1, 3]) (la3 _ _ vb3) rfl
 have s4 : SlI HA6 (.slice (some ⟨b4, 0, none⟩) 1 1) [0] := Ajm (xs := [0]) (la4 _ _ vb4) rfl
 have vrows := la5 _ _ vb5
 have hrows : SlR HA6 (.slice (some ⟨b5, 0, none⟩) 4 4) [[2], [0], [1, 3], [0]] := ⟨_, _, rfl, Nat.le_refl _, fun i xs hi => by
  match i, hi with
  | 0, hi => cases hi; exact ⟨b5, 0, _, _, _, _, rfl, vrows, rfl, s1⟩
  | 1, hi => cases hi; exact ⟨b5, 0, _, _, _, _, rfl, vrows, rfl, s2⟩
  | 2, hi => cases hi; exact ⟨b5, 0, _, _, _, _, rfl, vrows, rfl, s3⟩
  | 3, hi => cases hi; exact ⟨b5, 0, _, _, _, _, rfl, vrows, rfl, s4⟩
  | i + 4, hi => simp at hi⟩
 have vrb1 := laa _ _ vrb
 have lA : H.le HA6 := Hp.le_trans lH0 laa
 have n1 : HA6 rb ≠ none := by rw [vrb1]; simp
 have st : SlI HA6 (.slice (some ⟨b0, 0, none⟩) 2 2) [0, 1] := s0
 clear laa vrows la0 la1 la2 la3 la4 la5 lHA1 lHA2 lHA3 lHA4 lHA5 lHA6 vb0 vb1 vb2 vb3 vb4 vb5 s0 s1 s2 s3 s4 hb0 hb1 hb2 hb3 hb4 hb5 vrb lH0 hrb
 rw [if_neg nr5, if_neg nr4, if_neg nr3, if_neg nr2, if_neg nr1, if_neg nr0]
 ((try (refine @unH _ ?_; refine zX Bx3 ?_)); (try (refine hK _ _ ?_; clear hK K; (try simp only [nq, ↓reduceIte, Nat.reduceEqDiff]))); refine @unH _ ?_; refine zA Bx3 ?_; (repeat (refine inC ?_; intro hc)); try (refine inK ?_; intro K hK))
 (refine Ax2 ?_; (try simp only [nq, ↓reduceIte, Nat.reduceEqDiff]); rw [Axm, Azk Tryz.results67 (by decide) (b := rb) (o := 0) rfl Tryz.underlying25 rfl Tryz.sizeOf25]; simp -implicitDefEqProofs (disch := first | omega | (simp only [qd] <;> omega)) only [xq, ↓xp, qc, Nat.reduceAdd, List.range, List.range.loop, fine, Nat.reduceEqDiff, ↓reduceIte, yielded, reduceCtorEq, Nat.reduceLT, Nat.reduceMul, Nat.reduceSub, one, Nat.reduceLeDiff, Aqa, Bx3, Ajd])
 generalize hG : HA6.set rb _ = H9
 have hmv : ∀ x p c fr e, (e = 3 ∨ e = 22) -> HA6 x = some (p, .cells c e fr) -> H9 x = some (p, .cells c e fr) := fun x p c fr e he hx => by
  rw [<- hG, Aqo (fun h => ?_)]
  ·exact hx
  ·rw [h, vrb1] at hx
   simp only [Option.some.injEq, Prod.mk.injEq, Obj.cells.injEq] at hx
   have h9 := hx.2.2.1
   rcases he with rfl | rfl <;> exact absurd h9 (by decide)
 exact ⟨_, _, rfl, hG ▸ ((Lex.of lA : Lex none H HA6).own h0rb).toLe, st.move fun x p c fr hx => hmv x p c fr _ (.inl rfl) hx, hrows.move hmv, Ajk, by decide⟩
theorem Cvm : Aja 1 2 [0] [[0, 1], [0, 1]] := by unfold Aja Bx5; decide
theorem Bkr (main : Md) (H : Hp) : FnX Tryz.prog main 70 #[] H fun e H' => ∃ sv cv, e = .returned (.agg #[.int .i64 1, .int .i64 2, sv, cv]) /\ H.le H' /\ Ajp H' 1 2 sv cv [0] [[0, 1], [0, 1]] := by
 refine Aqk (args := []) Tryz.func70 rfl Tryz.ntmps70 (by simp) ?_
 (refine @unH _ ?_; refine zA Bx4 ?_; (repeat (refine inC ?_; intro hc)); try (refine inK ?_; intro K hK))
 (intro rb hrb; generalize hG : Hp.set _ rb _ = H0; have lH0 := Aqg hG hrb; have vrb := Aqf hG; clear hG)
 have h0rb := hrb
 ((try (refine @unH _ ?_; refine zX Bx4 ?_)); (try (refine hK _ _ ?_; clear hK K; (try simp only [nq, ↓reduceIte, Nat.reduceEqDiff]))); refine @unH _ ?_; refine zA Bx4 ?_; (repeat (refine inC ?_; intro hc)); try (refine inK ?_; intro K hK))
 intro b0 hb0 b1 hb1 b2 hb2 b3 hb3
 replace hb1 : (Hp.set H0 b0 _) b1 = none := hb1
 replace hb2 : (Hp.set (Hp.set H0 b0 _) b1 _) b2 = none := hb2
 replace hb3 : (Hp.set (Hp.set (Hp.set H0 b0 _) b1 _) b2 _) b3 = none := hb3
 generalize hG : Hp.set H0 b0 _ = HA1 at hb1 hb2 hb3 ⊢
 have lHA1 := Aqg hG hb0
 have vb0 := Aqf hG
 clear hG
 generalize hG : Hp.set HA1 b1 _ = HA2 at hb2 hb3 ⊢
 have lHA2 := Aqg hG hb1
 have vb1 := Aqf hG
 clear hG
 generalize hG : Hp.set HA2 b2 _ = HA3 at hb3 ⊢
 have lHA3 := Aqg hG hb2
 have vb2 := Aqf hG
 clear hG
 generalize hG : Hp.set HA3 b3 _ = HA4
 have lHA4 := Aqg hG hb3
 have vb3 := Aqf hG
 clear hG
 have vr0 := vrb
 have nr0 : rb ≠ b0 := Ax3 vr0 hb0
 have vr1 := lHA1 _ _ vr0
 have nr1 : rb ≠ b1 := Ax3 vr1 hb1
 have vr2 := lHA2 _ _ vr1
 have nr2 : rb ≠ b2 := Ax3 vr2 hb2
 have vr3 := lHA3 _ _ vr2
 have nr3 : rb ≠ b3 := Ax3 vr3 hb3
 have vr4 := lHA4 _ _ vr3
 clear vr0 vr1 vr2 vr3 vr4
 have la3 := Hp.le_refl HA4
 have la2 := Hp.le_trans lHA4 la3
 have la1 := Hp.le_trans lHA3 la2
 have la0 := Hp.le_trans lHA2 la1
 have laa := Hp.le_trans lHA1 la0
 have s0 : SlI HA4 (.slice (some ⟨b0, 0, none⟩) 1 1) [0] := Ajm (xs := [0]) (la0 _ _ vb0) rfl
 have s1 : SlI HA4 (.slice (some ⟨b1, 0, none⟩) 2 2) [0, 1] := Ajm (xs := [0, 1]) (la1 _ _ vb1) rfl
 have s2 : SlI HA4 (.slice (some ⟨b2, 0, none⟩) 2 2) [0, 1] := Ajm (xs := [0, 1]) (la2 _ _ vb2) rfl
 have vrows := la3 _ _ vb3
 have hrows : SlR HA4 (.slice (some ⟨b3, 0, none⟩) 2 2) [[0, 1], [0, 1]] := ⟨_, _, rfl, Nat.le_refl _, fun i xs hi => by
  match i, hi with
  | 0, hi => cases hi; exact ⟨b3, 0, _, _, _, _, rfl, vrows, rfl, s1⟩
  | 1, hi => cases hi; exact ⟨b3, 0, _, _, _, _, rfl, vrows, rfl, s2⟩
  | i + 2, hi => simp at hi⟩
 have vrb1 := laa _ _ vrb
 have lA : H.le HA4 := Hp.le_trans lH0 laa
 have n1 : HA4 rb ≠ none := by rw [vrb1]; simp
 have st : SlI HA4 (.slice (some ⟨b0, 0, none⟩) 1 1) [0] := s0
 clear laa vrows la0 la1 la2 la3 lHA1 lHA2 lHA3 lHA4 vb0 vb1 vb2 vb3 s0 s1 s2 hb0 hb1 hb2 hb3 vrb lH0 hrb
 rw [if_neg nr3, if_neg nr2, if_neg nr1, if_neg nr0]
 ((try (refine @unH _ ?_; refine zX Bx4 ?_)); (try (refine hK _ _ ?_; clear hK K; (try simp only [nq, ↓reduceIte, Nat.reduceEqDiff]))); refine @unH _ ?_; refine zA Bx4 ?_; (repeat (refine inC ?_; intro hc)); try (refine inK ?_; intro K hK))
 (refine Ax2 ?_; (try simp only [nq, ↓reduceIte, Nat.reduceEqDiff]); rw [Axm, Azk Tryz.results70 (by decide) (b := rb) (o := 0) rfl Tryz.underlying25 rfl Tryz.sizeOf25]; simp -implicitDefEqProofs (disch := first | omega | (simp only [qd] <;> omega)) only [xq, ↓xp, qc, Nat.reduceAdd, List.range, List.range.loop, fine, Nat.reduceEqDiff, ↓reduceIte, yielded, reduceCtorEq, Nat.reduceLT, Nat.reduceMul, Nat.reduceSub, one, Nat.reduceLeDiff, Aqa, Bx4, Ajd])
 generalize hG : HA4.set rb _ = H9
 have hmv : ∀ x p c fr e, (e = 3 ∨ e = 22) -> HA4 x = some (p, .cells c e fr) -> H9 x = some (p, .cells c e fr) := fun x p c fr e he hx => by
  rw [<- hG, Aqo (fun h => ?_)]
  ·exact hx
  ·rw [h, vrb1] at hx
   simp only [Option.some.injEq, Prod.mk.injEq, Obj.cells.injEq] at hx
   have h9 := hx.2.2.1
   rcases he with rfl | rfl <;> exact absurd h9 (by decide)
 exact ⟨_, _, rfl, hG ▸ ((Lex.of lA : Lex none H HA4).own h0rb).toLe, st.move fun x p c fr hx => hmv x p c fr _ (.inl rfl) hx, hrows.move hmv, Cvm, by decide⟩
theorem Akz (main : Md) (H : Hp) : FnX Tryz.prog main 68 #[] H fun e H' => ∃ v, e = .returned v /\ H.le H' /\ SlI H' v [2, 0, 1, 0] := by
 refine Aqk (args := []) Tryz.func68 rfl Tryz.ntmps68 (by simp) ?_
 (refine @unH _ ?_; refine zA @Cq7 ?_; (repeat (refine inC ?_; intro hc)); try (refine inK ?_; intro K hK))
 (intro rb hrb; generalize hG : Hp.set _ rb _ = H0; have lH0 := Aqg hG hrb; have vrb := Aqf hG; clear hG)
 ((try (refine @unH _ ?_; refine zX @Cq7 ?_)); (try (refine hK _ _ ?_; clear hK K; (try simp only [nq, ↓reduceIte, Nat.reduceEqDiff]))); refine @unH _ ?_; refine zA @Cq7 ?_; (repeat (refine inC ?_; intro hc)); try (refine inK ?_; intro K hK))
 (refine @unH _ ?_; refine z9 Tryz.results68 ?_)
 exact ⟨_, rfl, lH0, Ajm (xs := [2, 0, 1, 0]) vrb rfl⟩
theorem Cz2 (main : Md) (H : Hp) : FnX Tryz.prog main 69 #[] H fun e H' => ∃ v, e = .returned v /\ H.le H' /\ SlI H' v [2, 0, 3, 0] := by
 refine Aqk (args := []) Tryz.func69 rfl Tryz.ntmps69 (by simp) ?_
 (refine @unH _ ?_; refine zA @Cq8 ?_; (repeat (refine inC ?_; intro hc)); try (refine inK ?_; intro K hK))
 (intro rb hrb; generalize hG : Hp.set _ rb _ = H0; have lH0 := Aqg hG hrb; have vrb := Aqf hG; clear hG)
 ((try (refine @unH _ ?_; refine zX @Cq8 ?_)); (try (refine hK _ _ ?_; clear hK K; (try simp only [nq, ↓reduceIte, Nat.reduceEqDiff]))); refine @unH _ ?_; refine zA @Cq8 ?_; (repeat (refine inC ?_; intro hc)); try (refine inK ?_; intro K hK))
 (refine @unH _ ?_; refine z9 Tryz.results69 ?_)
 exact ⟨_, rfl, lH0, Ajm (xs := [2, 0, 3, 0]) vrb rfl⟩
theorem Aw6 : Az9 [[2], [0], [1, 3], [0]] [2, 0, 1, 0] := by
 refine ⟨rfl, fun i t xs ht hx => ?_⟩
 match i, ht, hx with
 | 0, ht, hx => cases ht; cases hx; decide
 | 1, ht, hx => cases ht; cases hx; decide
 | 2, ht, hx => cases ht; cases hx; decide
 | 3, ht, hx => cases ht; cases hx; decide
 | i + 4, ht, hx => simp at ht
theorem Cyf : Az9 [[2], [0], [1, 3], [0]] [2, 0, 3, 0] := by
 refine ⟨rfl, fun i t xs ht hx => ?_⟩
 match i, ht, hx with
 | 0, ht, hx => cases ht; cases hx; decide
 | 1, ht, hx => cases ht; cases hx; decide
 | 2, ht, hx => cases ht; cases hx; decide
 | 3, ht, hx => cases ht; cases hx; decide
 | i + 4, ht, hx => simp at ht
theorem runE : (rrun 2 0 [2, 0, 1, 0] (rs0 [0, 1]) 4).f = 4 := by kernel_rfl
theorem Dj3 : (rrun 2 0 [2, 0, 1, 0] (rs0 [0, 1]) 4).cl.take 4 = [0, 1, 0, 1] := by kernel_rfl
theorem Djt : optF 4 2 [2, 0, 1, 0] (oOf [0, 1]) = 2 := by kernel_rfl
theorem Dzo : Akm 4 2 [2, 0, 1, 0] (oOf [0, 1]) = [0, 2, -1, -1] := by kernel_rfl
theorem Dzw : (Axw 4 2 [2, 0, 1, 0] (oOf [0, 1])).length = 2 := by kernel_rfl
theorem Dj7 : Cy0 ((Axw 4 2 [2, 0, 3, 0] (oOf [0, 1])).countP fun cs => cs.getD 0 0 == 1) (Axw 4 2 [2, 0, 3, 0] (oOf [0, 1])).length = 1 := by kernel_rfl
theorem Dx2 : Azh 2 [2, 0, 1, 0] 4 0 = [0, 2] := by kernel_rfl
theorem Dx3 : Ayz [0, 1] [2, 0, 1, 0] 1 = some 3 := by kernel_rfl
theorem fewE : bdT (fewF 1 [0]) (Aqt [[0, 1], [0, 1]]) = ⟨0, 2, true⟩ := by kernel_rfl
theorem Dj2 : (Azy (fun r => regF 2 r [0, 1] [[2], [0], [1, 3], [0]]) 4).1 = 1 := by kernel_rfl
theorem askE : askF 1 [0] [[0, 1], [0, 1]] = (0, 1) := by kernel_rfl
end Go.Proofs.YtgniilnljeedlaaGreatDoor
end
section
namespace Go.X
open Go
theorem Bzs {P : Program} {H : Hp} {t : TypeId} (h : P.eqGuardType P.depth t = false) (op : BinOp) (x y : Operand) (p q : Array Value) (K : Unit -> Hp -> Prop) (E : Value -> Hp -> Prop) : wpS P (eqGuard op t x y (.agg p) (.agg q)) H K E = K () H := by
 unfold eqGuard
 cases op <;> first | rfl | (simp only [Aqb, Bqm, h, Bool.not_false, if_true]; first | rfl | (simp [Aqb, Bqm, h, Aqi]; done))
theorem Bzm {P : Program} {H : Hp} {ks : TypeId} (h : Key2 P ks .i64 .i64) (a b c d : Int) (K : Value -> Hp -> Prop) (E : Value -> Hp -> Prop) :
  wpS P (binOp .eql ks (.agg #[.int .i64 a, .int .i64 b]) (.agg #[.int .i64 c, .int .i64 d])) H K E = K (.bool (a == c && b == d)) H := by
 simp only [binOp]
 rw [Aqb, Bq1 h]
 rfl
theorem bin_neq2 {P : Program} {H : Hp} {ks : TypeId} (h : Key2 P ks .i64 .i64) (a b c d : Int) (K : Value -> Hp -> Prop) (E : Value -> Hp -> Prop) :
  wpS P (binOp .neq ks (.agg #[.int .i64 a, .int .i64 b]) (.agg #[.int .i64 c, .int .i64 d])) H K E = K (.bool !(a == c && b == d)) H := by
 simp only [binOp]
 rw [Aqb, Bq1 h]
 rfl
end Go.X
namespace Go.Proofs.YtgniilnljeedlaaGreatDoor
open Go Go.X
def Aq1 := And.intro @Dxd (And.intro @Dxe (And.intro @Dq2 (And.intro @Dq5 (And.intro @Dq6 (And.intro @Dxf (And.intro @Dq7 (And.intro @Dq4 (And.intro @Dq8 (And.intro @Dxg (And.intro @Dxb (And.intro (fun H => Aqz (H := H) (P := Tryz.prog) (h := Tryz.zeroValue61)) (And.intro (fun H => Aq0 (H := H) Tryz.sizeOf61) (And.intro @Dxc (And.intro @Dxa (And.intro (fun H => Aqs (H := H) Tryz.underlying61 rfl Tryz.sizeOf61) (And.intro @Bx9 (And.intro @Azx (And.intro @Dq3 @Ajc))))))))))))))))))
theorem Cv5 {p q : Prop} (g : q) (h : Hid q -> p := by
 intro g
 repeat' (first
 | (refine Axk rfl ?_; intro Kz hKz; simp -implicitDefEqProofs (disch := first | omega | (simp only [qd] <;> omega)) only [xq, ↓xp, qc, Nat.reduceAdd, List.range, List.range.loop, fine, Nat.reduceEqDiff, ↓reduceIte, yielded, reduceCtorEq, Nat.reduceLT, Nat.reduceMul, Nat.reduceSub, one, Nat.reduceLeDiff, Aqa, Aq1, aq, ↓ap, qe0, qe1, qe2, *, -g, -hKz, Bzs Bq3, Bzm Bvl]; try (refine hKz _ _ ?_; clear hKz Kz))
 | (refine Axv rfl ?_; intro Kz hKz; simp -implicitDefEqProofs (disch := first | omega | (simp only [qd] <;> omega)) only [xq, ↓xp, qc, Nat.reduceAdd, List.range, List.range.loop, fine, Nat.reduceEqDiff, ↓reduceIte, yielded, reduceCtorEq, Nat.reduceLT, Nat.reduceMul, Nat.reduceSub, one, Nat.reduceLeDiff, Aqa, Aq1, aq, ↓ap, qe0, qe1, qe2, *, -g, -hKz, Bzs Bq3, Bzm Bvl]; try (refine hKz _ _ ?_; clear hKz Kz; (try simp only [nq, ↓reduceIte, Nat.reduceEqDiff])))
 | (refine Aqv ?_; (try simp only [nq, ↓reduceIte, Nat.reduceEqDiff]))
 | (refine Axu ?_; (try simp only [nq, ↓reduceIte, Nat.reduceEqDiff]))
 | (refine Aq7 ?_; (try simp only [nq, ↓reduceIte, Nat.reduceEqDiff]))
 | (refine Azc ?_; (try simp only [nq, ↓reduceIte, Nat.reduceEqDiff]))
 | (refine Ax0 (by simp only [Aqn, Aqr, Nat.reduceEqDiff, Nat.reduceLT, ↓reduceIte, *, -g]; rfl) ?_ ?_ <;> (intro hcz; first | (exfalso; simp -implicitDefEqProofs (disch := omega) only [*, -g, bq, reduceCtorEq] at hcz; done) | (simp only [dq, qe3, qe4, qe5, qe6] at hcz) | skip))
 | (refine Axo ?_)
 | (refine Aqp ?_)
 | (refine Aql ?_))
 (try (revert Kz; refine unK ?_)); (repeat (revert hcz; refine unC ?_))
 exact Hid.out g) : Hid p := ⟨h ⟨g⟩⟩
theorem Cv1 {p q : Prop} (g : q) (h : Hid q -> p := by
 intro g
 simp -implicitDefEqProofs (disch := first | omega | (simp only [qd] <;> omega)) only [xq, ↓xp, qc, Nat.reduceAdd, List.range, List.range.loop, fine, Nat.reduceEqDiff, ↓reduceIte, yielded, reduceCtorEq, Nat.reduceLT, Nat.reduceMul, Nat.reduceSub, one, Nat.reduceLeDiff, Aqa, Aq1, aq, ↓ap, qe0, qe1, qe2, *, -g, -hK, Bzs Bq3, Bzm Bvl]
 exact Hid.out g) : Hid p := ⟨h ⟨g⟩⟩
theorem Bvl : Key2 Tryz.prog 61 .i64 .i64 := ⟨⟨_, _, Tryz.underlying61, by decide, by decide, rfl, rfl, ⟨_, Tryz.underlying3⟩, ⟨_, Tryz.underlying3⟩⟩, by kernel_rfl⟩
theorem Bq3 : Program.eqGuardType Tryz.prog (Program.depth Tryz.prog) 61 = false := by kernel_rfl
theorem kept_spec (H : Hp) : FnX Tryz.prog (.wg Tryz.prog) 22 #[] H fun e H' => e = .returned (.bool true) /\ H.le H' := by
 refine Aqk (args := []) Tryz.func22 rfl Tryz.ntmps22 (by simp) ?_
 (refine @unH _ ?_; refine zA Aq1 ?_; (repeat (refine inC ?_; intro hc)); try (refine inK ?_; intro K hK))
 refine (Az2 _ H).runs.mono ?_
 rintro _ A1 ⟨sv1, cv1, rfl, lA1, hv1⟩
 have tA1 := lA1
 clear lA1
 ((try (refine @unH _ ?_; refine zX Aq1 ?_)); (try (refine hK _ _ ?_; clear hK K; (try simp only [nq, ↓reduceIte, Nat.reduceEqDiff]))); refine @unH _ ?_; refine zA Aq1 ?_; (repeat (refine inC ?_; intro hc)); try (refine inK ?_; intro K hK))
 refine (Akz _ A1).runs.mono ?_
 rintro _ B1 ⟨tv1, rfl, lB1, ht1⟩
 have hd1 : Awq B1 2 4 sv1 cv1 tv1 [0, 1] [[2], [0], [1, 3], [0]] [2, 0, 1, 0] := ⟨(hv1.le lB1).st, (hv1.le lB1).calls, ht1, Ajk, by decide, Aw6⟩
 clear hv1 ht1
 have tB1 := Hp.le_trans tA1 lB1
 clear lB1 tA1
 ((try (refine @unH _ ?_; refine zX Aq1 ?_)); (try (refine hK _ _ ?_; clear hK K; (try simp only [nq, ↓reduceIte, Nat.reduceEqDiff]))); refine @unH _ ?_; refine zA Aq1 ?_; (repeat (refine inC ?_; intro hc)); try (refine inK ?_; intro K hK))
 refine (Cvt _ _ 2 4 _ _ _ _ _ _ hd1 0 (by omega) (by omega)).runs.mono ?_
 rintro _ C1 ⟨rv, rfl, lC1, hr⟩
 simp only [List.length_cons, List.length_nil] at hr ⊢
 rw [show (rrun 2 0 [2, 0, 1, 0] (rs0 [0, 1]) (0 + 1 + 1 + 1 + 1)).cl.take (0 + 1 + 1 + 1 + 1) = [0, 1, 0, 1] from Dj3] at hr
 rw [show (rrun 2 0 [2, 0, 1, 0] (rs0 [0, 1]) (0 + 1 + 1 + 1 + 1)).f = 4 from runE, show ((4 : Nat) : Int) = 4 from rfl]
 clear hd1
 have tC1 := Hp.le_trans tB1 lC1
 clear lC1 tB1
 ((try (refine @unH _ ?_; refine zX Aq1 ?_)); (try (refine hK _ _ ?_; clear hK K; (try simp only [nq, ↓reduceIte, Nat.reduceEqDiff]))); refine @unH _ ?_; refine zA Aq1 ?_; (repeat (refine inC ?_; intro hc)); try (refine inK ?_; intro K hK))
 refine (Az2 _ C1).runs.mono ?_
 rintro _ A2 ⟨sv2, cv2, rfl, lA2, hv2⟩
 have hr_A2 := hr.le lA2
 clear hr
 have tA2 := Hp.le_trans tC1 lA2
 clear lA2 tC1
 ((try (refine @unH _ ?_; refine zX Aq1 ?_)); (try (refine hK _ _ ?_; clear hK K; (try simp only [nq, ↓reduceIte, Nat.reduceEqDiff]))); refine @unH _ ?_; refine zA Aq1 ?_; (repeat (refine inC ?_; intro hc)); try (refine inK ?_; intro K hK))
 refine (Akz _ A2).runs.mono ?_
 rintro _ B2 ⟨tv2, rfl, lB2, ht2⟩
 have hr_B2 := hr_A2.le lB2
 clear hr_A2
 have hd2 : Awq B2 2 4 sv2 cv2 tv2 [0, 1] [[2], [0], [1, 3], [0]] [2, 0, 1, 0] := ⟨(hv2.le lB2).st, (hv2.le lB2).calls, ht2, Ajk, by decide, Aw6⟩
 clear hv2 ht2
 have tB2 := Hp.le_trans tA2 lB2
 clear lB2 tA2
 ((try (refine @unH _ ?_; refine zX Aq1 ?_)); (try (refine hK _ _ ?_; clear hK K; (try simp only [nq, ↓reduceIte, Nat.reduceEqDiff]))); refine @unH _ ?_; refine zA Aq1 ?_; (repeat (refine inC ?_; intro hc)); try (refine inK ?_; intro K hK))
 refine (Cj3 _ _ 2 4 _ _ _ _ _ _ hd2).runs.mono ?_
 rintro _ C2 ⟨bv, rfl, hb, lC2⟩
 have hr_C2 := hr_B2.le lC2
 clear hr_B2
 simp only [List.length_cons, List.length_nil] at hb ⊢
 rw [show Akm (0 + 1 + 1 + 1 + 1) 2 [2, 0, 1, 0] (oOf [0, 1]) = [0, 2, -1, -1] from Dzo] at hb
 rw [show optF (0 + 1 + 1 + 1 + 1) 2 [2, 0, 1, 0] (oOf [0, 1]) = 2 from Djt, show ((2 : Nat) : Int) = 2 from rfl]
 clear hd2
 have tC2 := Hp.le_trans tB2 lC2
 clear lC2 tB2
 ((try (refine @unH _ ?_; refine zX Aq1 ?_)); (try (refine hK _ _ ?_; clear hK K; (try simp only [nq, ↓reduceIte, Nat.reduceEqDiff]))); refine @unH _ ?_; refine zA Aq1 ?_; (repeat (refine inC ?_; intro hc)); try (refine inK ?_; intro K hK))
 refine (Az2 _ C2).runs.mono ?_
 rintro _ A3 ⟨sv3, cv3, rfl, lA3, hv3⟩
 have hr_A3 := hr_C2.le lA3
 have hb_A3 := hb.le lA3
 clear hr_C2 hb
 have tA3 := Hp.le_trans tC2 lA3
 clear lA3 tC2
 ((try (refine @unH _ ?_; refine zX Aq1 ?_)); (try (refine hK _ _ ?_; clear hK K; (try simp only [nq, ↓reduceIte, Nat.reduceEqDiff]))); refine @unH _ ?_; refine zA Aq1 ?_; (repeat (refine inC ?_; intro hc)); try (refine inK ?_; intro K hK))
 refine (Akz _ A3).runs.mono ?_
 rintro _ B3 ⟨tv3, rfl, lB3, ht3⟩
 have hr_B3 := hr_A3.le lB3
 have hb_B3 := hb_A3.le lB3
 clear hr_A3 hb_A3
 have hd3 : Awq B3 2 4 sv3 cv3 tv3 [0, 1] [[2], [0], [1, 3], [0]] [2, 0, 1, 0] := ⟨(hv3.le lB3).st, (hv3.le lB3).calls, ht3, Ajk, by decide, Aw6⟩
 clear hv3 ht3
 have tB3 := Hp.le_trans tA3 lB3
 clear lB3 tA3
 ((try (refine @unH _ ?_; refine zX Aq1 ?_)); (try (refine hK _ _ ?_; clear hK K; (try simp only [nq, ↓reduceIte, Nat.reduceEqDiff]))); refine @unH _ ?_; refine zA Aq1 ?_; (repeat (refine inC ?_; intro hc)); try (refine inK ?_; intro K hK))
 refine (Cqc _ _ 2 4 _ _ _ _ _ _ hd3).runs.mono ?_
 rintro _ C3 ⟨rfl, lC3⟩
 have hr_C3 := hr_B3.le lC3
 have hb_C3 := hb_B3.le lC3
 clear hr_B3 hb_B3
 rw [show (Axw ([2, 0, 1, 0] : List Int).length 2 [2, 0, 1, 0] (oOf [0, 1])).length = 2 from Dzw, show ((2 : Nat) : Int) = 2 from rfl]
 clear hd3
 have tC3 := Hp.le_trans tB3 lC3
 clear lC3 tB3
 ((try (refine @unH _ ?_; refine zX Aq1 ?_)); (try (refine hK _ _ ?_; clear hK K; (try simp only [nq, ↓reduceIte, Nat.reduceEqDiff]))); refine @unH _ ?_; refine zA Aq1 ?_; (repeat (refine inC ?_; intro hc)); try (refine inK ?_; intro K hK))
 refine (Az2 _ C3).runs.mono ?_
 rintro _ A4 ⟨sv4, cv4, rfl, lA4, hv4⟩
 have hr_A4 := hr_C3.le lA4
 have hb_A4 := hb_C3.le lA4
 clear hr_C3 hb_C3
 have tA4 := Hp.le_trans tC3 lA4
 clear lA4 tC3
 ((try (refine @unH _ ?_; refine zX Aq1 ?_)); (try (refine hK _ _ ?_; clear hK K; (try simp only [nq, ↓reduceIte, Nat.reduceEqDiff]))); refine @unH _ ?_; refine zA Aq1 ?_; (repeat (refine inC ?_; intro hc)); try (refine inK ?_; intro K hK))
 refine (Cz2 _ A4).runs.mono ?_
 rintro _ B4 ⟨tv4, rfl, lB4, ht4⟩
 have hr_B4 := hr_A4.le lB4
 have hb_B4 := hb_A4.le lB4
 clear hr_A4 hb_A4
 have hd4 : Awq B4 2 4 sv4 cv4 tv4 [0, 1] [[2], [0], [1, 3], [0]] [2, 0, 3, 0] := ⟨(hv4.le lB4).st, (hv4.le lB4).calls, ht4, Ajk, by decide, Cyf⟩
 clear hv4 ht4
 have tB4 := Hp.le_trans tA4 lB4
 clear lB4 tA4
 ((try (refine @unH _ ?_; refine zX Aq1 ?_)); (try (refine hK _ _ ?_; clear hK K; (try simp only [nq, ↓reduceIte, Nat.reduceEqDiff]))); refine @unH _ ?_; refine zA Aq1 ?_; (repeat (refine inC ?_; intro hc)); try (refine inK ?_; intro K hK))
 refine (Cjm _ _ 2 4 _ _ _ _ _ _ hd4 0 1 (by omega) (by decide) (by omega) (by omega)).runs.mono ?_
 rintro _ C4 ⟨rfl, lC4⟩
 have hr_C4 := hr_B4.le lC4
 have hb_C4 := hb_B4.le lC4
 clear hr_B4 hb_B4
 rw [show Cy0 ((Axw ([2, 0, 3, 0] : List Int).length 2 [2, 0, 3, 0] (oOf [0, 1])).countP fun cs => cs.getD (0 : Int).toNat 0 == 1) (Axw ([2, 0, 3, 0] : List Int).length 2 [2, 0, 3, 0] (oOf [0, 1])).length = 1 from Dj7]
 clear hd4
 have tC4 := Hp.le_trans tB4 lC4
 clear lC4 tB4
 ((try (refine @unH _ ?_; refine zX Aq1 ?_)); (try (refine hK _ _ ?_; clear hK K; (try simp only [nq, ↓reduceIte, Nat.reduceEqDiff]))); refine @unH _ ?_; refine zA Aq1 ?_; (repeat (refine inC ?_; intro hc)); try (refine inK ?_; intro K hK))
 refine (Az2 _ C4).runs.mono ?_
 rintro _ A5 ⟨sv5, cv5, rfl, lA5, hv5⟩
 have hr_A5 := hr_C4.le lA5
 have hb_A5 := hb_C4.le lA5
 clear hr_C4 hb_C4
 have tA5 := Hp.le_trans tC4 lA5
 clear lA5 tC4
 ((try (refine @unH _ ?_; refine zX Aq1 ?_)); (try (refine hK _ _ ?_; clear hK K; (try simp only [nq, ↓reduceIte, Nat.reduceEqDiff]))); refine @unH _ ?_; refine zA Aq1 ?_; (repeat (refine inC ?_; intro hc)); try (refine inK ?_; intro K hK))
 refine (Akz _ A5).runs.mono ?_
 rintro _ B5 ⟨tv5, rfl, lB5, ht5⟩
 have hr_B5 := hr_A5.le lB5
 have hb_B5 := hb_A5.le lB5
 clear hr_A5 hb_A5
 have hd5 : Awq B5 2 4 sv5 cv5 tv5 [0, 1] [[2], [0], [1, 3], [0]] [2, 0, 1, 0] := ⟨(hv5.le lB5).st, (hv5.le lB5).calls, ht5, Ajk, by decide, Aw6⟩
 clear hv5 ht5
 have tB5 := Hp.le_trans tA5 lB5
 clear lB5 tA5
 ((try (refine @unH _ ?_; refine zX Aq1 ?_)); (try (refine hK _ _ ?_; clear hK K; (try simp only [nq, ↓reduceIte, Nat.reduceEqDiff]))); refine @unH _ ?_; refine zA Aq1 ?_; (repeat (refine inC ?_; intro hc)); try (refine inK ?_; intro K hK))
 refine (Byj _ _ 2 4 _ _ _ _ _ _ hd5).runs.mono ?_
 rintro _ C5 ⟨pv, rfl, lC5, hp⟩
 have hr_C5 := hr_B5.le lC5
 have hb_C5 := hb_B5.le lC5
 clear hr_B5 hb_B5
 rw [show Azh 2 [2, 0, 1, 0] ([2, 0, 1, 0] : List Int).length 0 = [0, 2] from Dx2] at hp
 clear hd5
 have tC5 := Hp.le_trans tB5 lC5
 clear lC5 tB5
 ((try (refine @unH _ ?_; refine zX Aq1 ?_)); (try (refine hK _ _ ?_; clear hK K; (try simp only [nq, ↓reduceIte, Nat.reduceEqDiff]))); refine @unH _ ?_; refine zA Aq1 ?_; (repeat (refine inC ?_; intro hc)); try (refine inK ?_; intro K hK))
 refine (Az2 _ C5).runs.mono ?_
 rintro _ A6 ⟨sv6, cv6, rfl, lA6, hv6⟩
 have hr_A6 := hr_C5.le lA6
 have hb_A6 := hb_C5.le lA6
 have hp_A6 := hp.le lA6
 clear hr_C5 hb_C5 hp
 have tA6 := Hp.le_trans tC5 lA6
 clear lA6 tC5
 ((try (refine @unH _ ?_; refine zX Aq1 ?_)); (try (refine hK _ _ ?_; clear hK K; (try simp only [nq, ↓reduceIte, Nat.reduceEqDiff]))); refine @unH _ ?_; refine zA Aq1 ?_; (repeat (refine inC ?_; intro hc)); try (refine inK ?_; intro K hK))
 refine (Akz _ A6).runs.mono ?_
 rintro _ B6 ⟨tv6, rfl, lB6, ht6⟩
 have hr_B6 := hr_A6.le lB6
 have hb_B6 := hb_A6.le lB6
 have hp_B6 := hp_A6.le lB6
 clear hr_A6 hb_A6 hp_A6
 have hd6 : Awq B6 2 4 sv6 cv6 tv6 [0, 1] [[2], [0], [1, 3], [0]] [2, 0, 1, 0] := ⟨(hv6.le lB6).st, (hv6.le lB6).calls, ht6, Ajk, by decide, Aw6⟩
 clear hv6 ht6
 have tB6 := Hp.le_trans tA6 lB6
 clear lB6 tA6
 ((try (refine @unH _ ?_; refine zX Aq1 ?_)); (try (refine hK _ _ ?_; clear hK K; (try simp only [nq, ↓reduceIte, Nat.reduceEqDiff]))); refine @unH _ ?_; refine zA Aq1 ?_; (repeat (refine inC ?_; intro hc)); try (refine inK ?_; intro K hK))
 refine (Byk _ _ 2 4 _ _ _ _ _ _ hd6 1 (by omega)).runs.mono ?_
 rintro _ C6 ⟨rfl, lC6⟩
 have hr_C6 := hr_B6.le lC6
 have hb_C6 := hb_B6.le lC6
 have hp_C6 := hp_B6.le lC6
 clear hr_B6 hb_B6 hp_B6
 rw [show Ayz [0, 1] [2, 0, 1, 0] 1 = some 3 from Dx3]
 clear hd6
 simp only [Option.getD_some, Option.isSome_some, if_true]
 have tC6 := Hp.le_trans tB6 lC6
 clear lC6 tB6
 ((try (refine @unH _ ?_; refine zX Aq1 ?_)); (try (refine hK _ _ ?_; clear hK K; (try simp only [nq, ↓reduceIte, Nat.reduceEqDiff]))); refine @unH _ ?_; refine zA Aq1 ?_; (repeat (refine inC ?_; intro hc)); try (refine inK ?_; intro K hK))
 refine (Bkr _ C6).runs.mono ?_
 rintro _ A7 ⟨sv7, cv7, rfl, lA7, hv7⟩
 have hr_A7 := hr_C6.le lA7
 have hb_A7 := hb_C6.le lA7
 have hp_A7 := hp_C6.le lA7
 clear hr_C6 hb_C6 hp_C6
 have tA7 := Hp.le_trans tC6 lA7
 clear lA7 tC6
 ((try (refine @unH _ ?_; refine zX Aq1 ?_)); (try (refine hK _ _ ?_; clear hK K; (try simp only [nq, ↓reduceIte, Nat.reduceEqDiff]))); refine @unH _ ?_; refine zA Aq1 ?_; (repeat (refine inC ?_; intro hc)); try (refine inK ?_; intro K hK))
 refine (Byh _ 1 2 _ _ _ _ hv7).runs.mono ?_
 rintro _ C7 ⟨rfl, lC7⟩
 have hr_C7 := hr_A7.le lC7
 have hb_C7 := hb_A7.le lC7
 have hp_C7 := hp_A7.le lC7
 clear hr_A7 hb_A7 hp_A7
 have tC7 := Hp.le_trans tA7 lC7
 clear lC7 tA7
 rw [fewE]
 clear hv7
 ((try (refine @unH _ ?_; refine zX Aq1 ?_)); (try (refine hK _ _ ?_; clear hK K; (try simp only [nq, ↓reduceIte, Nat.reduceEqDiff]))); refine @unH _ ?_; refine zA Aq1 ?_; (repeat (refine inC ?_; intro hc)); try (refine inK ?_; intro K hK))
 (intro bb hbb; generalize hG : Hp.set _ bb _ = D7; have lD7 := Aqg hG hbb; have vbb := Aqf hG; clear hG)
 have hr_D7 := hr_C7.le lD7
 have hb_D7 := hb_C7.le lD7
 have hp_D7 := hp_C7.le lD7
 clear hr_C7 hb_C7 hp_C7
 have tD7 := Hp.le_trans tC7 lD7
 clear lD7 tC7
 clear hbb
 ((try (refine @unH _ ?_; refine zX Aq1 ?_)); (try (refine hK _ _ ?_; clear hK K; (try simp only [nq, ↓reduceIte, Nat.reduceEqDiff]))); refine @unH _ ?_; refine zA Aq1 ?_; (repeat (refine inC ?_; intro hc)); try (refine inK ?_; intro K hK))
 refine (Az2 _ D7).runs.mono ?_
 rintro _ A8 ⟨sv8, cv8, rfl, lA8, hv8⟩
 have hr_A8 := hr_D7.le lA8
 have hb_A8 := hb_D7.le lA8
 have hp_A8 := hp_D7.le lA8
 clear hr_D7 hb_D7 hp_D7
 have lA8x := lA8
 have tA8 := Hp.le_trans tD7 lA8
 clear lA8 tD7
 ((try (refine @unH _ ?_; refine zX Aq1 ?_)); (try (refine hK _ _ ?_; clear hK K; (try simp only [nq, ↓reduceIte, Nat.reduceEqDiff]))); refine @unH _ ?_; refine zA Aq1 ?_; (repeat (refine inC ?_; intro hc)); try (refine inK ?_; intro K hK))
 refine (Cjs _ 2 4 _ _ _ _ hv8).runs.mono ?_
 rintro _ C8 ⟨rfl, lC8⟩
 have hr_C8 := hr_A8.le lC8
 have hb_C8 := hb_A8.le lC8
 have hp_C8 := hp_A8.le lC8
 clear hr_A8 hb_A8 hp_A8
 have vbb8 := lC8 _ _ (lA8x _ _ vbb)
 have tC8 := Hp.le_trans tA8 lC8
 clear lC8 tA8
 rw [Dj2]
 clear hv8
 ((try (refine @unH _ ?_; refine zX Aq1 ?_)); (try (refine hK _ _ ?_; clear hK K; (try simp only [nq, ↓reduceIte, Nat.reduceEqDiff]))); refine @unH _ ?_; refine zA Aq1 ?_; (repeat (refine inC ?_; intro hc)); try (refine inK ?_; intro K hK))
 refine (Bkr _ C8).runs.mono ?_
 rintro _ A9 ⟨sv9, cv9, rfl, lA9, hv9⟩
 have hr_A9 := hr_C8.le lA9
 have hb_A9 := hb_C8.le lA9
 have hp_A9 := hp_C8.le lA9
 clear hr_C8 hb_C8 hp_C8
 have vbb9 := lA9 _ _ vbb8
 have tA9 := Hp.le_trans tC8 lA9
 clear lA9 tC8
 ((try (refine @unH _ ?_; refine zX Aq1 ?_)); (try (refine hK _ _ ?_; clear hK K; (try simp only [nq, ↓reduceIte, Nat.reduceEqDiff]))); refine @unH _ ?_; refine zA Aq1 ?_; (repeat (refine inC ?_; intro hc)); try (refine inK ?_; intro K hK))
 refine (Cvs _ 1 2 _ _ _ _ hv9).runs.mono ?_
 rintro _ C9 ⟨rfl, lC9⟩
 have hr_C9 := hr_A9.le lC9
 have hb_C9 := hb_A9.le lC9
 have hp_C9 := hp_A9.le lC9
 clear hr_A9 hb_A9 hp_A9
 have vbb10 := lC9 _ _ vbb9
 have tC9 := Hp.le_trans tA9 lC9
 clear lC9 tA9
 rw [askE]
 clear hv9 vbb vbb8 vbb9 lA8x
 simp only [Int.reduceLT, if_false]
 ((try (refine @unH _ ?_; refine zX Aq1 ?_)); (try (refine hK _ _ ?_; clear hK K; (try simp only [nq, ↓reduceIte, Nat.reduceEqDiff]))); refine @unH _ ?_; refine zA Aq1 ?_; (repeat (refine inC ?_; intro hc)); try (refine inK ?_; intro K hK))
 refine Avz (fun e => e 1 = rv /\ e 2 = .int .i64 4 /\ e 3 = .int .i64 0 /\ e 4 = bv /\ e 5 = .int .i64 2 /\ e 6 = .int .i64 0 /\ e 7 = .int .i64 2 /\ e 8 = .int .i64 0 /\ e 9 = .int .i64 1 /\ e 10 = .int .i64 0 /\ e 11 = pv /\ e 12 = .int .i64 0 /\ e 13 = .int .i64 3 /\ e 14 = .int .i64 0 /\ e 15 = .pointer (some ⟨bb, 0, none⟩) /\ e 16 = .int .i64 0 /\ e 17 = .int .i64 1 /\ e 18 = .int .i64 0 /\ e 19 = .int .i64 0 /\ e 20 = .int .i64 1 /\ e 21 = .int .i64 0) ⟨rfl, rfl, rfl, rfl, rfl, rfl, rfl, rfl, rfl, rfl, rfl, rfl, rfl, rfl, rfl, rfl, rfl, rfl, rfl, rfl, rfl⟩ ?_
 rintro e ⟨e1, e2, e3, e4, e5, e6, e7, e8, e9, e10, e11, e12, e13, e14, e15, e16, e17, e18, e19, e20, e21⟩
 simp only [List.append]
 refine Axv rfl ?_; intro K hK
 simp -implicitDefEqProofs (disch := first | omega | (simp only [qd] <;> omega)) only [xq, ↓xp, qc, Nat.reduceAdd, List.range, List.range.loop, fine, Nat.reduceEqDiff, ↓reduceIte, yielded, reduceCtorEq, Nat.reduceLT, Nat.reduceMul, Nat.reduceSub, one, Nat.reduceLeDiff, Aqa, Aq1, aq, ↓ap, qe0, qe1, qe2, *, -hK, Bzs Bq3, Bzm Bvl]
 (intro g1 hg1; generalize hG : Hp.set _ g1 _ = E1; have lE1 := Aqg hG hg1; have vg1 := Aqf hG; clear hG)
 have hr_E1 := hr_C9.le lE1
 have hb_E1 := hb_C9.le lE1
 have hp_E1 := hp_C9.le lE1
 clear hr_C9 hb_C9 hp_C9
 have sl1 : SlI E1 (.slice (some ⟨g1, 0, none⟩) 4 4) [0, 1, 0, 1] := Ajm (xs := [0, 1, 0, 1]) vg1 rfl
 clear hg1 vg1
 have tE1 := Hp.le_trans tC9 lE1
 clear lE1 tC9
 refine (Av8 _ E1 rv _ [0, 1, 0, 1] [0, 1, 0, 1] hr_E1 sl1 (by decide) (by decide)).runs.mono ?_
 rintro _ HQ ⟨rfl, hHQ⟩
 rw [hHQ]
 clear hHQ HQ
 rw [decide_eq_true rfl]
 clear sl1
 ((try (refine @unH _ ?_; refine Cv1 ?_)); (try (refine hK _ _ ?_; clear hK K; (try simp only [nq, ↓reduceIte, Nat.reduceEqDiff]))); refine @unH _ ?_; refine Cv5 ?_; (repeat (refine inC ?_; intro hc)); try (refine inK ?_; intro K hK))
 (intro g2 hg2; generalize hG : Hp.set _ g2 _ = E2; have lE2 := Aqg hG hg2; have vg2 := Aqf hG; clear hG)
 have hr_E2 := hr_E1.le lE2
 have hb_E2 := hb_E1.le lE2
 have hp_E2 := hp_E1.le lE2
 clear hr_E1 hb_E1 hp_E1
 have sl2 : SlI E2 (.slice (some ⟨g2, 0, none⟩) 4 4) [0, 2, -1, -1] := Ajm (xs := [0, 2, -1, -1]) vg2 rfl
 clear hg2 vg2
 have tE2 := Hp.le_trans tE1 lE2
 clear lE2 tE1
 refine (Av8 _ E2 bv _ [0, 2, -1, -1] [0, 2, -1, -1] hb_E2 sl2 (by decide) (by decide)).runs.mono ?_
 rintro _ HQ ⟨rfl, hHQ⟩
 rw [hHQ]
 clear hHQ HQ
 rw [decide_eq_true rfl]
 clear sl2
 ((try (refine @unH _ ?_; refine Cv1 ?_)); (try (refine hK _ _ ?_; clear hK K; (try simp only [nq, ↓reduceIte, Nat.reduceEqDiff]))); refine @unH _ ?_; refine Cv5 ?_; (repeat (refine inC ?_; intro hc)); try (refine inK ?_; intro K hK))
 (intro g3 hg3; generalize hG : Hp.set _ g3 _ = E3; have lE3 := Aqg hG hg3; have vg3 := Aqf hG; clear hG)
 have hr_E3 := hr_E2.le lE3
 have hb_E3 := hb_E2.le lE3
 have hp_E3 := hp_E2.le lE3
 clear hr_E2 hb_E2 hp_E2
 have sl3 : SlI E3 (.slice (some ⟨g3, 0, none⟩) 2 2) [0, 2] := Ajm (xs := [0, 2]) vg3 rfl
 clear hg3 vg3
 have tE3 := Hp.le_trans tE2 lE3
 clear lE3 tE2
 refine (Av8 _ E3 pv _ [0, 2] [0, 2] hp_E3 sl3 (by decide) (by decide)).runs.mono ?_
 rintro _ HQ ⟨rfl, hHQ⟩
 rw [hHQ]
 clear hHQ HQ
 rw [decide_eq_true rfl]
 clear sl3
 ((try (refine @unH _ ?_; refine Cv1 ?_)); (try (refine hK _ _ ?_; clear hK K; (try simp only [nq, ↓reduceIte, Nat.reduceEqDiff]))); refine @unH _ ?_; refine Cv5 ?_; (repeat (refine inC ?_; intro hc)); try (refine inK ?_; intro K hK))
 (refine @unH _ ?_; refine z9 Tryz.results22 ?_)
 exact ⟨by trivial, tE3⟩
end Go.Proofs.YtgniilnljeedlaaGreatDoor
end
section
namespace Go.X
open Go Go.RowKit
open Go.Conc (G base)
theorem Base.below {W w : World} (h : Base W w) : Below W.heap.size W { w with tape := W.tape } := ⟨h.os, rfl, h.output, h.size, h.block⟩
theorem Base.kept {W w : World} (h : Base W w) (may : MemPlace -> Prop) : W.keptBut w may := by
 have := World.keptBut_refl W may
 refine ⟨h.os, h.output, fun i hi => ?_⟩
 rw [h.block i hi]
 exact this.2.2 i hi
theorem leaving_of_change_and {H : Type} {enc : TypeId × Value -> H} {a : Assume} {C : Checked} {os : Os} {f : FuncId} {fn : Func} {s : ChangeSpec} {conds : List PathCond} {apart fresh handsOn again : Bool} {X : World -> Array Value -> Prop}
  (hX : ∀ (w w' : World) (args : Array Value), w.heap = w'.heap -> X w args -> X w' args)
  (own : ownKnob C.prog.godebug = none) (started : os.Started) (hfn : C.prog.funcs[f]? = some fn)
  (witness : ∃ (w : World) (tape : Tape) (i : Input), w.os = os /\ (w.forCall tape i).Shaped C.prog /\ i.vars = [] /\ Input.okWide C.prog (w.forCall tape i) .any w.heap.size f i /\
   ((s.pre enc C.prog fn conds apart (w.forCall tape i).memory i.args /\ X (w.forCall tape i).memory i.args) /\ sizedMet enc C.prog fn (OpenSpec.ofChange s) apart (w.forCall tape i).memory i.args) /\ a.holds C.prog (lone (Frame.enter C.prog f i.args .normal) [] (w.forCall tape i)))
  (runs : ∀ (W : World) (base : Nat) (args : Array Value) (ds gs : List (DataW H)) (before : List MemPlace),
   (∀ (j : Nat) t v, fn.params[j]? = some t -> args[j]? = some v -> Value.okWide C.prog W .any base t v) ->
   DataW.Whole enc C.prog fn.params.toList s.vars apart W args.toList ds gs before -> X W args ->
   Ends C.prog (fun v W' => s.post enc C.prog fn apart fresh handsOn again W args v W') (Conc.solo (G (Frame.enter C.prog f args .normal) []) W) #[]) :
  ReturnsInLeavingWide a C os f .any (fun w args => (s.pre enc C.prog fn conds apart w args /\ X w args) /\ sizedMet enc C.prog fn (OpenSpec.ofChange s) apart w args) (s.post enc C.prog fn apart fresh handsOn again) := by
 refine returnsInLeavingWide_of_good own started witness ?_
 intro w tape i _ _ _ hok hpre hholds
 obtain ⟨_, _, _, fn', hfn', _, _, _, _, hval⟩ := hok
 have e : fn' = fn := Option.some.inj (hfn'.symm.trans hfn)
 subst e
 obtain ⟨⟨⟨ds, gs, before, hw, hc⟩, hx⟩, hz⟩ := hpre
 have hw' := DataW.Whole.of_heap (w' := w.forCall tape i) (by rfl) hw
 obtain ⟨M, last, o, w', t', h1, h2, h3, h4⟩ := runs (w.forCall tape i) w.heap.size i.args ds gs before hval hw' (hX _ _ _ (by rfl) hx)
 exact ⟨M, last, o, w', t', h1, h2, h3, h4.mono fun v hp => ChangeSpec.post_blind hp⟩
end Go.X
end
section
namespace Go.Proofs.YtgniilnljeedlaaGreatDoor
open Go Go.X Go.ChangeShapes Go.WideShapes Go.RowKit
theorem ownK : ownKnob Tryz.prog.godebug = none := by kernel_rfl
theorem laidOutK : laidOutB Tryz.prog = true := by kernel_rfl
theorem cellsK : Tryz.prog.cellsOf 3 = 1 := by kernel_rfl
noncomputable def laidWorld (os : Os) : World :=
 let w0 := World.holding Tryz.prog os ⟨#[], #[], []⟩
 {w0 with heap := w0.heap.modify 0 fun
   | .cells _ t frozen => .cells #[.iface 210 (.agg #[.pointer (some ⟨1, 139, none⟩)])] t frozen
   | o => o }
theorem laidWorld_met (os : Os) (args : Array Value) : laidMetH Tryz.prog [("errors.errorType", Rows.laid_errors_errorType)] ((laidWorld os).forCall (fun _ _ => 0) ⟨#[], args, []⟩).memory :=
 laidMetH_of_parts (laidMet_nil _ _) (by kernel_rfl)
theorem results_tmp {fn : Func} {t : Tmp} (h : fn.results = #[.tmp t]) (P : Program) (tmps : Array Value) (w : World) (v : Value) (w' : World) (hr : (results fn tmps).run P w = .ok v w') : w' = w := by
 simp [results, h] at hr
 exact hr.2.symm
end Go.Proofs.YtgniilnljeedlaaGreatDoor
end
section
namespace Go.Proofs.YtgniilnljeedlaaGreatDoor
open Go Go.X
def maxP (G : List Int -> Int) (L : List (List Int)) : Int := L.foldl (fun a t => max a (G t)) 0
theorem maxP_snoc (F : List Int -> Int) (L : List (List Int)) (t : List Int) : maxP F (L ++ [t]) = max (maxP F L) (F t) := by simp [maxP]
theorem maxP_is (F : List Int -> Int) : ∀ L : List (List Int), L ≠ [] -> (∀ t ∈ L, 0 <= F t) -> maxP F L = (bdT F L).hi
 | [], h, _ => absurd rfl h
 | t :: L, _, hb => by
  have key : ∀ (L : List (List Int)) (b : Bd), b.some = true -> L.foldl (fun a t => max a (F t)) b.hi = (L.foldl (fun b t => Akw b (F t)) b).hi := fun L => by
   induction L with
   | nil => intro b _; rfl
   | cons t L ih =>
    intro b hbs
    have e : Akw b (F t) = ⟨min b.lo (F t), max b.hi (F t), true⟩ := by unfold Akw; rw [if_pos hbs]
    simp only [List.foldl_cons, e]
    exact ih ⟨min b.lo (F t), max b.hi (F t), true⟩ rfl
  have ht := hb t List.mem_cons_self
  have e : Akw bd0 (F t) = ⟨F t, F t, true⟩ := by simp [Akw, bd0]
  simp only [maxP, bdT, List.foldl_cons, e]
  rw [show max (0 : Int) (F t) = F t by omega]
  exact key L ⟨F t, F t, true⟩ rfl
def tsX (out : List (List Int)) (l : List Int) : List (List Int) := out.flatMap fun o => l.map fun p => o ++ [p]
theorem tsX_all : ∀ (xss out : List (List Int)), xss.foldl tsX out = out.flatMap fun o => (Aqt xss).map (o ++ ·)
 | [], out => by simp [Aqt]
 | l :: r, out => by
  rw [List.foldl_cons, tsX_all r]
  simp only [tsX, Aqt, List.flatMap_assoc, List.flatMap_map, List.map_flatMap, List.map_map]
  congr 1
  funext o
  congr 1
  funext p
  congr 1
  funext t
  simp
def tsK (xss : List (List Int)) (i : Nat) : List (List Int) := (xss.take i).foldl tsX [[]]
theorem tsK_succ {xss : List (List Int)} {i : Nat} {l : List Int} (h : xss[i]? = some l) : tsK xss (i + 1) = tsX (tsK xss i) l := by
 unfold tsK
 rw [List.take_add_one, h, Option.toList_some, List.foldl_append]
 rfl
theorem tsK_all (xss : List (List Int)) : tsK xss xss.length = Aqt xss := by
 unfold tsK
 rw [List.take_length, tsX_all]
 simp
theorem tsX_length (out : List (List Int)) (l : List Int) : (tsX out l).length = out.length * l.length := by
 unfold tsX
 rw [List.length_flatMap]
 simp only [List.length_map]
 induction out with
 | nil => simp
 | cons o out ih => simp only [List.map_cons, List.sum_cons, List.length_cons, ih, Nat.add_mul]; omega
theorem tsK_bnd {xss : List (List Int)} {w : Nat} (hx : ∀ l ∈ xss, l.length <= w) : ∀ i, i <= xss.length -> (tsK xss i).length <= w ^ i /\ ∀ o ∈ tsK xss i, o.length = i
 | 0, _ => by simp [tsK]
 | i + 1, hi => by
  have ih := tsK_bnd hx i (by omega)
  have hl := hx _ (List.getElem_mem (show i < xss.length by omega))
  rw [tsK_succ (List.getElem?_eq_getElem (show i < xss.length by omega))]
  refine ⟨?_, fun o ho => ?_⟩
  ·rw [tsX_length, Nat.pow_succ]
   exact Nat.mul_le_mul ih.1 hl
  ·simp only [tsX, List.mem_flatMap, List.mem_map] at ho
   obtain ⟨o', ho', p, _, rfl⟩ := ho
   rw [List.length_append, ih.2 o' ho']
   rfl
def y60_137 := And.intro @Bzc (And.intro (fun H => Aqh (H := H) Tryz.underlying25 (i := 3) rfl (off := 3) rfl Tryz.sizeOf23) (And.intro (fun H => Aqe (H := H) Tryz.underlying23 rfl) (And.intro (fun H => Aq3 (H := H) Tryz.underlying23) (And.intro (fun H => Aqq (H := H) Tryz.underlying23 Tryz.sizeOf22) (And.intro (fun H => Aqe (H := H) Tryz.underlying22 rfl) (And.intro (fun H => Aq3 (H := H) Tryz.underlying22) (And.intro @Dq1 (And.intro (fun H => Aqq (H := H) Tryz.underlying22 Tryz.sizeOf3) (And.intro (fun H => Aqe (H := H) Tryz.underlying3 rfl) @Axq)))))))))
theorem row_one {H0 H : Hp} {b : Nat} {u : Value} (hb : H0 b = none) (hl : H0.le H) (hv : H b = some (true, .cells #[u] 22 (0, 0))) : RowX none H0 H (.slice (some ⟨b, 0, none⟩) 1 1) 22 [u] :=
 ⟨Lex.of hl, .inr ⟨b, #[u], 1, hb, hv, rfl, rfl, Nat.le_refl _, fun i w h => by
  cases i with
  | zero => simpa using h
  | succ i => simp at h⟩⟩
theorem tsX_step {out : List (List Int)} {l : List Int} {k : Nat} {o : List Int} (h : out[k]? = some o) : tsX (out.take (k + 1)) l = tsX (out.take k) l ++ l.map fun p => o ++ [p] := by
 rw [List.take_add_one, h, Option.toList_some]
 simp [tsX]
theorem map_step {f : Int -> List Int} {l : List Int} {p : Nat} {x : Int} (h : l[p]? = some x) : (l.take (p + 1)).map f = (l.take p).map f ++ [f x] := by
 rw [List.take_add_one, h, Option.toList_some, List.map_append]
 rfl
theorem truthsF_len {places pieces : Int} {start : List Int} {xss : List (List Int)} (hok : Aja places pieces start xss) (h4 : xss.length <= 4) : (Aqt xss).length <= 1296 := by
 have hw6 : ∀ l ∈ xss, l.length <= 6 := fun l hl => by have h1 := (hok.2.2.2.2.2.2.2 l hl).len; have h2 := hok.2.2.2.1; omega
 have h := (tsK_bnd hw6 xss.length (Nat.le_refl _)).1
 rw [tsK_all] at h
 refine Nat.le_trans h ?_
 have : xss.length = 0 ∨ xss.length = 1 ∨ xss.length = 2 ∨ xss.length = 3 ∨ xss.length = 4 := by omega
 rcases this with h | h | h | h | h <;> rw [h] <;> decide
theorem callTruths_spec (m : Md) (H : Hp) (places pieces : Int) (sv cv : Value) (start : List Int) (xss : List (List Int)) (hv : Ajp H places pieces sv cv start xss) (h4 : xss.length <= 4) :
  FnX Tryz.prog m 60 #[.agg #[.int .i64 places, .int .i64 pieces, sv, cv]] H fun e H' => ∃ w, e = .returned w /\ H.le H' /\ SlR H' w (Aqt xss) := by
 obtain ⟨sa, sn, sc, rfl⟩ := hv.st.isSlice
 obtain ⟨ca, cc, rfl, hcc, _⟩ := id hv.calls
 have hw6 : ∀ l ∈ xss, l.length <= 6 := fun l hl => by have h1 := (hv.ok.2.2.2.2.2.2.2 l hl).len; have h2 := hv.ok.2.2.2.1; omega
 have hbn := fun i hi => tsK_bnd hw6 i hi
 have hpow : ∀ i, i <= 4 -> 6 ^ i <= 1296 := fun i hi => by
  have : i = 0 ∨ i = 1 ∨ i = 2 ∨ i = 3 ∨ i = 4 := by omega
  rcases this with rfl | rfl | rfl | rfl | rfl <;> decide
 have hlen : ∀ i, i <= xss.length -> (tsK xss i).length <= 1296 := fun i hi => Nat.le_trans (hbn i hi).1 (hpow i (by omega))
 have hrl : ∀ i, i <= xss.length -> ∀ o ∈ tsK xss i, o.length <= 4 := fun i hi o ho => by rw [(hbn i hi).2 o ho]; omega
 replace hw6 : Aqy _ := hw6
 replace hlen : Aqy _ := hlen
 replace hrl : Aqy _ := hrl
 clear hbn hpow
 refine Aqk Tryz.func60 rfl Tryz.ntmps60 (by simp) ?_
 (refine @unH _ ?_; refine zA y60_137 ?_; (repeat (refine inC ?_; intro hc)); try (refine inK ?_; intro K hK))
 (intro vb hvb; generalize hG : Hp.set _ vb _ = H1; have lH1 := Aqg hG hvb; have vvb := Aqf hG; clear hG)
 have hv1 := hv.le lH1
 clear hvb
 ((try (refine @unH _ ?_; refine zX y60_137 ?_)); (try (refine hK _ _ ?_; clear hK K; (try simp only [nq, ↓reduceIte, Nat.reduceEqDiff]))); refine @unH _ ?_; refine zA y60_137 ?_; (repeat (refine inC ?_; intro hc)); try (refine inK ?_; intro K hK))
 (intro ob0 hob0; generalize hG : Hp.set _ ob0 _ = H2; have lH2 := Aqg hG hob0; have vob0 := Aqf hG; clear hG)
 have hv2 := hv1.le lH2
 have vvb2 := lH2 _ _ vvb
 have l02 := Hp.le_trans lH1 lH2
 have hout0 : SlR H2 (.slice (some ⟨ob0, 0, none⟩) 1 1) (tsK xss 0) := (row_one hob0 lH2 vob0).rows (Rows.nil.snoc (w := .slice none 0 0) (xs := []) ⟨none, 0, rfl, Nat.le_refl _, fun i x h => by simp at h⟩)
 clear hv1 vvb lH1 lH2 vob0 hob0
 ((try (refine @unH _ ?_; refine zX y60_137 ?_)); (try (refine hK _ _ ?_; clear hK K; (try simp only [nq, ↓reduceIte, Nat.reduceEqDiff]))); refine @unH _ ?_; refine zA y60_137 ?_; (repeat (refine inC ?_; intro hc)); try (refine inK ?_; intro K hK))
 refine Axb (fun w a' H' => ∃ e i ov, w = xss.length - i /\ i <= xss.length /\ a' = act 52 e [] /\ e 1 = .pointer (some ⟨vb, 0, none⟩) /\ e 3 = ov /\ e 4 = .int .i64 (i : Nat) /\ H2.le H' /\ SlR H' ov (tsK xss i)) (n := xss.length) ?_ ?_
 ·exact ⟨_, 0, _, by omega, by omega, rfl, rfl, rfl, rfl, Hp.le_refl _, hout0⟩
 ·clear hout0
  rename_i eold
  clear eold
  rintro w a' H3 ⟨e, i, ov, rfl, hi, rfl, e1, e3, e4, l23, hov⟩
  have hv3 := hv2.le l23
  have vvb3 := l23 _ _ vvb2
  by_cases hlt : i < xss.length
  ·have hxi := List.getElem?_eq_getElem hlt
   have hl6 := (show ∀ l ∈ xss, l.length <= 6 from hw6) xss[i] (List.getElem_mem hlt)
   have hnx := tsK_succ hxi
   have hon := (show ∀ i, _ from hlen) i (by omega)
   have hor := (show ∀ i, _ from hrl) i (by omega)
   generalize xss[i] = l at *
   obtain ⟨cb, co, q, c, fr, u, hca, hcb3, hcu, hu3⟩ := SlR.get hv3.calls hxi
   subst hca
   obtain ⟨ua, uc, rfl, _, _⟩ := id hu3
   obtain ⟨oa, oc, rfl, hoc, _⟩ := id hov
   generalize tsK xss i = out at *
   replace hnx : Aqy _ := hnx
   replace hor : Aqy _ := hor
   replace hxi : Aqy _ := hxi
   (refine @unH _ ?_; refine zA y60_137 ?_; (repeat (refine inC ?_; intro hc)); try (refine inK ?_; intro K hK))
   refine Axb (fun w a' H' => ∃ e k nv vs, w = out.length - k /\ k <= out.length /\ a' = act 52 e [] /\ e 1 = .pointer (some ⟨vb, 0, none⟩) /\ e 3 = .slice oa out.length oc /\ e 4 = .int .i64 (i : Nat) /\ e 5 = nv /\ e 6 = .int .i64 (k : Nat) /\ RowX none H3 H' nv 22 vs /\ Rows H' vs (tsX (out.take k) l)) (n := out.length) ?_ ?_
   ·exact ⟨_, 0, _, [], by omega, by omega, rfl, e1, e3, e4, rfl, rfl, RowX.nil, by simpa [tsX] using Rows.nil⟩
   ·clear e1 e3 e4
    rename_i eold
    clear eold
    rintro w a' H4 ⟨e, k, nv, vs, rfl, hk, rfl, e1, e3, e4, e5, e6, hrow, hrows⟩
    by_cases hkl : k < out.length
    ·have hok := List.getElem?_eq_getElem hkl
     have hol := (show ∀ o ∈ out, o.length <= 4 from hor) out[k] (List.getElem_mem hkl)
     generalize out[k] = o at *
     have hts := tsX_step (l := l) hok
     have htb := tsX_length (out.take k) l
     rw [List.length_take] at htb
     have htb2 : (tsX (out.take k) l).length <= 8000 := by rw [htb]; exact Nat.le_trans (Nat.mul_le_mul (Nat.le_trans (Nat.min_le_right _ _) hon) hl6) (by decide)
     clear htb
     generalize tsX (out.take k) l = T0 at *
     obtain ⟨na, nc, rfl⟩ := hrow.len
     obtain ⟨ob, oo, oq, occ, ofr, ow, hoa, hob3, hoi, how3⟩ := SlR.get hov hok
     subst hoa
     obtain ⟨wa, wc, rfl, hwc, _⟩ := id how3
     replace hts : Aqy _ := hts
     replace hok : Aqy _ := hok
     (refine @unH _ ?_; refine zA y60_137 ?_; (repeat (refine inC ?_; intro hc)); try (refine inK ?_; intro K hK))
     refine Axb (fun w a' H' => ∃ e p nv vs, w = l.length - p /\ p <= l.length /\ a' = act 52 e [] /\ e 1 = .pointer (some ⟨vb, 0, none⟩) /\ e 3 = .slice (some ⟨ob, oo, none⟩) out.length oc /\ e 4 = .int .i64 (i : Nat) /\ e 5 = nv /\ e 6 = .int .i64 (k : Nat) /\ e 7 = .int .i64 (p : Nat) /\ RowX none H3 H' nv 22 vs /\ Rows H' vs (T0 ++ (l.take p).map fun p => o ++ [p])) (n := l.length) ?_ ?_
     ·exact ⟨_, 0, _, vs, by omega, by omega, rfl, e1, e3, e4, e5, e6, rfl, hrow, by simpa using hrows⟩
     ·clear e1 e3 e4 e5 e6 hrow hrows
      rename_i eold
      clear eold na nc
      rintro w a' H4 ⟨e, p, nv, vs, rfl, hp, rfl, e1, e3, e4, e5, e6, e7, hrow, hrows⟩
      have l34 := hrow.1.toLe
      have vvb := l34 _ _ vvb3
      have hob := l34 _ _ hob3
      have hcb := l34 _ _ hcb3
      have how := how3.le l34
      have hu := hu3.le l34
      obtain ⟨na, nc, rfl⟩ := hrow.len
      by_cases hpl : p < l.length
      ·have hlp := List.getElem?_eq_getElem hpl
       generalize l[p] = pp at *
       have hms := map_step (f := fun p => o ++ [p]) hlp
       have hvl := hrows.1
       have hvb : vs.length <= 8006 := by rw [hvl, List.length_append, List.length_map, List.length_take]; omega
       obtain ⟨lb, lo, lq, lcc, lfr, hla, hlb, hli⟩ := hu.get hlp
       subst hla
       replace hms : Aqy _ := hms
       replace hlp : Aqy _ := hlp
       replace hvl : Aqy _ := hvl
       generalize (l.take p).map (fun p => o ++ [p]) = M0 at *
       (refine @unH _ ?_; refine zA y60_137 ?_; (repeat (refine inC ?_; intro hc)); try (refine inK ?_; intro K hK))
       refine Ajh (fun HX => H4.le HX) [17, 18] (.free 0 (.free 1 (.free 2 (.free 3 (.take 4 (.free 6 (.take 7 (.free 8 (.free 9 (.take 10 (.free 11 (.free 12 (.take 13 (.two 5 (.one 14 (.one 15 (.one 16 (.one 17 (.free 18 .nil))))) 14 (.one 5 (.one 15 (.one 16 (.one 17 (.free 18 .nil))))))))))))))))))) (by kernel_rfl) (by kernel_rfl) (by decide) (by kernel_rfl) ?_; intro K hK
       have hSx := Hp.le_refl H4
       (iterate 4 (apply Axn rfl rfl rfl; (focus (intro HX; simp -implicitDefEqProofs (disch := first | omega | (simp only [qd] <;> omega)) only [xq, ↓xp, qc, Nat.reduceAdd, List.range, List.range.loop, fine, Nat.reduceEqDiff, ↓reduceIte, yielded, reduceCtorEq, Nat.reduceLT, Nat.reduceMul, Nat.reduceSub, one, Nat.reduceLeDiff, Aqa, y60_137, aq, ↓ap, qe0, qe1, qe2, *, -hK, Aqx] <;> (first | exact rfl | exact ⟨rfl, rfl⟩ | exact ⟨rfl, trivial⟩))); simp -implicitDefEqProofs (disch := first | omega | (simp only [qd] <;> omega)) only [Aqm, Aqc]))
       (apply Aq8 rfl rfl rfl ‹_›; (focus (intro HX hHX; simp -implicitDefEqProofs (disch := first | omega | (simp only [qd] <;> omega)) only [xq, ↓xp, qc, Nat.reduceAdd, List.range, List.range.loop, fine, Nat.reduceEqDiff, ↓reduceIte, yielded, reduceCtorEq, Nat.reduceLT, Nat.reduceMul, Nat.reduceSub, one, Nat.reduceLeDiff, Aqa, y60_137, aq, ↓ap, qe0, qe1, qe2, *, -hK, Aqx, hHX _ _ vvb, hHX _ _ hob, hHX _ _ hcb, hHX _ _ hlb] <;> (first | exact rfl | exact ⟨rfl, rfl⟩ | exact ⟨rfl, trivial⟩))); simp -implicitDefEqProofs (disch := first | omega | (simp only [qd] <;> omega)) only [Aqm, Aqc])
       (apply Axn rfl rfl rfl; (focus (intro HX; simp -implicitDefEqProofs (disch := first | omega | (simp only [qd] <;> omega)) only [xq, ↓xp, qc, Nat.reduceAdd, List.range, List.range.loop, fine, Nat.reduceEqDiff, ↓reduceIte, yielded, reduceCtorEq, Nat.reduceLT, Nat.reduceMul, Nat.reduceSub, one, Nat.reduceLeDiff, Aqa, y60_137, aq, ↓ap, qe0, qe1, qe2, *, -hK, Aqx] <;> (first | exact rfl | exact ⟨rfl, rfl⟩ | exact ⟨rfl, trivial⟩))); simp -implicitDefEqProofs (disch := first | omega | (simp only [qd] <;> omega)) only [Aqm, Aqc])
       (apply Aq8 rfl rfl rfl ‹_›; (focus (intro HX hHX; simp -implicitDefEqProofs (disch := first | omega | (simp only [qd] <;> omega)) only [xq, ↓xp, qc, Nat.reduceAdd, List.range, List.range.loop, fine, Nat.reduceEqDiff, ↓reduceIte, yielded, reduceCtorEq, Nat.reduceLT, Nat.reduceMul, Nat.reduceSub, one, Nat.reduceLeDiff, Aqa, y60_137, aq, ↓ap, qe0, qe1, qe2, *, -hK, Aqx, hHX _ _ vvb, hHX _ _ hob, hHX _ _ hcb, hHX _ _ hlb] <;> (first | exact rfl | exact ⟨rfl, rfl⟩ | exact ⟨rfl, trivial⟩))); simp -implicitDefEqProofs (disch := first | omega | (simp only [qd] <;> omega)) only [Aqm, Aqc])
       (iterate 2 (apply Axn rfl rfl rfl; (focus (intro HX; simp -implicitDefEqProofs (disch := first | omega | (simp only [qd] <;> omega)) only [xq, ↓xp, qc, Nat.reduceAdd, List.range, List.range.loop, fine, Nat.reduceEqDiff, ↓reduceIte, yielded, reduceCtorEq, Nat.reduceLT, Nat.reduceMul, Nat.reduceSub, one, Nat.reduceLeDiff, Aqa, y60_137, aq, ↓ap, qe0, qe1, qe2, *, -hK, Aqx] <;> (first | exact rfl | exact ⟨rfl, rfl⟩ | exact ⟨rfl, trivial⟩))); simp -implicitDefEqProofs (disch := first | omega | (simp only [qd] <;> omega)) only [Aqm, Aqc]))
       (apply Aq8 rfl rfl rfl ‹_›; (focus (intro HX hHX; simp -implicitDefEqProofs (disch := first | omega | (simp only [qd] <;> omega)) only [xq, ↓xp, qc, Nat.reduceAdd, List.range, List.range.loop, fine, Nat.reduceEqDiff, ↓reduceIte, yielded, reduceCtorEq, Nat.reduceLT, Nat.reduceMul, Nat.reduceSub, one, Nat.reduceLeDiff, Aqa, y60_137, aq, ↓ap, qe0, qe1, qe2, *, -hK, Aqx, hHX _ _ vvb, hHX _ _ hob, hHX _ _ hcb, hHX _ _ hlb] <;> (first | exact rfl | exact ⟨rfl, rfl⟩ | exact ⟨rfl, trivial⟩))); simp -implicitDefEqProofs (disch := first | omega | (simp only [qd] <;> omega)) only [Aqm, Aqc])
       (iterate 2 (apply Axn rfl rfl rfl; (focus (intro HX; simp -implicitDefEqProofs (disch := first | omega | (simp only [qd] <;> omega)) only [xq, ↓xp, qc, Nat.reduceAdd, List.range, List.range.loop, fine, Nat.reduceEqDiff, ↓reduceIte, yielded, reduceCtorEq, Nat.reduceLT, Nat.reduceMul, Nat.reduceSub, one, Nat.reduceLeDiff, Aqa, y60_137, aq, ↓ap, qe0, qe1, qe2, *, -hK, Aqx] <;> (first | exact rfl | exact ⟨rfl, rfl⟩ | exact ⟨rfl, trivial⟩))); simp -implicitDefEqProofs (disch := first | omega | (simp only [qd] <;> omega)) only [Aqm, Aqc]))
       (apply Aq8 rfl rfl rfl ‹_›; (focus (intro HX hHX; simp -implicitDefEqProofs (disch := first | omega | (simp only [qd] <;> omega)) only [xq, ↓xp, qc, Nat.reduceAdd, List.range, List.range.loop, fine, Nat.reduceEqDiff, ↓reduceIte, yielded, reduceCtorEq, Nat.reduceLT, Nat.reduceMul, Nat.reduceSub, one, Nat.reduceLeDiff, Aqa, y60_137, aq, ↓ap, qe0, qe1, qe2, *, -hK, Aqx, hHX _ _ vvb, hHX _ _ hob, hHX _ _ hcb, hHX _ _ hlb] <;> (first | exact rfl | exact ⟨rfl, rfl⟩ | exact ⟨rfl, trivial⟩))); simp -implicitDefEqProofs (disch := first | omega | (simp only [qd] <;> omega)) only [Aqm, Aqc])
       refine planV_two ?_ ?_
       ·(refine @unH _ ?_; refine zX y60_137 ?_)
        refine (keepI_spec m H4 _ o how (by omega)).runs.mono ?_
        rintro _ H5 ⟨z, rfl, hz⟩
        have l45 := hz.1.toLe
        obtain ⟨za, zc, rfl⟩ := hz.len
        rw [Axi] at hz ⊢
        (refine @unH _ ?_; refine zX y60_137 ?_)
        refine ⟨.inr (by intros; first | exact l45 | trivial), Axa ?_⟩
        (refine @unH _ ?_; refine zX y60_137 ?_)
        intro nb hnb
        generalize hG : Hp.set H5 nb _ = H6
        have lH6 := Aqg hG hnb
        have vnb := Aqf hG
        clear hG
        have hsep : rowB (.slice za o.length zc) ≠ some nb := hz.rowB_ne fun c fr h => by rw [hnb] at h; cases h
        have hz6 := hz.le lH6
        have l46 := Hp.le_trans l45 lH6
        clear hz l45 lH6 hnb
        refine ⟨.inr (by intros; first | exact l46 | trivial), Axa ?_⟩
        (refine @unH _ ?_; refine zX y60_137 ?_)
        have hw1 : SlI H6 (.slice (some ⟨nb, 0, none⟩) 1 1) [pp] := Ajm (xs := [pp]) vnb rfl
        refine Czh hz6 hw1 (fun _ b hb => by simp only [rowB, Option.some.injEq] at hb; subst hb; exact hsep) (by simp only [List.length_cons, List.length_nil]; omega) _ _ _ _ (fun v6 H8 hlw hkeep => ?_)
        have l48 : H4.le H8 := hlw.1.toLe
        have hlI := hlw.ints
        obtain ⟨la, lc, rfl⟩ := hlw.len
        have hrow8 := hrow.le l48
        have hrows8 := hrows.mono fun v xs h => h.le l48
        clear hw1 hsep hlw hkeep vnb
        rw [Axi, List.length_append] at hlI ⊢
        simp only [List.length_cons, List.length_nil, Nat.zero_add] at hlI ⊢
        (refine @unH _ ?_; refine zX y60_137 ?_)
        refine ⟨.inr (by intros; first | exact l48 | trivial), Axa ?_⟩
        (refine @unH _ ?_; refine zX y60_137 ?_)
        intro mb hmb
        refine ⟨.inr (by intros; first | exact Hp.le_trans l48 (Hp.le_set hmb) | trivial), Axa ?_⟩
        (refine @unH _ ?_; refine zX y60_137 ?_)
        refine Cv8 hrow8 rfl hmb (by omega) _ _ _ _ (fun v7 HB hrB hoB => ?_)
        (refine @unH _ ?_; refine zX y60_137 ?_)
        refine ⟨.inl (by decide), ?_⟩
        (apply Axn rfl rfl rfl; (focus (intro HX; simp -implicitDefEqProofs (disch := first | omega | (simp only [qd] <;> omega)) only [xq, ↓xp, qc, Nat.reduceAdd, List.range, List.range.loop, fine, Nat.reduceEqDiff, ↓reduceIte, yielded, reduceCtorEq, Nat.reduceLT, Nat.reduceMul, Nat.reduceSub, one, Nat.reduceLeDiff, Aqa, y60_137, aq, ↓ap, qe0, qe1, qe2, *, -hK, Aqx] <;> (first | exact rfl | exact ⟨rfl, rfl⟩ | exact ⟨rfl, trivial⟩))); simp -implicitDefEqProofs (disch := first | omega | (simp only [qd] <;> omega)) only [Aqm, Aqc])
        refine Ajf (hK _ _ ?_); clear hK K
        (try simp only [nq, ↓reduceIte, Nat.reduceEqDiff])
        (refine @unH _ ?_; refine zA y60_137 ?_; (repeat (refine inC ?_; intro hc)); try (refine inK ?_; intro K hK))
        refine ⟨l.length - (p + 1), by omega, _, p + 1, v7, _, rfl, hpl, rfl, e1, e3, e4, rfl, e6, rfl, hrB, ?_⟩
        rw [show (l.take (p + 1)).map _ = _ from hms, <- List.append_assoc]
        exact (hrows8.mono fun v xs h => h.move fun x q c fr hx => hoB.cells hx (by decide)).snoc (hlI.move fun x q c fr hx => hoB.cells hx (by decide))
       ·(refine @unH _ ?_; refine zX y60_137 ?_)
        intro nb hnb
        generalize hG : Hp.set H4 nb _ = H5
        have l45 := Aqg hG hnb
        have vnb5 := Aqf hG
        clear hG hnb
        have how5 := (show SlI H4 _ _ from how).le l45
        refine ⟨.inr (by intros; first | exact l45 | trivial), Axa ?_⟩
        (refine @unH _ ?_; refine zX y60_137 ?_)
        refine (keepI_spec m H5 _ o how5 (by omega)).runs.mono ?_
        rintro _ H6 ⟨z, rfl, hz⟩
        have l56 := hz.1.toLe
        have l46 := Hp.le_trans l45 l56
        have vnb := l56 _ _ vnb5
        have hsep : rowB z ≠ some nb := fun h => by have := hz.rowB_new h; rw [vnb5] at this; cases this
        obtain ⟨za, zc, rfl⟩ := hz.len
        rw [Axi] at hz hsep ⊢
        clear how5 vnb5 l56
        (refine @unH _ ?_; refine zX y60_137 ?_)
        refine ⟨.inr (by intros; first | exact l46 | trivial), Axa ?_⟩
        (refine @unH _ ?_; refine zX y60_137 ?_)
        have hw1 : SlI H6 (.slice (some ⟨nb, 0, none⟩) 1 1) [pp] := Ajm (xs := [pp]) vnb rfl
        refine Czh hz hw1 (fun _ b hb => by simp only [rowB, Option.some.injEq] at hb; subst hb; exact hsep) (by simp only [List.length_cons, List.length_nil]; omega) _ _ _ _ (fun v6 H8 hlw hkeep => ?_)
        have l48 : H4.le H8 := Hp.le_trans l45 hlw.1.toLe
        have hlI := hlw.ints
        obtain ⟨la, lc, rfl⟩ := hlw.len
        have hrow8 := hrow.le l48
        have hrows8 := hrows.mono fun v xs h => h.le l48
        clear hw1 hsep hlw hkeep vnb
        rw [Axi, List.length_append] at hlI ⊢
        simp only [List.length_cons, List.length_nil, Nat.zero_add] at hlI ⊢
        (refine @unH _ ?_; refine zX y60_137 ?_)
        refine ⟨.inr (by intros; first | exact l48 | trivial), Axa ?_⟩
        (refine @unH _ ?_; refine zX y60_137 ?_)
        intro mb hmb
        refine ⟨.inr (by intros; first | exact Hp.le_trans l48 (Hp.le_set hmb) | trivial), Axa ?_⟩
        (refine @unH _ ?_; refine zX y60_137 ?_)
        refine Cv8 hrow8 rfl hmb (by omega) _ _ _ _ (fun v7 HB hrB hoB => ?_)
        (refine @unH _ ?_; refine zX y60_137 ?_)
        refine ⟨.inl (by decide), ?_⟩
        (apply Axn rfl rfl rfl; (focus (intro HX; simp -implicitDefEqProofs (disch := first | omega | (simp only [qd] <;> omega)) only [xq, ↓xp, qc, Nat.reduceAdd, List.range, List.range.loop, fine, Nat.reduceEqDiff, ↓reduceIte, yielded, reduceCtorEq, Nat.reduceLT, Nat.reduceMul, Nat.reduceSub, one, Nat.reduceLeDiff, Aqa, y60_137, aq, ↓ap, qe0, qe1, qe2, *, -hK, Aqx] <;> (first | exact rfl | exact ⟨rfl, rfl⟩ | exact ⟨rfl, trivial⟩))); simp -implicitDefEqProofs (disch := first | omega | (simp only [qd] <;> omega)) only [Aqm, Aqc])
        refine Ajf (hK _ _ ?_); clear hK K
        (try simp only [nq, ↓reduceIte, Nat.reduceEqDiff])
        (refine @unH _ ?_; refine zA y60_137 ?_; (repeat (refine inC ?_; intro hc)); try (refine inK ?_; intro K hK))
        refine ⟨l.length - (p + 1), by omega, _, p + 1, v7, _, rfl, hpl, rfl, e1, e3, e4, rfl, e6, rfl, hrB, ?_⟩
        rw [show (l.take (p + 1)).map _ = _ from hms, <- List.append_assoc]
        exact (hrows8.mono fun v xs h => h.move fun x q c fr hx => hoB.cells hx (by decide)).snoc (hlI.move fun x q c fr hx => hoB.cells hx (by decide))
      ·obtain rfl : p = l.length := by omega
       rw [List.take_length] at hrows
       (refine @unH _ ?_; refine zA y60_137 ?_; (repeat (refine inC ?_; intro hc)); try (refine inK ?_; intro K hK))
       refine ⟨out.length - (k + 1), by omega, _, k + 1, _, vs, rfl, hkl, rfl, e1, e3, e4, e5, rfl, hrow, ?_⟩
       rw [show tsX (out.take (k + 1)) l = _ from hts]
       exact hrows
    ·obtain rfl : k = out.length := by omega
     rw [List.take_length] at hrows
     have hS := hrow.rows hrows
     have l24 := Hp.le_trans l23 hrow.1.toLe
     obtain ⟨na, nc, rfl⟩ := hrow.len
     clear hrow
     rw [hrows.1] at hS e5
     clear hrows
     (refine @unH _ ?_; refine zA y60_137 ?_; (repeat (refine inC ?_; intro hc)); try (refine inK ?_; intro K hK))
     refine ⟨xss.length - (i + 1), by omega, _, i + 1, _, rfl, hlt, rfl, e1, rfl, rfl, l24, ?_⟩
     rw [show tsK xss (i + 1) = _ from hnx]
     exact hS
  ·obtain rfl : i = xss.length := by omega
   rw [tsK_all] at hov
   obtain ⟨oa, oc, rfl, hoc, _⟩ := id hov
   have l03 := Hp.le_trans l02 l23
   clear hlen hrl hv3
   generalize Aqt xss = out at *
   (refine @unH _ ?_; refine zA y60_137 ?_; (repeat (refine inC ?_; intro hc)); try (refine inK ?_; intro K hK))
   (refine @unH _ ?_; refine z9 Tryz.results60 ?_)
   exact ⟨_, rfl, l03, hov⟩
end Go.Proofs.YtgniilnljeedlaaGreatDoor
end
section
namespace Go.Proofs.YtgniilnljeedlaaGreatDoor
open Go Go.X
structure TrsA (H : Hp) (vb : Nat) (places pieces : Int) (sv cv ov : Value) (start : List Int) (xss L : List (List Int)) : Prop where
 d : Ajp H places pieces sv cv start xss
 v : H vb = some (true, .cells #[.int .i64 places, .int .i64 pieces, sv, cv] 25 (0, 0))
 o : SlR H ov L
section
variable {H H' : Hp} {vb : Nat} {places pieces : Int} {sv cv ov : Value} {start : List Int} {xss L : List (List Int)}
theorem TrsA.le (h : TrsA H vb places pieces sv cv ov start xss L) (hl : H.le H') : TrsA H' vb places pieces sv cv ov start xss L := ⟨h.d.le hl, hl _ _ h.v, h.o.le hl⟩
theorem TrsA.day (h : TrsA H vb places pieces sv cv ov start xss L) {t : List Int} {tv : Value} (ht : Az9 xss t) (hv : SlI H tv t) : Awq H places pieces sv cv tv start xss t := ⟨h.d.st, h.d.calls, hv, h.d.ok, h.d.few, ht⟩
end
theorem take_snoc {L : List (List Int)} {i : Nat} {t : List Int} (h : L[i]? = some t) : L.take (i + 1) = L.take i ++ [t] := by rw [List.take_add_one, h]; rfl
theorem fewF_bnd {places : Int} (h1 : 1 <= places) {start t : List Int} (ht : t.length <= 8) : 0 <= fewF places start t /\ fewF places start t <= 8 := by
 have := Bvw t.length places h1 t (oOf start) (Nat.le_refl _)
 unfold fewF
 omega
theorem fetF_bnd {places r : Int} {start t : List Int} (hs : ∀ y ∈ start, 0 <= y /\ y < 6) (hb : ∀ y ∈ t, 0 <= y /\ y < 6) (ht : t.length <= 8) : 0 <= fetF places r start t /\ fetF places r start t <= 8 := by
 have := (Bjr places r t start hs hb (by omega) t.length (Nat.le_refl _)).f
 unfold fetF
 omega
end Go.Proofs.YtgniilnljeedlaaGreatDoor
end
