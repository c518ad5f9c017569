/- Texts SmKp SmKg Leave PBase RunZ SmQn. -/
import Derived.Test.YtnfnaehonkbknaaGreatDoorJ20
import Derived.Conc.Holds
import Derived.Conc.LeavingOf
import Derived.Below
import Derived.Carry
import Derived.ChangeSame
import Derived.ChangeVars
import Derived.ChangeSlices
import Derived.JoinedOf
import Derived.RowKit
import Derived.RowKitTokens
import Derived.LaidLaws
import Derived.LaidHandle
import Derived.Stop.Joined
import Derived.Handed
import Derived.Test.YtnfnaehonkbknaaGreatDoorRows
set_option linter.defProp false
set_option linter.unusedSimpArgs false
set_option linter.unusedVariables false
set_option maxRecDepth 100000
set_option maxHeartbeats 2000000
section
namespace Go.X
open Go
theorem Cvn {P : Program} {H : Hp} {t : TypeId} (h : P.eqGuardType P.depth t = false) (op : BinOp) (x y : Operand) (p q : Array Value) (K : Unit -> Hp -> Prop) (E : Value -> Hp -> Prop) : wpS P (eqGuard op t x y (.agg p) (.agg q)) H K E = K () H := by
 unfold eqGuard
 cases op <;> first | rfl | (simp only [Aqa, Ajl, h, Bool.not_false, if_true]; first | rfl | (simp [Aqa, Ajl, h, Aqd]; done))
theorem Cvk {P : Program} {H : Hp} {ks : TypeId} (h : Key2 P ks .i64 .i64) (a b c d : Int) (K : Value -> Hp -> Prop) (E : Value -> Hp -> Prop) :
  wpS P (binOp .eql ks (.agg #[.int .i64 a, .int .i64 b]) (.agg #[.int .i64 c, .int .i64 d])) H K E = K (.bool (a == c && b == d)) H := by
 simp only [binOp]
 rw [Aqa, Bvh h]
 rfl
theorem sbin_neq2 {P : Program} {H : Hp} {ks : TypeId} (h : Key2 P ks .i64 .i64) (a b c d : Int) (K : Value -> Hp -> Prop) (E : Value -> Hp -> Prop) :
  wpS P (binOp .neq ks (.agg #[.int .i64 a, .int .i64 b]) (.agg #[.int .i64 c, .int .i64 d])) H K E = K (.bool !(a == c && b == d)) H := by
 simp only [binOp]
 rw [Aqa, Bvh h]
 rfl
end Go.X
namespace Go.Proofs.YtnfnaehonkbknaaGreatDoor
open Go Go.X Go.Proofs.Tryz
def Aqm := aN @Cj0 (aN @Dxl (aN @Dw3 (aN @Dws (aN @Dxf (aN @Dxj (aN @Dxe (aN @Dxd (aN @Dxm (aN @Dxn (aN @Dxo (aN @Dxg (aN @Dwk (aN @Dxi (aN @Ax1 (aN @Dxh @Bqw)))))))))))))))
theorem Dqb : Key2 Tryz.prog 34 .i64 .i64 := ⟨⟨_, _, underlying34, by decide, by decide, rfl, rfl, ⟨_, underlying3⟩, ⟨_, underlying3⟩⟩, by kernel_rfl⟩
theorem Cz8 : Program.eqGuardType Tryz.prog (Program.depth Tryz.prog) 34 = false := by kernel_rfl
theorem Aqy {H : Hp} (op : BinOp) (x y : Operand) (p q : Array Value) (K : Unit -> Hp -> Prop) (E : Value -> Hp -> Prop) : wpS Tryz.prog (eqGuard op 34 x y (.agg p) (.agg q)) H K E = K () H := Cvn Cz8 op x y p q K E
theorem Aqx {H : Hp} (a b c d : Int) (K : Value -> Hp -> Prop) (E : Value -> Hp -> Prop) :
 wpS Tryz.prog (binOp .eql 34 (.agg #[.int .i64 a, .int .i64 b]) (.agg #[.int .i64 c, .int .i64 d])) H K E = K (.bool (a == c && b == d)) H := Cvk Dqb a b c d K E
theorem Cxq {H : Hp} {b n : Nat} {xs : List Int} {c : Array Value} (h : H b = some (true, .cells c 3 (0, 0))) (hc : c = (ints xs).toArray) (hn : n = xs.length := by rfl) : SlI H (.slice (some ⟨b, 0, none⟩) n n) xs := by
 subst hc hn
 refine ⟨_, _, rfl, Nat.le_refl _, fun i x hx => ⟨b, 0, true, _, _, rfl, h, ?_⟩⟩
 rw [Nat.zero_add, List.getElem?_toArray]
 exact Bq4 hx
theorem smelled_spec (H : Hp) : FnX Tryz.prog (.wg Tryz.prog) 13 #[] H fun e H' => e = .returned (.bool true) /\ H.le H' := by
 refine Aql (args := []) func13 rfl ntmps13 (by simp) ?_
 (refine @unH _ (zA Aqm ?_); (try clear hK K); intro K hK hc)
 refine (Ajr _ H).runs.mono ?_
 rintro _ A1 ⟨dv1, hv1, nv1, rfl, hs1, lA1⟩
 have tA1 := lA1
 clear lA1
 (refine @unH _ (zU Aqm ?_); intro _ _ hc)
 refine (By6 A1 Aje _ _ _ hs1 Ava 2 3 _).runs.mono ?_
 rintro _ C1 ⟨rfl, lC1⟩
 rw [Cwt]
 clear hs1
 have tC1 := Hp.le_trans tA1 lC1
 clear lC1 tA1
 (refine @unH _ (zU Aqm ?_); intro _ _ hc)
 (intro ba hba; generalize hG : Hp.set _ ba _ = D1; have lD1 := Aqc hG hba; have vba := Aqb hG; clear hG)
 have vba_D1 := vba
 clear vba hba
 have tD1 := Hp.le_trans tC1 lD1
 clear lD1 tC1
 (refine @unH _ (zU Aqm ?_); (try clear hK K); intro K hK hc)
 refine (Ajr _ D1).runs.mono ?_
 rintro _ A2 ⟨dv2, hv2, nv2, rfl, hs2, lA2⟩
 have vba_A2 := lA2 _ _ vba_D1
 clear vba_D1
 have tA2 := Hp.le_trans tD1 lA2
 clear lA2 tD1
 (refine @unH _ (zU Aqm ?_); intro _ _ hc)
 refine (By2 A2 Aje _ _ _ hs2 Ava).runs.mono ?_
 rintro _ C2 ⟨rfl, lC2⟩
 have vba_C2 := lC2 _ _ vba_A2
 clear vba_A2
 rw [Cwr]
 clear hs2
 have tC2 := Hp.le_trans tA2 lC2
 clear lC2 tA2
 (refine @unH _ (zU Aqm ?_); (try clear hK K); intro K hK hc)
 refine (Ajr _ C2).runs.mono ?_
 rintro _ A3 ⟨dv3, hv3, nv3, rfl, hs3, lA3⟩
 have vba_A3 := lA3 _ _ vba_C2
 clear vba_C2
 have tA3 := Hp.le_trans tC2 lA3
 clear lA3 tC2
 (refine @unH _ (zU Aqm ?_); intro _ _ hc)
 refine (By7 A3 Aje _ _ _ hs3 Ava 1).runs.mono ?_
 rintro _ C3 ⟨rfl, lC3⟩
 have vba_C3 := lC3 _ _ vba_A3
 clear vba_A3
 rw [Cwu]
 clear hs3
 have tC3 := Hp.le_trans tA3 lC3
 clear lC3 tA3
 (refine @unH _ (zU Aqm ?_); intro _ _ hc)
 (intro bb hbb; generalize hG : Hp.set _ bb _ = D3; have lD3 := Aqc hG hbb; have vbb := Aqb hG; clear hG)
 have vba_D3 := lD3 _ _ vba_C3
 clear vba_C3
 have vbb_D3 := vbb
 clear vbb hbb
 have tD3 := Hp.le_trans tC3 lD3
 clear lD3 tC3
 (refine @unH _ (zU Aqm ?_); (try clear hK K); intro K hK hc)
 refine (Ajr _ D3).runs.mono ?_
 rintro _ A4 ⟨dv4, hv4, nv4, rfl, hs4, lA4⟩
 have vba_A4 := lA4 _ _ vba_D3
 have vbb_A4 := lA4 _ _ vbb_D3
 clear vba_D3 vbb_D3
 have tA4 := Hp.le_trans tD3 lA4
 clear lA4 tD3
 (refine @unH _ (zU Aqm ?_); intro _ _ hc)
 refine (Bkk A4 Aje _ _ _ hs4 Ava 0 3).runs.mono ?_
 rintro _ C4 ⟨rfl, lC4⟩
 have vba_C4 := lC4 _ _ vba_A4
 have vbb_C4 := lC4 _ _ vbb_A4
 clear vba_A4 vbb_A4
 rw [Dzb, Djj]
 clear hs4
 have tC4 := Hp.le_trans tA4 lC4
 clear lC4 tA4
 (refine @unH _ (zU Aqm ?_); (try clear hK K); intro K hK hc)
 refine (Ajr _ C4).runs.mono ?_
 rintro _ A5 ⟨dv5, hv5, nv5, rfl, hs5, lA5⟩
 have vba_A5 := lA5 _ _ vba_C4
 have vbb_A5 := lA5 _ _ vbb_C4
 clear vba_C4 vbb_C4
 have tA5 := Hp.le_trans tC4 lA5
 clear lA5 tC4
 (refine @unH _ (zU Aqm ?_); intro _ _ hc)
 refine (By1 A5 Aje _ _ _ hs5 Ava 3).runs.mono ?_
 rintro _ C5 ⟨rfl, lC5⟩
 have vba_C5 := lC5 _ _ vba_A5
 have vbb_C5 := lC5 _ _ vbb_A5
 clear vba_A5 vbb_A5
 rw [Cwq]
 clear hs5
 have tC5 := Hp.le_trans tA5 lC5
 clear lC5 tA5
 (refine @unH _ (zU Aqm ?_); intro _ _ hc)
 (intro bc hbc; generalize hG : Hp.set _ bc _ = D5; have lD5 := Aqc hG hbc; have vbc := Aqb hG; clear hG)
 have vba_D5 := lD5 _ _ vba_C5
 have vbb_D5 := lD5 _ _ vbb_C5
 clear vba_C5 vbb_C5
 have vbc_D5 := vbc
 clear vbc hbc
 have tD5 := Hp.le_trans tC5 lD5
 clear lD5 tC5
 (refine @unH _ (zU Aqm ?_); (try clear hK K); intro K hK hc)
 refine (Cyy _ D5).runs.mono ?_
 rintro _ A6 ⟨dv6, hv6, nv6, rfl, hs6, lA6⟩
 have vba_A6 := lA6 _ _ vba_D5
 have vbb_A6 := lA6 _ _ vbb_D5
 have vbc_A6 := lA6 _ _ vbc_D5
 clear vba_D5 vbb_D5 vbc_D5
 have tA6 := Hp.le_trans tD5 lA6
 clear lA6 tD5
 (refine @unH _ (zU Aqm ?_); intro _ _ hc)
 refine (By9 A6 oddS _ _ _ hs6 Dzp).runs.mono ?_
 rintro _ C6 ⟨wv, rfl, hw, lC6⟩
 have vba_C6 := lC6 _ _ vba_A6
 have vbb_C6 := lC6 _ _ vbb_A6
 have vbc_C6 := lC6 _ _ vbc_A6
 clear vba_A6 vbb_A6 vbc_A6
 rw [Cww] at hw
 have hw_C6 := hw
 clear hw
 clear hs6
 have tC6 := Hp.le_trans tA6 lC6
 clear lC6 tA6
 (refine @unH _ (zU Aqm ?_); (try clear hK K); intro K hK hc)
 refine (Ajr _ C6).runs.mono ?_
 rintro _ A7 ⟨dv7, hv7, nv7, rfl, hs7, lA7⟩
 have vba_A7 := lA7 _ _ vba_C6
 have vbb_A7 := lA7 _ _ vbb_C6
 have vbc_A7 := lA7 _ _ vbc_C6
 have hw_A7 := hw_C6.le lA7
 clear vba_C6 vbb_C6 vbc_C6 hw_C6
 have tA7 := Hp.le_trans tC6 lA7
 clear lA7 tC6
 (refine @unH _ (zU Aqm ?_); intro _ _ hc)
 refine (By8 A7 Aje _ _ _ hs7 Ava 2).runs.mono ?_
 rintro _ C7 ⟨rfl, lC7⟩
 have vba_C7 := lC7 _ _ vba_A7
 have vbb_C7 := lC7 _ _ vbb_A7
 have vbc_C7 := lC7 _ _ vbc_A7
 have hw_C7 := hw_A7.le lC7
 clear vba_A7 vbb_A7 vbc_A7 hw_A7
 rw [Cwv]
 clear hs7
 have tC7 := Hp.le_trans tA7 lC7
 clear lC7 tA7
 (refine @unH _ (zU Aqm ?_); (try clear hK K); intro K hK hc)
 refine (Ajr _ C7).runs.mono ?_
 rintro _ A8 ⟨dv8, hv8, nv8, rfl, hs8, lA8⟩
 have vba_A8 := lA8 _ _ vba_C7
 have vbb_A8 := lA8 _ _ vbb_C7
 have vbc_A8 := lA8 _ _ vbc_C7
 have hw_A8 := hw_C7.le lA8
 clear vba_C7 vbb_C7 vbc_C7 hw_C7
 have tA8 := Hp.le_trans tC7 lA8
 clear lA8 tC7
 (refine @unH _ (zU Aqm ?_); intro _ _ hc)
 refine (By3 A8 Aje _ _ _ hs8 Ava).runs.mono ?_
 rintro _ C8 ⟨fv, rfl, hf, lC8⟩
 have vba_C8 := lC8 _ _ vba_A8
 have vbb_C8 := lC8 _ _ vbb_A8
 have vbc_C8 := lC8 _ _ vbc_A8
 have hw_C8 := hw_A8.le lC8
 clear vba_A8 vbb_A8 vbc_A8 hw_A8
 rw [Cws] at hf ⊢
 have hf_C8 := hf
 clear hf
 clear hs8
 have tC8 := Hp.le_trans tA8 lC8
 clear lC8 tA8
 (refine @unH _ (zU Aqm ?_); (try clear hK K); intro K hK hc)
 replace hf_C8 : SlI C8 fv [2, 1, 2] := hf_C8
 refine Bjl (fun e => e 1 = .pointer (some ⟨ba, 0, none⟩) /\ e 2 = .int .i64 0 /\ e 3 = .int .i64 5 /\ e 4 = .int .i64 0 /\ e 5 = .pointer (some ⟨bb, 0, none⟩) /\ e 6 = .int .i64 0 /\ e 7 = .int .i64 3 /\ e 8 = .int .i64 0 /\ e 9 = .pointer (some ⟨bc, 0, none⟩) /\ e 10 = .int .i64 0 /\ e 11 = wv /\ e 12 = .int .i64 0 /\ e 13 = .int .i64 1 /\ e 14 = .int .i64 3 /\ e 15 = .int .i64 0 /\ e 16 = .int .i64 0 /\ e 17 = .int .i64 2 /\ e 18 = fv /\ e 19 = .int .i64 0) ⟨rfl, rfl, rfl, rfl, rfl, rfl, rfl, rfl, rfl, rfl, rfl, rfl, rfl, rfl, rfl, rfl, rfl, rfl, rfl⟩ ?_
 rintro e ⟨e1, e2, e3, e4, e5, e6, e7, e8, e9, e10, e11, e12, e13, e14, e15, e16, e17, e18, e19⟩
 simp only [List.append]
 refine Azl (fun HX => C8.le HX) [] (.free 0 (.free 1 (.free 2 (.free 3 (.free 4 (.free 5 (.free 6 (.free 7 (.free 8 (.free 9 (.free 10 (.free 11 (.free 12 (.free 13 (.free 14 (.free 15 (.free 16 (.free 17 (.free 18 (.free 19 (.free 20 (.free 21 (.free 22 (.free 23 (.free 24 (.free 25 (.free 26 (.free 27 (.free 28 (.free 29 (.free 30 (.take 31 (.one 32 (.free 33 (.free 34 (.free 35 (.free 36 (.free 37 (.free 38 (.free 39 (.take 40 (.one 41 (.free 42 (.free 43 (.free 44 (.free 45 (.free 46 (.free 47 (.free 48 (.take 49 (.one 50 (.free 51 (.free 52 (.free 53 (.free 54 (.free 55 (.free 56 (.free 57 (.free 58 (.free 59 (.free 60 (.free 61 (.free 62 (.free 63 (.free 64 (.free 65 (.free 66 (.free 67 (.free 68 (.free 69 (.free 70 (.one 71 (.one 72 (.free 73 (.free 74 (.free 75 (.one 76 (.one 77 (.free 78 (.free 79 .nil)))))))))))))))))))))))))))))))))))))))))))))))))))))))))))))))))))))))))))))))) (by kernel_rfl) (by kernel_rfl) (by decide) (by kernel_rfl) ?_; intro K hK
 have hS0 : C8.le C8 := Hp.le_refl _
 refine Byy fun ops hOz => ?_
 (refine @unH _ ?_; refine zF (aN Aqm (aN @Aqy @Aqx)) ?_)
 (refine @unH _ ?_; refine zF (aN Aqm (aN @Aqy @Aqx)) ?_)
 (refine @unH _ ?_; refine zF (aN Aqm (aN @Aqy @Aqx)) ?_)
 (refine @unH _ ?_; refine zG (aN Aqm (aN @Aqy @Aqx)) ?_)
 (refine @unH _ ?_; refine zG (aN Aqm (aN @Aqy @Aqx)) ?_)
 (refine @unH _ ?_; refine zF (aN Aqm (aN @Aqy @Aqx)) ?_)
 (refine @unH _ ?_; refine zF (aN Aqm (aN @Aqy @Aqx)) ?_)
 (refine @unH _ ?_; refine zG (aN Aqm (aN @Aqy @Aqx)) ?_)
 (refine @unH _ ?_; refine zG (aN Aqm (aN @Aqy @Aqx)) ?_)
 (refine @unH _ ?_; refine zF (aN Aqm (aN @Aqy @Aqx)) ?_)
 (refine @unH _ ?_; refine zF (aN Aqm (aN @Aqy @Aqx)) ?_)
 (refine @unH _ ?_; refine zG (aN Aqm (aN @Aqy @Aqx)) ?_)
 (refine @unH _ ?_; refine zG (aN Aqm (aN @Aqy @Aqx)) ?_)
 (refine @unH _ ?_; refine zF (aN Aqm (aN @Aqy @Aqx)) ?_)
 (refine @unH _ ?_; refine zF (aN Aqm (aN @Aqy @Aqx)) ?_)
 (refine @unH _ ?_; refine zG (aN Aqm (aN @Aqy @Aqx)) ?_)
 (refine @unH _ ?_; refine zG (aN Aqm (aN @Aqy @Aqx)) ?_)
 (refine @unH _ ?_; refine zF (aN Aqm (aN @Aqy @Aqx)) ?_)
 (refine @unH _ ?_; refine zF (aN Aqm (aN @Aqy @Aqx)) ?_)
 (refine @unH _ ?_; refine zG (aN Aqm (aN @Aqy @Aqx)) ?_)
 (refine @unH _ ?_; refine zG (aN Aqm (aN @Aqy @Aqx)) ?_)
 (refine @unH _ ?_; refine zF (aN Aqm (aN @Aqy @Aqx)) ?_)
 (refine @unH _ ?_; refine zF (aN Aqm (aN @Aqy @Aqx)) ?_)
 (refine @unH _ ?_; refine zG (aN Aqm (aN @Aqy @Aqx)) ?_)
 (refine @unH _ ?_; refine zG (aN Aqm (aN @Aqy @Aqx)) ?_)
 (refine @unH _ ?_; refine zF (aN Aqm (aN @Aqy @Aqx)) ?_)
 (refine @unH _ ?_; refine zF (aN Aqm (aN @Aqy @Aqx)) ?_)
 (refine @unH _ ?_; refine zG (aN Aqm (aN @Aqy @Aqx)) ?_)
 (refine @unH _ ?_; refine zG (aN Aqm (aN @Aqy @Aqx)) ?_)
 (refine @unH _ ?_; refine zF (aN Aqm (aN @Aqy @Aqx)) ?_)
 (refine @unH _ ?_; refine zF (aN Aqm (aN @Aqy @Aqx)) ?_)
 (apply Awu hOz rfl rfl rfl rfl (by simp -implicitDefEqProofs (disch := omega) only [act_get?, Axg, Nat.reduceEqDiff, ↓reduceIte, beq_self_eq_true, Bool.and_self, *]) ‹_›; (focus (intro HX hHX; simp -implicitDefEqProofs (disch := first | omega | (simp only [qd] <;> omega)) only [xq, ↓xp, qc, Nat.reduceAdd, List.range, List.range.loop, fine, Nat.reduceEqDiff, ↓reduceIte, yielded, reduceCtorEq, Nat.reduceLT, Nat.reduceMul, Nat.reduceSub, one, Nat.reduceLeDiff, Aqj, Aqm, aq, ↓ap, qe0, qe1, qe2, *, -hK, Aq3, hHX _ _ vba_C8, Av7] <;> (first | exact rfl | exact ⟨rfl, rfl⟩ | exact ⟨rfl, trivial⟩))); simp -implicitDefEqProofs (disch := first | omega | (simp only [qd] <;> omega)) only [Aq0, Aqp])
 (refine @unH _ ?_; refine zN (aN Aqm (aN @Aqy @Aqx)) ?_)
 refine (Ay1 _ C8 4 6).runs.mono ?_
 rintro _ E32 ⟨rfl, lE32⟩
 have mE32 : C8.le E32 := lE32
 simp -implicitDefEqProofs (disch := omega) only [Ak0, Aq0, Aqp]
 refine ⟨.inr fun _ => (by first | trivial | exact mE32 | exact lE32), ?_⟩
 (refine @unH _ ?_; refine zG (aN Aqm (aN @Aqy @Aqx)) ?_)
 (refine @unH _ ?_; refine zF (aN Aqm (aN @Aqy @Aqx)) ?_)
 (refine @unH _ ?_; refine zF (aN Aqm (aN @Aqy @Aqx)) ?_)
 (refine @unH _ ?_; refine zG (aN Aqm (aN @Aqy @Aqx)) ?_)
 (refine @unH _ ?_; refine zG (aN Aqm (aN @Aqy @Aqx)) ?_)
 (refine @unH _ ?_; refine zF (aN Aqm (aN @Aqy @Aqx)) ?_)
 (refine @unH _ ?_; refine zF (aN Aqm (aN @Aqy @Aqx)) ?_)
 (apply Awu hOz rfl rfl rfl rfl (by simp -implicitDefEqProofs (disch := omega) only [act_get?, Axg, Nat.reduceEqDiff, ↓reduceIte, beq_self_eq_true, Bool.and_self, *]) ‹_›; (focus (intro HX hHX; simp -implicitDefEqProofs (disch := first | omega | (simp only [qd] <;> omega)) only [xq, ↓xp, qc, Nat.reduceAdd, List.range, List.range.loop, fine, Nat.reduceEqDiff, ↓reduceIte, yielded, reduceCtorEq, Nat.reduceLT, Nat.reduceMul, Nat.reduceSub, one, Nat.reduceLeDiff, Aqj, Aqm, aq, ↓ap, qe0, qe1, qe2, *, -hK, Aq3, hHX _ _ vbb_C8, Av7] <;> (first | exact rfl | exact ⟨rfl, rfl⟩ | exact ⟨rfl, trivial⟩))); simp -implicitDefEqProofs (disch := first | omega | (simp only [qd] <;> omega)) only [Aq0, Aqp])
 (refine @unH _ ?_; refine zN (aN Aqm (aN @Aqy @Aqx)) ?_)
 refine (Ay1 _ E32 0 3).runs.mono ?_
 rintro _ E41 ⟨rfl, lE41⟩
 have mE41 : C8.le E41 := Hp.le_trans mE32 lE41
 simp -implicitDefEqProofs (disch := omega) only [Ak0, Aq0, Aqp]
 refine ⟨.inr fun _ => (by first | trivial | exact mE41 | exact lE41), ?_⟩
 (refine @unH _ ?_; refine zG (aN Aqm (aN @Aqy @Aqx)) ?_)
 (refine @unH _ ?_; refine zF (aN Aqm (aN @Aqy @Aqx)) ?_)
 (refine @unH _ ?_; refine zF (aN Aqm (aN @Aqy @Aqx)) ?_)
 (refine @unH _ ?_; refine zG (aN Aqm (aN @Aqy @Aqx)) ?_)
 (refine @unH _ ?_; refine zG (aN Aqm (aN @Aqy @Aqx)) ?_)
 (refine @unH _ ?_; refine zF (aN Aqm (aN @Aqy @Aqx)) ?_)
 (refine @unH _ ?_; refine zF (aN Aqm (aN @Aqy @Aqx)) ?_)
 (apply Awu hOz rfl rfl rfl rfl (by simp -implicitDefEqProofs (disch := omega) only [act_get?, Axg, Nat.reduceEqDiff, ↓reduceIte, beq_self_eq_true, Bool.and_self, *]) ‹_›; (focus (intro HX hHX; simp -implicitDefEqProofs (disch := first | omega | (simp only [qd] <;> omega)) only [xq, ↓xp, qc, Nat.reduceAdd, List.range, List.range.loop, fine, Nat.reduceEqDiff, ↓reduceIte, yielded, reduceCtorEq, Nat.reduceLT, Nat.reduceMul, Nat.reduceSub, one, Nat.reduceLeDiff, Aqj, Aqm, aq, ↓ap, qe0, qe1, qe2, *, -hK, Aq3, hHX _ _ vbc_C8, Av7] <;> (first | exact rfl | exact ⟨rfl, rfl⟩ | exact ⟨rfl, trivial⟩))); simp -implicitDefEqProofs (disch := first | omega | (simp only [qd] <;> omega)) only [Aq0, Aqp])
 (refine @unH _ ?_; refine zN (aN Aqm (aN @Aqy @Aqx)) ?_)
 refine (Ay1 _ E41 4 9).runs.mono ?_
 rintro _ E50 ⟨rfl, lE50⟩
 have mE50 : C8.le E50 := Hp.le_trans mE41 lE50
 simp -implicitDefEqProofs (disch := omega) only [Ak0, Aq0, Aqp]
 refine ⟨.inr fun _ => (by first | trivial | exact mE50 | exact lE50), ?_⟩
 (refine @unH _ ?_; refine zG (aN Aqm (aN @Aqy @Aqx)) ?_)
 (refine @unH _ ?_; refine zF (aN Aqm (aN @Aqy @Aqx)) ?_)
 (refine @unH _ ?_; refine zF (aN Aqm (aN @Aqy @Aqx)) ?_)
 (refine @unH _ ?_; refine zG (aN Aqm (aN @Aqy @Aqx)) ?_)
 (refine @unH _ ?_; refine zG (aN Aqm (aN @Aqy @Aqx)) ?_)
 (refine @unH _ ?_; refine zF (aN Aqm (aN @Aqy @Aqx)) ?_)
 (refine @unH _ ?_; refine zF (aN Aqm (aN @Aqy @Aqx)) ?_)
 (refine @unH _ ?_; refine zG (aN Aqm (aN @Aqy @Aqx)) ?_)
 (refine @unH _ ?_; refine zG (aN Aqm (aN @Aqy @Aqx)) ?_)
 (refine @unH _ ?_; refine zF (aN Aqm (aN @Aqy @Aqx)) ?_)
 (refine @unH _ ?_; refine zF (aN Aqm (aN @Aqy @Aqx)) ?_)
 (refine @unH _ ?_; refine zG (aN Aqm (aN @Aqy @Aqx)) ?_)
 (refine @unH _ ?_; refine zG (aN Aqm (aN @Aqy @Aqx)) ?_)
 (refine @unH _ ?_; refine zF (aN Aqm (aN @Aqy @Aqx)) ?_)
 (refine @unH _ ?_; refine zF (aN Aqm (aN @Aqy @Aqx)) ?_)
 (refine @unH _ ?_; refine zG (aN Aqm (aN @Aqy @Aqx)) ?_)
 (refine @unH _ ?_; refine zG (aN Aqm (aN @Aqy @Aqx)) ?_)
 (refine @unH _ ?_; refine zF (aN Aqm (aN @Aqy @Aqx)) ?_)
 (refine @unH _ ?_; refine zF (aN Aqm (aN @Aqy @Aqx)) ?_)
 (refine @unH _ ?_; refine zG (aN Aqm (aN @Aqy @Aqx)) ?_)
 (refine @unH _ ?_; refine zN (aN Aqm (aN @Aqy @Aqx)) ?_)
 intro g71 hg71
 generalize hG : Hp.set E50 g71 _ = E71
 have lE71 := Aqc hG hg71
 have vg71 := Aqb hG
 clear hG
 have mE71 : C8.le E71 := Hp.le_trans mE50 lE71
 refine ⟨.inr fun _ => mE71, ?_⟩
 have sl71 : SlI E71 (.slice (some ⟨g71, 0, none⟩) 1 1) [0] := Cxq (xs := [0]) vg71 rfl
 have sw71 : SlI E71 wv [0] := SlI.le hw_C8 mE71
 clear hg71 vg71
 (refine @unH _ ?_; refine zN (aN Aqm (aN @Aqy @Aqx)) ?_)
 refine (Ayd _ E71 wv _ [0] [0] sw71 sl71 (by decide) (by decide)).runs.mono ?_
 rintro _ HQ ⟨rfl, hHQ⟩
 rw [hHQ]
 clear hHQ HQ
 rw [decide_eq_true rfl]
 clear sl71 sw71
 simp -implicitDefEqProofs (disch := omega) only [Ak0, Aq0, Aqp]
 refine ⟨.inr fun _ => mE71, ?_⟩
 (refine @unH _ ?_; refine zF (aN Aqm (aN @Aqy @Aqx)) ?_)
 (refine @unH _ ?_; refine zF (aN Aqm (aN @Aqy @Aqx)) ?_)
 (refine @unH _ ?_; refine zG (aN Aqm (aN @Aqy @Aqx)) ?_)
 (refine @unH _ ?_; refine zN (aN Aqm (aN @Aqy @Aqx)) ?_)
 intro g76 hg76
 generalize hG : Hp.set E71 g76 _ = E76
 have lE76 := Aqc hG hg76
 have vg76 := Aqb hG
 clear hG
 have mE76 : C8.le E76 := Hp.le_trans mE71 lE76
 refine ⟨.inr fun _ => mE76, ?_⟩
 have sl76 : SlI E76 (.slice (some ⟨g76, 0, none⟩) 3 3) [2, 1, 2] := Cxq (xs := [2, 1, 2]) vg76 rfl
 have sw76 : SlI E76 fv [2, 1, 2] := SlI.le hf_C8 mE76
 clear hg76 vg76
 (refine @unH _ ?_; refine zN (aN Aqm (aN @Aqy @Aqx)) ?_)
 refine (Ayd _ E76 fv _ [2, 1, 2] [2, 1, 2] sw76 sl76 (by decide) (by decide)).runs.mono ?_
 rintro _ HQ ⟨rfl, hHQ⟩
 rw [hHQ]
 clear hHQ HQ
 rw [decide_eq_true rfl]
 clear sl76 sw76
 simp -implicitDefEqProofs (disch := omega) only [Ak0, Aq0, Aqp]
 refine ⟨.inr fun _ => mE76, ?_⟩
 (refine @unH _ ?_; refine zF (aN Aqm (aN @Aqy @Aqx)) ?_)
 (refine @unH _ ?_; refine zF (aN Aqm (aN @Aqy @Aqx)) ?_)
 refine Axk (hK _ _ ?_)
 clear hK K
 (try refine @unH _ (zQ ?_))
 (refine @unH _ ?_; refine z9 results13 ?_)
 exact ⟨by trivial, Hp.le_trans tC8 mE76⟩
end Go.Proofs.YtnfnaehonkbknaaGreatDoor
end
section
namespace Go.Proofs.YtnfnaehonkbknaaGreatDoor
open Go Go.X
def RowG (e : TypeId) (sz : Nat) (H : Hp) (v : Value) (rows : List (List Value)) : Prop := RowZ (Lex none) (fun _ => none) H v e sz rows.length (rows.flatMap id) /\ ∀ r ∈ rows, r.length = sz
theorem RowG.nil {e : TypeId} {sz : Nat} {H : Hp} : RowG e sz H (.slice none 0 0) [] := ⟨⟨(fun _ _ h => by cases h), .inl ⟨rfl, rfl, rfl⟩⟩, fun _ h => by cases h⟩
theorem RowG.cell {e : TypeId} {sz : Nat} {H : Hp} {v : Value} {rows : List (List Value)} (h : RowG e sz H v rows) {x : Nat} (hx : rowB v = some x) : ∃ c, H x = some (true, .cells c e (0, 0)) := by
 rcases h.1.2 with ⟨rfl, _⟩ | ⟨b, c, cap, h0, hb, rfl, _⟩
 ·cases hx
 ·simp only [rowB, Option.some.injEq] at hx
  subst hx
  exact ⟨c, hb⟩
theorem RowG.keep {e : TypeId} {sz : Nat} {H H' : Hp} {v : Value} {rows : List (List Value)} (h : RowG e sz H v rows) (hk : ∀ x u, rowB v = some x -> H x = some u -> H' x = some u) : RowG e sz H' v rows := by
 refine ⟨⟨(fun _ _ h => by cases h), h.1.2.imp id ?_⟩, h.2⟩
 rintro ⟨b, c, cap, h0, hb, rfl, h3⟩
 exact ⟨b, c, cap, h0, hk b _ rfl hb, rfl, h3⟩
theorem RowG.form {e : TypeId} {sz : Nat} {H : Hp} {v : Value} {rows : List (List Value)} (h : RowG e sz H v rows) : ∃ a cap, v = .slice a rows.length cap := by
 rcases h.1.2 with ⟨rfl, h0, _⟩ | ⟨b, c, cap, h0, hb, rfl, _⟩
 ·exact ⟨none, 0, by rw [h0]⟩
 ·exact ⟨_, _, rfl⟩
theorem RowG.slG {e : TypeId} {sz : Nat} (hsz : 0 < sz) {H : Hp} {v : Value} {rows : List (List Value)} (h : RowG e sz H v rows) : SlG e sz H v rows := by
 rcases h.1.2 with ⟨rfl, h0, _⟩ | ⟨b, c, cap, h0, hb, rfl, h1, h2, h3, h4⟩
 ·obtain rfl := List.length_eq_zero_iff.1 h0
  exact ⟨none, 0, rfl, Nat.le_refl _, fun i r hi => by simp at hi⟩
 ·exact SlG.of hsz hb h.2 h4 h2
theorem RowG.bound {e : TypeId} {sz : Nat} {H : Hp} {v : Value} {rows : List (List Value)} (h : RowG e sz H v rows) {x : Nat} (hx : rowB v = some x) {o : Obj} {q : Bool} {y : Nat} (hy : H y = some (q, o)) (ho : ∀ c, o ≠ .cells c e (0, 0)) : x ≠ y := fun e => by
 obtain ⟨c, hc⟩ := h.cell hx
 rw [e, hy] at hc
 simp only [Option.some.injEq, Prod.mk.injEq] at hc
 exact ho c hc.2
theorem SlG.put {e : TypeId} {sz : Nat} {H : Hp} {v : Value} {rows : List (List Value)} (h : SlG e sz H v rows) {y : Nat} {q : Bool} {c : Array Value} {e' : TypeId} {fr : Nat × Nat} (hy : H y = some (q, .cells c e' fr)) (he : e ≠ e') (o : Obj) : SlG e sz (H.set y o) v rows :=
 h.move fun x p c2 fr2 hx => ⟨p, by
  rw [Aqv (fun e2 => by rw [e2, hy] at hx; simp only [Option.some.injEq, Prod.mk.injEq, Obj.cells.injEq] at hx; exact he hx.2.2.1.symm)]
  exact hx⟩
theorem SlI.put {H : Hp} {v : Value} {xs : List Int} (h : SlI H v xs) {y : Nat} {q : Bool} {c : Array Value} {e' : TypeId} {fr : Nat × Nat} (hy : H y = some (q, .cells c e' fr)) (he : 3 ≠ e') (o : Obj) : SlI (H.set y o) v xs :=
 h.move fun x p c2 fr2 hx => by
  rw [Aqv (fun e2 => by rw [e2, hy] at hx; simp only [Option.some.injEq, Prod.mk.injEq, Obj.cells.injEq] at hx; exact he hx.2.2.1.symm)]
  exact hx
def int1 (xs : List Int) : List (List Value) := xs.map fun x => [.int .i64 x]
theorem SlG.ints1 {H : Hp} {v : Value} {xs : List Int} (h : SlG 3 1 H v (int1 xs)) : SlI H v xs := by
 obtain ⟨a, cap, h1, h2, h3⟩ := h
 have hl : (int1 xs).length = xs.length := by simp [int1]
 rw [hl] at h1 h2
 refine ⟨a, cap, h1, h2, fun i x hx => ?_⟩
 obtain ⟨b, o, p, c, fr, g1, g2, g3, g4, g5⟩ := h3 i [.int .i64 x] (by simp [int1, hx])
 refine ⟨b, o, p, c, fr, g1, g2, ?_⟩
 have := Cq8 g5 g3 (k := 0) (x := .int .i64 x) rfl
 simpa using this
end Go.Proofs.YtnfnaehonkbknaaGreatDoor
end
section
namespace Go.X
open Go Go.RowKit
open Go.Conc (G base)
theorem Base.below {W w : World} (h : Base W w) : Below W.heap.size W { w with tape := W.tape } := ⟨h.os, rfl, h.output, h.size, h.block⟩
theorem Base.kept {W w : World} (h : Base W w) (may : MemPlace -> Prop) : W.keptBut w may := by
 have := World.keptBut_refl W may
 refine ⟨h.os, h.output, fun i hi => ?_⟩
 rw [h.block i hi]
 exact this.2.2 i hi
theorem leaving_of_change_and {H : Type} {enc : TypeId × Value -> H} {a : Assume} {C : Checked} {os : Os} {f : FuncId} {fn : Func} {s : ChangeSpec} {conds : List PathCond} {apart fresh handsOn again : Bool} {X : World -> Array Value -> Prop}
  (hX : ∀ (w w' : World) (args : Array Value), w.heap = w'.heap -> X w args -> X w' args)
  (own : ownKnob C.prog.godebug = none) (started : os.Started) (hfn : C.prog.funcs[f]? = some fn)
  (witness : ∃ (w : World) (tape : Tape) (i : Input), w.os = os /\ (w.forCall tape i).Shaped C.prog /\ i.vars = [] /\ Input.okWide C.prog (w.forCall tape i) .any w.heap.size f i /\
   ((s.pre enc C.prog fn conds apart (w.forCall tape i).memory i.args /\ X (w.forCall tape i).memory i.args) /\ sizedMet enc C.prog fn (OpenSpec.ofChange s) apart (w.forCall tape i).memory i.args) /\ a.holds C.prog (lone (Frame.enter C.prog f i.args .normal) [] (w.forCall tape i)))
  (runs : ∀ (W : World) (base : Nat) (args : Array Value) (ds gs : List (DataW H)) (before : List MemPlace),
   (∀ (j : Nat) t v, fn.params[j]? = some t -> args[j]? = some v -> Value.okWide C.prog W .any base t v) ->
   DataW.Whole enc C.prog fn.params.toList s.vars apart W args.toList ds gs before -> X W args ->
   Ends C.prog (fun v W' => s.post enc C.prog fn apart fresh handsOn again W args v W') (Conc.solo (G (Frame.enter C.prog f args .normal) []) W) #[]) :
  ReturnsInLeavingWide a C os f .any (fun w args => (s.pre enc C.prog fn conds apart w args /\ X w args) /\ sizedMet enc C.prog fn (OpenSpec.ofChange s) apart w args) (s.post enc C.prog fn apart fresh handsOn again) := by
 refine returnsInLeavingWide_of_good own started witness ?_
 intro w tape i _ _ _ hok hpre hholds
 obtain ⟨_, _, _, fn', hfn', _, _, _, _, hval⟩ := hok
 have e : fn' = fn := Option.some.inj (hfn'.symm.trans hfn)
 subst e
 obtain ⟨⟨⟨ds, gs, before, hw, hc⟩, hx⟩, hz⟩ := hpre
 have hw' := DataW.Whole.of_heap (w' := w.forCall tape i) (by rfl) hw
 obtain ⟨M, last, o, w', t', h1, h2, h3, h4⟩ := runs (w.forCall tape i) w.heap.size i.args ds gs before hval hw' (hX _ _ _ (by rfl) hx)
 exact ⟨M, last, o, w', t', h1, h2, h3, h4.mono fun v hp => ChangeSpec.post_blind hp⟩
end Go.X
end
section
namespace Go.Proofs.YtnfnaehonkbknaaGreatDoor
open Go Go.X Go.ChangeShapes Go.WideShapes Go.RowKit
theorem ownK : ownKnob Tryz.prog.godebug = none := by kernel_rfl
noncomputable def laidWorld (os : Os) : World :=
 let w0 := World.holding Tryz.prog os ⟨#[], #[], []⟩
 {w0 with heap := w0.heap.modify 0 fun
   | .cells _ t frozen => .cells #[.iface 181 (.agg #[.pointer (some ⟨1, 103, none⟩)])] t frozen
   | o => o }
theorem laidWorld_met (os : Os) (args : Array Value) : laidMetH Tryz.prog [("errors.errorType", Rows.laid_errors_errorType)] ((laidWorld os).forCall (fun _ _ => 0) ⟨#[], args, []⟩).memory :=
 laidMetH_of_parts (laidMet_nil _ _) (by kernel_rfl)
theorem results_tmp {fn : Func} {t : Tmp} (h : fn.results = #[.tmp t]) (P : Program) (tmps : Array Value) (w : World) (v : Value) (w' : World) (hr : (results fn tmps).run P w = .ok v w') : w' = w := by
 simp [results, h] at hr
 exact hr.2.symm
end Go.Proofs.YtnfnaehonkbknaaGreatDoor
end
section
namespace Go.X
open Go
section
variable {P : Program} {main : Md} {lp : Option Nat} {Q : Exit -> Act -> Hp -> Prop} {a : Act} {H : Hp} {l ops : List Oper} {i n : Nat}
 {d : Option Tmp} {op : Op} {ty : TypeId} {pos : String} {af : Array Edge} {v : Value} {j : Nat} {b : Bool} {t : Tmp}
def RZ (P : Program) (main : Md) (lp : Option Nat) (ops : List Oper) (Q : Exit -> Act -> Hp -> Prop) (i n : Nat) (a : Act) (H : Hp) : Prop := runX P main lp ops.toArray Q (List.range' i n) a H
@[congr] theorem RZ_congr {a a' : Act} {H H' : Hp} {i i' n : Nat} (ha : a = a') (hH : H = H') (hi : i = i') : RZ P main lp ops Q i n a H = RZ P main lp ops Q i' n a' H' := by subst ha hH hi; rfl
theorem wpX_rz {id : Nat} (n : Nat) (hn : l.length = n) (h : ∀ K : Act -> Hp -> Prop, (∀ a' H', Q .normal a' H' -> K a' H') -> ∀ ops, Aw2 l ops -> RZ P main lp ops (only K) 0 n a H) : wpX P main lp (.region id l.toArray false) Q a H :=
 Bkr fun K hK => by
  have := h K hK l ⟨fun _ => rfl⟩
  unfold RZ at this
  rw [List.size_toArray, hn, List.range_eq_range']
  exact this
theorem RZ_nil (h : Q .normal a H) : RZ P main lp ops Q i 0 a H := h
theorem Dqq (hO : Aw2 l ops) (ho : l[i]? = some ⟨d, op, ty, pos, af, none⟩) (hf : fine lp ⟨d, op, ty, pos, af, none⟩ = true)
  (h : opX P main lp ⟨d, op, ty, pos, af, none⟩ a H (RZ P main lp ops Q (i + 1) n) Q) : RZ P main lp ops Q i (n + 1) a H := by
 unfold RZ
 rw [List.range'_succ, Aqj, Avr]
 simp only [List.getElem?_toArray, hO.nth, ho, Region.wanted, if_true]
 exact ⟨hf, h⟩
theorem Cv9 {oj : Oper} (hO : Aw2 l ops) (ho : l[i]? = some ⟨d, op, ty, pos, af, some (j, b)⟩) (hf : fine lp ⟨d, op, ty, pos, af, some (j, b)⟩ = true) (hj : l[j]? = some oj) (hd : oj.dst = some t) (hv : a.tmps[t]? = some (.bool b))
  (h : opX P main lp ⟨d, op, ty, pos, af, some (j, b)⟩ a H (RZ P main lp ops Q (i + 1) n) Q) : RZ P main lp ops Q i (n + 1) a H := by
 unfold RZ
 rw [List.range'_succ, Aqj, Avr]
 simp only [List.getElem?_toArray, hO.nth, ho, hO.guard (o := ⟨d, op, ty, pos, af, some (j, b)⟩) rfl hj hd hv, if_true]
 exact ⟨hf, h⟩
theorem Dqp {oj : Oper} {w : Value} (hO : Aw2 l ops) (ho : l[i]? = some ⟨d, op, ty, pos, af, some (j, b)⟩) (hj : l[j]? = some oj) (hd : oj.dst = some t) (hv : a.tmps[t]? = some w) (hw : (ylK (some w) == some b) = false)
  (h : RZ P main lp ops Q (i + 1) n (a.put d undef) H) : RZ P main lp ops Q i (n + 1) a H := by
 unfold RZ
 rw [List.range'_succ, Aqj, Avr]
 have : Region.wanted (⟨d, op, ty, pos, af, some (j, b)⟩ : Oper) (yielded ops.toArray a.tmps) = false := by
  unfold Region.wanted
  simp only [Bqq, hO.nth, hj, Option.bind_some, hd, hv, hw]
 simp only [List.getElem?_toArray, hO.nth, ho, this, Bool.false_eq_true, if_false]
 exact h
end
end Go.X
end
section
namespace Go.Proofs.YtnfnaehonkbknaaGreatDoor
open Go Go.X Go.Proofs.Tryz
def Aki := aN @Dwj (aN @Avp (aN @Dvn (aN @Dwc (aN @Bw3 (aN @Cj1 (aN @Bw5 @Cj3))))))
def Bqe := aN @Bw6 @Ax1
theorem By4 (main : Md) (H : Hp) (m : Nat) (hm : m < 64) :
  FnX Tryz.prog main 64 #[.int .u8 m] H fun e H' => ∃ v, e = .returned v /\ SlI H' v (Byt m) /\ H.le H' /\ ∀ b, rowB v = some b -> H b = none := by
 refine Aql func64 rfl ntmps64 (by simp) ?_
 (refine @unH _ (zA Bqe ?_); (try clear hK K); intro K hK hc)
 refine Axh (fun w a' H' => ∃ e j lv, w = 8 - j /\ j <= 8 /\ a' = act 17 e [] /\ e 0 = .int .u8 m /\ e 3 = lv /\ e 5 = .int .i64 (j : Nat) /\ RowX none H H' lv 3 (ints (Ayi m j))) (n := 8) ?_ ?_
 ·exact ⟨_, 0, _, by omega, by omega, rfl, rfl, rfl, rfl, RowX.nil⟩
 ·rintro w a' H' ⟨e, j, lv, rfl, hj, rfl, e0, e3, e5, hrow⟩
  by_cases hlt : j < 8
  ·have hlt' : (j : Int) < 8 := by omega
   (refine @unH _ (zA Bqe ?_); (try clear hK K); intro K hK hc)
   refine (Bx1 main H' m j hm (by omega) (by omega)).runs.mono ?_
   rintro _ _ ⟨rfl, rfl⟩
   by_cases hb : m.testBit j
   ·(refine @unH _ (zU (aN Bqe @Int.toNat_natCast) ?_); (try clear hK K); intro K hK hc)
    intro gb hgb
    refine Bjp hrow hgb (by have := Bz8 m j; omega) _ _ _ _ ?_
    intro v' H5 hr5 ho5
    (refine @unH _ (zU Bqe ?_); (try clear hK K); intro K hK hc)
    exact ⟨_, by omega, _, j + 1, v', rfl, by omega, rfl, e0, rfl, rfl, by rw [Aji, if_pos hb]; exact hr5⟩
   ·(refine @unH _ (zU (aN Bqe @Int.toNat_natCast) ?_); (try clear hK K); intro K hK hc)
    exact ⟨_, by omega, _, j + 1, lv, rfl, by omega, rfl, e0, e3, rfl, by rw [Aji, if_neg hb, List.append_nil]; exact hrow⟩
  ·obtain rfl : j = 8 := by omega
   (refine @unH _ (zA Bqe ?_); (try clear hK K); intro K hK hc)
   (refine @unH _ ?_; refine z9 results64 ?_)
   rw [Dql m hm] at hrow
   refine ⟨_, rfl, hrow.ints, hrow.1.toLe, fun b hb => ?_⟩
   rcases hrow.2 with ⟨rfl, _⟩ | ⟨b', c, cap, h0, _, rfl, _⟩
   ·cases hb
   ·simp only [rowB, Option.some.injEq] at hb
    subst hb
    exact h0
theorem sSurelyN_spec (H : Hp) (s : Sm) (dv hv nv : Value) (hs : SmIn H dv hv nv s) (ok : SmOk s) (h : Int) :
  FnX Tryz.prog (.wg Tryz.prog) 28 #[smV s.places dv hv nv, .int .i64 h] H fun e H' => ∃ v, e = .returned (.tuple #[v, .int .i64 (begE s [] h)]) /\ SlI H' v (if begE s [] h = 0 then Byt (surM (susp s) h s.places.toNat) else []) /\ H.le H' /\ ∀ b, rowB v = some b -> H b = none := by
 obtain ⟨da, dc, ha, kc, na, nc, rfl, rfl, rfl, l1, l2, l3⟩ := hs.forms
 have hbeg := fun H dv hv nv (hs : SmIn H dv hv nv s) => Azf H s dv hv nv hs ok h _ [] (nilS H) (by simp)
 generalize begE s [] h = z at *
 replace hbeg : Aqo _ := hbeg
 have q0 := ok.p0
 have q6 := ok.p1
 refine Aql func28 rfl ntmps28 (by simp) ?_
 (refine @unH _ (zA Aki ?_); (try clear hK K); intro K hK hc)
 (intro sb hsb; generalize hG : Hp.set _ sb _ = H1; have lH1 := Aqc hG hsb; have vsb := Aqb hG; clear hG)
 have hs1 := hs.le lH1
 clear hsb hs
 (refine @unH _ (zU Aki ?_); (try clear hK K); intro K hK hc)
 refine ((show ∀ H dv hv nv (hs : SmIn H dv hv nv s), _ from hbeg) H1 _ _ _ hs1).runs.mono ?_
 clear hbeg
 rintro _ H2 ⟨v, rfl, lH2, hv, _⟩
 have l02 := Hp.le_trans lH1 lH2
 have vs2 := lH2 _ _ vsb
 clear lH1 lH2 vsb hs1
 by_cases hz : z = 0
 ·subst hz
  replace hv := hv (.inl rfl)
  (refine @unH _ (zU Aki ?_); (try clear hK K); intro K hK hc)
  have hpl : ((s.places.toNat : Nat) : Int) = s.places := by omega
  have hok := Azw ok
  have hln : (Axd s).length <= 1000 := by rw [Ax6]; have := ok.h1; omega
  have hsu : Azj (Axd s) = susp s := rfl
  clear ok
  generalize susp s = SS at *
  generalize Axd s = TT at *
  replace hsu : Aqo _ := hsu
  replace hok : Aqo _ := hok
  refine Axh (fun w a' H' => ∃ e, ∃ k : Nat, w = 6 - k /\ k <= s.places.toNat /\ a' = act 36 e [] /\ e 1 = .int .i64 h /\ e 6 = v /\ e 8 = .int .u8 (surM SS h k : Nat) /\ e 20 = .int .i64 s.places /\ e 21 = .int .i64 (k : Nat) /\ H.le H' /\ SlT H' v TT) (n := 6) ?_ ?_
  ·exact ⟨_, 0, by omega, by omega, rfl, rfl, rfl, rfl, rfl, rfl, l02, hv⟩
  clear hv l02 vs2
  rintro w a' H3 ⟨e, k, rfl, hk, rfl, e1, e6, e8, e20, e21, l03, hv⟩
  by_cases hlt : k < s.places.toNat
  ·(refine @unH _ (zA Aki ?_); (try clear hK K); intro K hK hc)
   refine (Avo _ H3 v TT hv hok hln k (by omega) (by omega)).runs.mono ?_
   rintro _ H4 ⟨rfl, lH4⟩
   have l04 := Hp.le_trans l03 lH4
   have hv4 := hv.le lH4
   clear hv l03 lH4
   have hsm : surM SS h (k + 1) = if Bko (arrL SS k) h = 1 then Akq (surM SS h k) k else surM SS h k := rfl
   have hlt6 := Cqf SS h k (by omega)
   rw [show Azj TT = SS from hsu]
   generalize arrL SS k = w at *
   (refine @unH _ (zU Aki ?_); intro _ _ hc)
   refine (Ayp _ H4 w h).runs.mono ?_
   rintro _ H5 ⟨rfl, lH5⟩
   have l05 := Hp.le_trans l04 lH5
   have hv5 := hv4.le lH5
   clear hv4 l04 lH5
   by_cases hw : Bko w h = 1
   ·replace hsm : Aqo (surM SS h (k + 1) = Akq (surM SS h k) k) := Eq.trans hsm (if_pos hw)
    rw [hw]
    clear hw
    (refine @unH _ (zU Aki ?_); (try clear hK K); intro K hK hc)
    refine (Ay0 _ H5 (surM SS h k) k hlt6 (by omega) (by omega)).runs.mono ?_
    rintro _ _ ⟨rfl, hQ⟩
    rw [hQ]; clear hQ
    (refine @unH _ (zU Aki ?_); (try clear hK K); intro K hK hc)
    exact ⟨_, by omega, _, k + 1, rfl, by omega, rfl, e1, e6, by rw [show surM SS h (k + 1) = _ from hsm]; rfl, e20, rfl, l05, hv5⟩
   ·replace hsm : Aqo (surM SS h (k + 1) = surM SS h k) := Eq.trans hsm (if_neg hw)
    generalize Bko w h = d at *
    (refine @unH _ (zU Aki ?_); (try clear hK K); intro K hK hc)
    exact ⟨_, by omega, _, k + 1, rfl, by omega, rfl, e1, e6, by rw [show surM SS h (k + 1) = _ from hsm]; exact e8, e20, rfl, l05, hv5⟩
  ·obtain rfl : k = s.places.toNat := by omega
   (refine @unH _ (zA Aki ?_); (try clear hK K); intro K hK hc)
   refine (By4 _ H3 _ (Cqf SS h _ (by omega))).runs.mono ?_
   rintro _ H4 ⟨w, rfl, hw, lH4, hfr⟩
   have l04 := Hp.le_trans l03 lH4
   (refine @unH _ (zU Aki ?_); (try clear hK K); intro K hK hc)
   (refine @unH _ ?_; refine zB results28 ?_)
   exact ⟨_, rfl, hw, l04, fun b hb => Hp.le_none l03 (hfr b hb)⟩
 ·clear hv
  (refine @unH _ (zU Aki ?_); (try clear hK K); intro K hK hc)
  (refine @unH _ ?_; refine zB results28 ?_)
  exact ⟨_, rfl, by rw [if_neg hz]; exact nilS _, l02, (fun _ h => by cases h)⟩
end Go.Proofs.YtnfnaehonkbknaaGreatDoor
end
