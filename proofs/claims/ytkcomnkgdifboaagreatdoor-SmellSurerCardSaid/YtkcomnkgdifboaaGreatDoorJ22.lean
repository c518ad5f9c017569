/- Texts SmKp SmCo SmTr SmTs SmKd. -/
import Derived.Test.YtkcomnkgdifboaaGreatDoorJ21
set_option linter.defProp false
set_option linter.unusedSimpArgs false
set_option linter.unusedVariables false
set_option maxRecDepth 100000
set_option maxHeartbeats 2000000
section
namespace Go.X
open Go
theorem Cwe {P : Program} {H : Hp} {t : TypeId} (h : P.eqGuardType P.depth t = false) (op : BinOp) (x y : Operand) (p q : Array Value) (K : Unit -> Hp -> Prop) (E : Value -> Hp -> Prop) : wpS P (eqGuard op t x y (.agg p) (.agg q)) H K E = K () H := by
 unfold eqGuard
 cases op <;> first | rfl | (simp only [Aqa, Aj1, h, Bool.not_false, if_true]; first | rfl | (simp [Aqa, Aj1, h, Aqe]; done))
theorem Cwb {P : Program} {H : Hp} {ks : TypeId} (h : Key2 P ks .i64 .i64) (a b c d : Int) (K : Value -> Hp -> Prop) (E : Value -> Hp -> Prop) :
  wpS P (binOp .eql ks (.agg #[.int .i64 a, .int .i64 b]) (.agg #[.int .i64 c, .int .i64 d])) H K E = K (.bool (a == c && b == d)) H := by
 simp only [binOp]
 rw [Aqa, Bwh h]
 rfl
theorem sbin_neq2 {P : Program} {H : Hp} {ks : TypeId} (h : Key2 P ks .i64 .i64) (a b c d : Int) (K : Value -> Hp -> Prop) (E : Value -> Hp -> Prop) :
  wpS P (binOp .neq ks (.agg #[.int .i64 a, .int .i64 b]) (.agg #[.int .i64 c, .int .i64 d])) H K E = K (.bool !(a == c && b == d)) H := by
 simp only [binOp]
 rw [Aqa, Bwh h]
 rfl
end Go.X
namespace Go.Proofs.YtkcomnkgdifboaaGreatDoor
open Go Go.X
def Aql := And.intro @Cks (And.intro @Dzb (And.intro (fun H => Aqv (H := H) (P := Tryz.prog) (h := Tryz.zeroValue33)) (And.intro (fun H => Aqs (H := H) Tryz.sizeOf33) (And.intro @Dzd (And.intro @Dzg (And.intro @Dzf (And.intro @Dzj (And.intro @Dzq (And.intro @Dzh (And.intro @Dzc (And.intro @Dzi (And.intro (fun H => Aqq (H := H) Tryz.underlying33 rfl Tryz.sizeOf33) (And.intro @Dzl (And.intro @Az2 (And.intro @Dzk @Av0)))))))))))))))
theorem Dq9 : Key2 Tryz.prog 33 .i64 .i64 := ⟨⟨_, _, Tryz.underlying33, by decide, by decide, rfl, rfl, ⟨_, Tryz.underlying3⟩, ⟨_, Tryz.underlying3⟩⟩, by kernel_rfl⟩
theorem Cjz : Program.eqGuardType Tryz.prog (Program.depth Tryz.prog) 33 = false := by kernel_rfl
theorem Aq2 {H : Hp} (op : BinOp) (x y : Operand) (p q : Array Value) (K : Unit -> Hp -> Prop) (E : Value -> Hp -> Prop) : wpS Tryz.prog (eqGuard op 33 x y (.agg p) (.agg q)) H K E = K () H := Cwe Cjz op x y p q K E
theorem Aq1 {H : Hp} (a b c d : Int) (K : Value -> Hp -> Prop) (E : Value -> Hp -> Prop) :
 wpS Tryz.prog (binOp .eql 33 (.agg #[.int .i64 a, .int .i64 b]) (.agg #[.int .i64 c, .int .i64 d])) H K E = K (.bool (a == c && b == d)) H := Cwb Dq9 a b c d K E
theorem Bx3 {H : Hp} {b n : Nat} {xs : List Int} {c : Array Value} (h : H b = some (true, .cells c 3 (0, 0))) (hc : c = (ints xs).toArray) (hn : n = xs.length := by rfl) : SlI H (.slice (some ⟨b, 0, none⟩) n n) xs := by
 subst hc hn
 refine ⟨_, _, rfl, Nat.le_refl _, fun i x hx => ⟨b, 0, true, _, _, rfl, h, ?_⟩⟩
 rw [Nat.zero_add, List.getElem?_toArray]
 exact Akb hx
theorem smelled_spec (H : Hp) : FnX Tryz.prog (.wg Tryz.prog) 14 #[] H fun e H' => e = .returned (.bool true) /\ H.le H' := by
 refine Aqn (args := []) Tryz.func14 rfl Tryz.ntmps14 (by simp) ?_
 (refine @unH _ (zA Aql ?_); (repeat refine inC fun hc => ?_); try refine inK fun K hK => ?_)
 refine (Aj4 _ H).runs.mono ?_
 rintro _ A1 ⟨dv1, hv1, nv1, rfl, hs1, lA1⟩
 have tA1 := lA1
 clear lA1
 ((try refine @unH _ (zX Aql ?_)); (try (refine hK _ _ ?_; clear hK K; try refine @unH _ (zQ ?_))); refine @unH _ (zA Aql ?_); (repeat refine inC fun hc => ?_); try refine inK fun K hK => ?_)
 refine (Cqu A1 Ajv _ _ _ hs1 Avo 2 3 _).runs.mono ?_
 rintro _ C1 ⟨rfl, lC1⟩
 rw [Cyx]
 clear hs1
 have tC1 := Hp.le_trans tA1 lC1
 clear lC1 tA1
 ((try refine @unH _ (zX Aql ?_)); (try (refine hK _ _ ?_; clear hK K; try refine @unH _ (zQ ?_))); refine @unH _ (zA Aql ?_); (repeat refine inC fun hc => ?_); try refine inK fun K hK => ?_)
 (intro ba hba; generalize hG : Hp.set _ ba _ = D1; have lD1 := Aqc hG hba; have vba := Aqb hG; clear hG)
 have vba_D1 := vba
 clear vba hba
 have tD1 := Hp.le_trans tC1 lD1
 clear lD1 tC1
 ((try refine @unH _ (zX Aql ?_)); (try (refine hK _ _ ?_; clear hK K; try refine @unH _ (zQ ?_))); refine @unH _ (zA Aql ?_); (repeat refine inC fun hc => ?_); try refine inK fun K hK => ?_)
 refine (Aj4 _ D1).runs.mono ?_
 rintro _ A2 ⟨dv2, hv2, nv2, rfl, hs2, lA2⟩
 have vba_A2 := lA2 _ _ vba_D1
 clear vba_D1
 have tA2 := Hp.le_trans tD1 lA2
 clear lA2 tD1
 ((try refine @unH _ (zX Aql ?_)); (try (refine hK _ _ ?_; clear hK K; try refine @unH _ (zQ ?_))); refine @unH _ (zA Aql ?_); (repeat refine inC fun hc => ?_); try refine inK fun K hK => ?_)
 refine (Cqr A2 Ajv _ _ _ hs2 Avo).runs.mono ?_
 rintro _ C2 ⟨rfl, lC2⟩
 have vba_C2 := lC2 _ _ vba_A2
 clear vba_A2
 rw [Cyv]
 clear hs2
 have tC2 := Hp.le_trans tA2 lC2
 clear lC2 tA2
 ((try refine @unH _ (zX Aql ?_)); (try (refine hK _ _ ?_; clear hK K; try refine @unH _ (zQ ?_))); refine @unH _ (zA Aql ?_); (repeat refine inC fun hc => ?_); try refine inK fun K hK => ?_)
 refine (Aj4 _ C2).runs.mono ?_
 rintro _ A3 ⟨dv3, hv3, nv3, rfl, hs3, lA3⟩
 have vba_A3 := lA3 _ _ vba_C2
 clear vba_C2
 have tA3 := Hp.le_trans tC2 lA3
 clear lA3 tC2
 ((try refine @unH _ (zX Aql ?_)); (try (refine hK _ _ ?_; clear hK K; try refine @unH _ (zQ ?_))); refine @unH _ (zA Aql ?_); (repeat refine inC fun hc => ?_); try refine inK fun K hK => ?_)
 refine (Cqv A3 Ajv _ _ _ hs3 Avo 1).runs.mono ?_
 rintro _ C3 ⟨rfl, lC3⟩
 have vba_C3 := lC3 _ _ vba_A3
 clear vba_A3
 rw [Cyy]
 clear hs3
 have tC3 := Hp.le_trans tA3 lC3
 clear lC3 tA3
 ((try refine @unH _ (zX Aql ?_)); (try (refine hK _ _ ?_; clear hK K; try refine @unH _ (zQ ?_))); refine @unH _ (zA Aql ?_); (repeat refine inC fun hc => ?_); try refine inK fun K hK => ?_)
 (intro bb hbb; generalize hG : Hp.set _ bb _ = D3; have lD3 := Aqc hG hbb; have vbb := Aqb hG; clear hG)
 have vba_D3 := lD3 _ _ vba_C3
 clear vba_C3
 have vbb_D3 := vbb
 clear vbb hbb
 have tD3 := Hp.le_trans tC3 lD3
 clear lD3 tC3
 ((try refine @unH _ (zX Aql ?_)); (try (refine hK _ _ ?_; clear hK K; try refine @unH _ (zQ ?_))); refine @unH _ (zA Aql ?_); (repeat refine inC fun hc => ?_); try refine inK fun K hK => ?_)
 refine (Aj4 _ D3).runs.mono ?_
 rintro _ A4 ⟨dv4, hv4, nv4, rfl, hs4, lA4⟩
 have vba_A4 := lA4 _ _ vba_D3
 have vbb_A4 := lA4 _ _ vbb_D3
 clear vba_D3 vbb_D3
 have tA4 := Hp.le_trans tD3 lA4
 clear lA4 tD3
 ((try refine @unH _ (zX Aql ?_)); (try (refine hK _ _ ?_; clear hK K; try refine @unH _ (zQ ?_))); refine @unH _ (zA Aql ?_); (repeat refine inC fun hc => ?_); try refine inK fun K hK => ?_)
 refine (Bvi A4 Ajv _ _ _ hs4 Avo 0 3).runs.mono ?_
 rintro _ C4 ⟨rfl, lC4⟩
 have vba_C4 := lC4 _ _ vba_A4
 have vbb_C4 := lC4 _ _ vbb_A4
 clear vba_A4 vbb_A4
 rw [Djh, Dkr]
 clear hs4
 have tC4 := Hp.le_trans tA4 lC4
 clear lC4 tA4
 ((try refine @unH _ (zX Aql ?_)); (try (refine hK _ _ ?_; clear hK K; try refine @unH _ (zQ ?_))); refine @unH _ (zA Aql ?_); (repeat refine inC fun hc => ?_); try refine inK fun K hK => ?_)
 refine (Aj4 _ C4).runs.mono ?_
 rintro _ A5 ⟨dv5, hv5, nv5, rfl, hs5, lA5⟩
 have vba_A5 := lA5 _ _ vba_C4
 have vbb_A5 := lA5 _ _ vbb_C4
 clear vba_C4 vbb_C4
 have tA5 := Hp.le_trans tC4 lA5
 clear lA5 tC4
 ((try refine @unH _ (zX Aql ?_)); (try (refine hK _ _ ?_; clear hK K; try refine @unH _ (zQ ?_))); refine @unH _ (zA Aql ?_); (repeat refine inC fun hc => ?_); try refine inK fun K hK => ?_)
 refine (Cqq A5 Ajv _ _ _ hs5 Avo 3).runs.mono ?_
 rintro _ C5 ⟨rfl, lC5⟩
 have vba_C5 := lC5 _ _ vba_A5
 have vbb_C5 := lC5 _ _ vbb_A5
 clear vba_A5 vbb_A5
 rw [Cyu]
 clear hs5
 have tC5 := Hp.le_trans tA5 lC5
 clear lC5 tA5
 ((try refine @unH _ (zX Aql ?_)); (try (refine hK _ _ ?_; clear hK K; try refine @unH _ (zQ ?_))); refine @unH _ (zA Aql ?_); (repeat refine inC fun hc => ?_); try refine inK fun K hK => ?_)
 (intro bc hbc; generalize hG : Hp.set _ bc _ = D5; have lD5 := Aqc hG hbc; have vbc := Aqb hG; clear hG)
 have vba_D5 := lD5 _ _ vba_C5
 have vbb_D5 := lD5 _ _ vbb_C5
 clear vba_C5 vbb_C5
 have vbc_D5 := vbc
 clear vbc hbc
 have tD5 := Hp.le_trans tC5 lD5
 clear lD5 tC5
 ((try refine @unH _ (zX Aql ?_)); (try (refine hK _ _ ?_; clear hK K; try refine @unH _ (zQ ?_))); refine @unH _ (zA Aql ?_); (repeat refine inC fun hc => ?_); try refine inK fun K hK => ?_)
 refine (Dqx _ D5).runs.mono ?_
 rintro _ A6 ⟨dv6, hv6, nv6, rfl, hs6, lA6⟩
 have vba_A6 := lA6 _ _ vba_D5
 have vbb_A6 := lA6 _ _ vbb_D5
 have vbc_A6 := lA6 _ _ vbc_D5
 clear vba_D5 vbb_D5 vbc_D5
 have tA6 := Hp.le_trans tD5 lA6
 clear lA6 tD5
 ((try refine @unH _ (zX Aql ?_)); (try (refine hK _ _ ?_; clear hK K; try refine @unH _ (zQ ?_))); refine @unH _ (zA Aql ?_); (repeat refine inC fun hc => ?_); try refine inK fun K hK => ?_)
 refine (Cqx A6 oddS _ _ _ hs6 Dju).runs.mono ?_
 rintro _ C6 ⟨wv, rfl, hw, lC6⟩
 have vba_C6 := lC6 _ _ vba_A6
 have vbb_C6 := lC6 _ _ vbb_A6
 have vbc_C6 := lC6 _ _ vbc_A6
 clear vba_A6 vbb_A6 vbc_A6
 rw [Cy0] at hw
 have hw_C6 := hw
 clear hw
 clear hs6
 have tC6 := Hp.le_trans tA6 lC6
 clear lC6 tA6
 ((try refine @unH _ (zX Aql ?_)); (try (refine hK _ _ ?_; clear hK K; try refine @unH _ (zQ ?_))); refine @unH _ (zA Aql ?_); (repeat refine inC fun hc => ?_); try refine inK fun K hK => ?_)
 refine (Aj4 _ C6).runs.mono ?_
 rintro _ A7 ⟨dv7, hv7, nv7, rfl, hs7, lA7⟩
 have vba_A7 := lA7 _ _ vba_C6
 have vbb_A7 := lA7 _ _ vbb_C6
 have vbc_A7 := lA7 _ _ vbc_C6
 have hw_A7 := hw_C6.le lA7
 clear vba_C6 vbb_C6 vbc_C6 hw_C6
 have tA7 := Hp.le_trans tC6 lA7
 clear lA7 tC6
 ((try refine @unH _ (zX Aql ?_)); (try (refine hK _ _ ?_; clear hK K; try refine @unH _ (zQ ?_))); refine @unH _ (zA Aql ?_); (repeat refine inC fun hc => ?_); try refine inK fun K hK => ?_)
 refine (Cqw A7 Ajv _ _ _ hs7 Avo 2).runs.mono ?_
 rintro _ C7 ⟨rfl, lC7⟩
 have vba_C7 := lC7 _ _ vba_A7
 have vbb_C7 := lC7 _ _ vbb_A7
 have vbc_C7 := lC7 _ _ vbc_A7
 have hw_C7 := hw_A7.le lC7
 clear vba_A7 vbb_A7 vbc_A7 hw_A7
 rw [Cyz]
 clear hs7
 have tC7 := Hp.le_trans tA7 lC7
 clear lC7 tA7
 ((try refine @unH _ (zX Aql ?_)); (try (refine hK _ _ ?_; clear hK K; try refine @unH _ (zQ ?_))); refine @unH _ (zA Aql ?_); (repeat refine inC fun hc => ?_); try refine inK fun K hK => ?_)
 refine (Aj4 _ C7).runs.mono ?_
 rintro _ A8 ⟨dv8, hv8, nv8, rfl, hs8, lA8⟩
 have vba_A8 := lA8 _ _ vba_C7
 have vbb_A8 := lA8 _ _ vbb_C7
 have vbc_A8 := lA8 _ _ vbc_C7
 have hw_A8 := hw_C7.le lA8
 clear vba_C7 vbb_C7 vbc_C7 hw_C7
 have tA8 := Hp.le_trans tC7 lA8
 clear lA8 tC7
 ((try refine @unH _ (zX Aql ?_)); (try (refine hK _ _ ?_; clear hK K; try refine @unH _ (zQ ?_))); refine @unH _ (zA Aql ?_); (repeat refine inC fun hc => ?_); try refine inK fun K hK => ?_)
 refine (Cqs A8 Ajv _ _ _ hs8 Avo).runs.mono ?_
 rintro _ C8 ⟨fv, rfl, hf, lC8⟩
 have vba_C8 := lC8 _ _ vba_A8
 have vbb_C8 := lC8 _ _ vbb_A8
 have vbc_C8 := lC8 _ _ vbc_A8
 have hw_C8 := hw_A8.le lC8
 clear vba_A8 vbb_A8 vbc_A8 hw_A8
 rw [Cyw] at hf ⊢
 have hf_C8 := hf
 clear hf
 clear hs8
 have tC8 := Hp.le_trans tA8 lC8
 clear lC8 tA8
 ((try refine @unH _ (zX Aql ?_)); (try (refine hK _ _ ?_; clear hK K; try refine @unH _ (zQ ?_))); refine @unH _ (zA Aql ?_); (repeat refine inC fun hc => ?_); try refine inK fun K hK => ?_)
 replace hf_C8 : SlI C8 fv [2, 1, 2] := hf_C8
 refine Bkj (fun e => e 1 = .pointer (some ⟨ba, 0, none⟩) /\ e 2 = .int .i64 0 /\ e 3 = .int .i64 5 /\ e 4 = .int .i64 0 /\ e 5 = .pointer (some ⟨bb, 0, none⟩) /\ e 6 = .int .i64 0 /\ e 7 = .int .i64 3 /\ e 8 = .int .i64 0 /\ e 9 = .pointer (some ⟨bc, 0, none⟩) /\ e 10 = .int .i64 0 /\ e 11 = wv /\ e 12 = .int .i64 0 /\ e 13 = .int .i64 1 /\ e 14 = .int .i64 3 /\ e 15 = .int .i64 0 /\ e 16 = .int .i64 0 /\ e 17 = .int .i64 2 /\ e 18 = fv /\ e 19 = .int .i64 0) ⟨rfl, rfl, rfl, rfl, rfl, rfl, rfl, rfl, rfl, rfl, rfl, rfl, rfl, rfl, rfl, rfl, rfl, rfl, rfl⟩ ?_
 rintro e ⟨e1, e2, e3, e4, e5, e6, e7, e8, e9, e10, e11, e12, e13, e14, e15, e16, e17, e18, e19⟩
 simp only [List.append]
 refine Axm (fun HX => C8.le HX) [] (.free 0 (.free 1 (.free 2 (.free 3 (.free 4 (.free 5 (.free 6 (.free 7 (.free 8 (.free 9 (.free 10 (.free 11 (.free 12 (.free 13 (.free 14 (.free 15 (.free 16 (.free 17 (.free 18 (.free 19 (.free 20 (.free 21 (.free 22 (.free 23 (.free 24 (.free 25 (.free 26 (.free 27 (.free 28 (.free 29 (.free 30 (.take 31 (.one 32 (.free 33 (.free 34 (.free 35 (.free 36 (.free 37 (.free 38 (.free 39 (.take 40 (.one 41 (.free 42 (.free 43 (.free 44 (.free 45 (.free 46 (.free 47 (.free 48 (.take 49 (.one 50 (.free 51 (.free 52 (.free 53 (.free 54 (.free 55 (.free 56 (.free 57 (.free 58 (.free 59 (.free 60 (.free 61 (.free 62 (.free 63 (.free 64 (.free 65 (.free 66 (.free 67 (.free 68 (.free 69 (.free 70 (.one 71 (.one 72 (.free 73 (.free 74 (.free 75 (.one 76 (.one 77 (.free 78 (.free 79 .nil)))))))))))))))))))))))))))))))))))))))))))))))))))))))))))))))))))))))))))))))) (by kernel_rfl) (by kernel_rfl) (by decide) (by kernel_rfl) ?_; intro K hK
 have hS0 : C8.le C8 := Hp.le_refl _
 refine Ax8 fun ops hOz => ?_
 (refine @unH _ ?_; refine zF (And.intro Aql (And.intro @Aq2 @Aq1)) ?_)
 (refine @unH _ ?_; refine zF (And.intro Aql (And.intro @Aq2 @Aq1)) ?_)
 (refine @unH _ ?_; refine zF (And.intro Aql (And.intro @Aq2 @Aq1)) ?_)
 (refine @unH _ ?_; refine zG (And.intro Aql (And.intro @Aq2 @Aq1)) ?_)
 (refine @unH _ ?_; refine zG (And.intro Aql (And.intro @Aq2 @Aq1)) ?_)
 (refine @unH _ ?_; refine zF (And.intro Aql (And.intro @Aq2 @Aq1)) ?_)
 (refine @unH _ ?_; refine zF (And.intro Aql (And.intro @Aq2 @Aq1)) ?_)
 (refine @unH _ ?_; refine zG (And.intro Aql (And.intro @Aq2 @Aq1)) ?_)
 (refine @unH _ ?_; refine zG (And.intro Aql (And.intro @Aq2 @Aq1)) ?_)
 (refine @unH _ ?_; refine zF (And.intro Aql (And.intro @Aq2 @Aq1)) ?_)
 (refine @unH _ ?_; refine zF (And.intro Aql (And.intro @Aq2 @Aq1)) ?_)
 (refine @unH _ ?_; refine zG (And.intro Aql (And.intro @Aq2 @Aq1)) ?_)
 (refine @unH _ ?_; refine zG (And.intro Aql (And.intro @Aq2 @Aq1)) ?_)
 (refine @unH _ ?_; refine zF (And.intro Aql (And.intro @Aq2 @Aq1)) ?_)
 (refine @unH _ ?_; refine zF (And.intro Aql (And.intro @Aq2 @Aq1)) ?_)
 (refine @unH _ ?_; refine zG (And.intro Aql (And.intro @Aq2 @Aq1)) ?_)
 (refine @unH _ ?_; refine zG (And.intro Aql (And.intro @Aq2 @Aq1)) ?_)
 (refine @unH _ ?_; refine zF (And.intro Aql (And.intro @Aq2 @Aq1)) ?_)
 (refine @unH _ ?_; refine zF (And.intro Aql (And.intro @Aq2 @Aq1)) ?_)
 (refine @unH _ ?_; refine zG (And.intro Aql (And.intro @Aq2 @Aq1)) ?_)
 (refine @unH _ ?_; refine zG (And.intro Aql (And.intro @Aq2 @Aq1)) ?_)
 (refine @unH _ ?_; refine zF (And.intro Aql (And.intro @Aq2 @Aq1)) ?_)
 (refine @unH _ ?_; refine zF (And.intro Aql (And.intro @Aq2 @Aq1)) ?_)
 (refine @unH _ ?_; refine zG (And.intro Aql (And.intro @Aq2 @Aq1)) ?_)
 (refine @unH _ ?_; refine zG (And.intro Aql (And.intro @Aq2 @Aq1)) ?_)
 (refine @unH _ ?_; refine zF (And.intro Aql (And.intro @Aq2 @Aq1)) ?_)
 (refine @unH _ ?_; refine zF (And.intro Aql (And.intro @Aq2 @Aq1)) ?_)
 (refine @unH _ ?_; refine zG (And.intro Aql (And.intro @Aq2 @Aq1)) ?_)
 (refine @unH _ ?_; refine zG (And.intro Aql (And.intro @Aq2 @Aq1)) ?_)
 (refine @unH _ ?_; refine zF (And.intro Aql (And.intro @Aq2 @Aq1)) ?_)
 (refine @unH _ ?_; refine zF (And.intro Aql (And.intro @Aq2 @Aq1)) ?_)
 (apply Ayp hOz rfl rfl rfl rfl (by simp -implicitDefEqProofs (disch := omega) only [act_get?, Axl, Nat.reduceEqDiff, ↓reduceIte, beq_self_eq_true, Bool.and_self, *]) ‹_›; (focus (intro HX hHX; simp -implicitDefEqProofs (disch := first | omega | (simp only [qd] <;> omega)) only [xq, ↓xp, qc, Nat.reduceAdd, List.range, List.range.loop, fine, Nat.reduceEqDiff, ↓reduceIte, yielded, reduceCtorEq, Nat.reduceLT, Nat.reduceMul, Nat.reduceSub, one, Nat.reduceLeDiff, Aqf, Aql, aq, ↓ap, qe0, qe1, qe2, *, -hK, Aq8, hHX _ _ vba_C8, Awv] <;> (first | exact rfl | exact ⟨rfl, rfl⟩ | exact ⟨rfl, trivial⟩))); simp -implicitDefEqProofs (disch := first | omega | (simp only [qd] <;> omega)) only [Aq3, Aqm])
 (refine @unH _ ?_; refine zN (And.intro Aql (And.intro @Aq2 @Aq1)) ?_)
 refine (Bq2 _ C8 4 6).runs.mono ?_
 rintro _ E32 ⟨rfl, lE32⟩
 have mE32 : C8.le E32 := lE32
 simp -implicitDefEqProofs (disch := omega) only [Azt, Aq3, Aqm]
 refine ⟨.inr fun _ => (by first | trivial | exact mE32 | exact lE32), ?_⟩
 (refine @unH _ ?_; refine zG (And.intro Aql (And.intro @Aq2 @Aq1)) ?_)
 (refine @unH _ ?_; refine zF (And.intro Aql (And.intro @Aq2 @Aq1)) ?_)
 (refine @unH _ ?_; refine zF (And.intro Aql (And.intro @Aq2 @Aq1)) ?_)
 (refine @unH _ ?_; refine zG (And.intro Aql (And.intro @Aq2 @Aq1)) ?_)
 (refine @unH _ ?_; refine zG (And.intro Aql (And.intro @Aq2 @Aq1)) ?_)
 (refine @unH _ ?_; refine zF (And.intro Aql (And.intro @Aq2 @Aq1)) ?_)
 (refine @unH _ ?_; refine zF (And.intro Aql (And.intro @Aq2 @Aq1)) ?_)
 (apply Ayp hOz rfl rfl rfl rfl (by simp -implicitDefEqProofs (disch := omega) only [act_get?, Axl, Nat.reduceEqDiff, ↓reduceIte, beq_self_eq_true, Bool.and_self, *]) ‹_›; (focus (intro HX hHX; simp -implicitDefEqProofs (disch := first | omega | (simp only [qd] <;> omega)) only [xq, ↓xp, qc, Nat.reduceAdd, List.range, List.range.loop, fine, Nat.reduceEqDiff, ↓reduceIte, yielded, reduceCtorEq, Nat.reduceLT, Nat.reduceMul, Nat.reduceSub, one, Nat.reduceLeDiff, Aqf, Aql, aq, ↓ap, qe0, qe1, qe2, *, -hK, Aq8, hHX _ _ vbb_C8, Awv] <;> (first | exact rfl | exact ⟨rfl, rfl⟩ | exact ⟨rfl, trivial⟩))); simp -implicitDefEqProofs (disch := first | omega | (simp only [qd] <;> omega)) only [Aq3, Aqm])
 (refine @unH _ ?_; refine zN (And.intro Aql (And.intro @Aq2 @Aq1)) ?_)
 refine (Bq2 _ E32 0 3).runs.mono ?_
 rintro _ E41 ⟨rfl, lE41⟩
 have mE41 : C8.le E41 := Hp.le_trans mE32 lE41
 simp -implicitDefEqProofs (disch := omega) only [Azt, Aq3, Aqm]
 refine ⟨.inr fun _ => (by first | trivial | exact mE41 | exact lE41), ?_⟩
 (refine @unH _ ?_; refine zG (And.intro Aql (And.intro @Aq2 @Aq1)) ?_)
 (refine @unH _ ?_; refine zF (And.intro Aql (And.intro @Aq2 @Aq1)) ?_)
 (refine @unH _ ?_; refine zF (And.intro Aql (And.intro @Aq2 @Aq1)) ?_)
 (refine @unH _ ?_; refine zG (And.intro Aql (And.intro @Aq2 @Aq1)) ?_)
 (refine @unH _ ?_; refine zG (And.intro Aql (And.intro @Aq2 @Aq1)) ?_)
 (refine @unH _ ?_; refine zF (And.intro Aql (And.intro @Aq2 @Aq1)) ?_)
 (refine @unH _ ?_; refine zF (And.intro Aql (And.intro @Aq2 @Aq1)) ?_)
 (apply Ayp hOz rfl rfl rfl rfl (by simp -implicitDefEqProofs (disch := omega) only [act_get?, Axl, Nat.reduceEqDiff, ↓reduceIte, beq_self_eq_true, Bool.and_self, *]) ‹_›; (focus (intro HX hHX; simp -implicitDefEqProofs (disch := first | omega | (simp only [qd] <;> omega)) only [xq, ↓xp, qc, Nat.reduceAdd, List.range, List.range.loop, fine, Nat.reduceEqDiff, ↓reduceIte, yielded, reduceCtorEq, Nat.reduceLT, Nat.reduceMul, Nat.reduceSub, one, Nat.reduceLeDiff, Aqf, Aql, aq, ↓ap, qe0, qe1, qe2, *, -hK, Aq8, hHX _ _ vbc_C8, Awv] <;> (first | exact rfl | exact ⟨rfl, rfl⟩ | exact ⟨rfl, trivial⟩))); simp -implicitDefEqProofs (disch := first | omega | (simp only [qd] <;> omega)) only [Aq3, Aqm])
 (refine @unH _ ?_; refine zN (And.intro Aql (And.intro @Aq2 @Aq1)) ?_)
 refine (Bq2 _ E41 4 9).runs.mono ?_
 rintro _ E50 ⟨rfl, lE50⟩
 have mE50 : C8.le E50 := Hp.le_trans mE41 lE50
 simp -implicitDefEqProofs (disch := omega) only [Azt, Aq3, Aqm]
 refine ⟨.inr fun _ => (by first | trivial | exact mE50 | exact lE50), ?_⟩
 (refine @unH _ ?_; refine zG (And.intro Aql (And.intro @Aq2 @Aq1)) ?_)
 (refine @unH _ ?_; refine zF (And.intro Aql (And.intro @Aq2 @Aq1)) ?_)
 (refine @unH _ ?_; refine zF (And.intro Aql (And.intro @Aq2 @Aq1)) ?_)
 (refine @unH _ ?_; refine zG (And.intro Aql (And.intro @Aq2 @Aq1)) ?_)
 (refine @unH _ ?_; refine zG (And.intro Aql (And.intro @Aq2 @Aq1)) ?_)
 (refine @unH _ ?_; refine zF (And.intro Aql (And.intro @Aq2 @Aq1)) ?_)
 (refine @unH _ ?_; refine zF (And.intro Aql (And.intro @Aq2 @Aq1)) ?_)
 (refine @unH _ ?_; refine zG (And.intro Aql (And.intro @Aq2 @Aq1)) ?_)
 (refine @unH _ ?_; refine zG (And.intro Aql (And.intro @Aq2 @Aq1)) ?_)
 (refine @unH _ ?_; refine zF (And.intro Aql (And.intro @Aq2 @Aq1)) ?_)
 (refine @unH _ ?_; refine zF (And.intro Aql (And.intro @Aq2 @Aq1)) ?_)
 (refine @unH _ ?_; refine zG (And.intro Aql (And.intro @Aq2 @Aq1)) ?_)
 (refine @unH _ ?_; refine zG (And.intro Aql (And.intro @Aq2 @Aq1)) ?_)
 (refine @unH _ ?_; refine zF (And.intro Aql (And.intro @Aq2 @Aq1)) ?_)
 (refine @unH _ ?_; refine zF (And.intro Aql (And.intro @Aq2 @Aq1)) ?_)
 (refine @unH _ ?_; refine zG (And.intro Aql (And.intro @Aq2 @Aq1)) ?_)
 (refine @unH _ ?_; refine zG (And.intro Aql (And.intro @Aq2 @Aq1)) ?_)
 (refine @unH _ ?_; refine zF (And.intro Aql (And.intro @Aq2 @Aq1)) ?_)
 (refine @unH _ ?_; refine zF (And.intro Aql (And.intro @Aq2 @Aq1)) ?_)
 (refine @unH _ ?_; refine zG (And.intro Aql (And.intro @Aq2 @Aq1)) ?_)
 (refine @unH _ ?_; refine zN (And.intro Aql (And.intro @Aq2 @Aq1)) ?_)
 intro g71 hg71
 generalize hG : Hp.set E50 g71 _ = E71
 have lE71 := Aqc hG hg71
 have vg71 := Aqb hG
 clear hG
 have mE71 : C8.le E71 := Hp.le_trans mE50 lE71
 refine ⟨.inr fun _ => mE71, ?_⟩
 have sl71 : SlI E71 (.slice (some ⟨g71, 0, none⟩) 1 1) [0] := Bx3 (xs := [0]) vg71 rfl
 have sw71 : SlI E71 wv [0] := SlI.le hw_C8 mE71
 clear hg71 vg71
 (refine @unH _ ?_; refine zN (And.intro Aql (And.intro @Aq2 @Aq1)) ?_)
 refine (Bqd _ E71 wv _ [0] [0] sw71 sl71 (by decide) (by decide)).runs.mono ?_
 rintro _ HQ ⟨rfl, hHQ⟩
 rw [hHQ]
 clear hHQ HQ
 rw [decide_eq_true rfl]
 clear sl71 sw71
 simp -implicitDefEqProofs (disch := omega) only [Azt, Aq3, Aqm]
 refine ⟨.inr fun _ => mE71, ?_⟩
 (refine @unH _ ?_; refine zF (And.intro Aql (And.intro @Aq2 @Aq1)) ?_)
 (refine @unH _ ?_; refine zF (And.intro Aql (And.intro @Aq2 @Aq1)) ?_)
 (refine @unH _ ?_; refine zG (And.intro Aql (And.intro @Aq2 @Aq1)) ?_)
 (refine @unH _ ?_; refine zN (And.intro Aql (And.intro @Aq2 @Aq1)) ?_)
 intro g76 hg76
 generalize hG : Hp.set E71 g76 _ = E76
 have lE76 := Aqc hG hg76
 have vg76 := Aqb hG
 clear hG
 have mE76 : C8.le E76 := Hp.le_trans mE71 lE76
 refine ⟨.inr fun _ => mE76, ?_⟩
 have sl76 : SlI E76 (.slice (some ⟨g76, 0, none⟩) 3 3) [2, 1, 2] := Bx3 (xs := [2, 1, 2]) vg76 rfl
 have sw76 : SlI E76 fv [2, 1, 2] := SlI.le hf_C8 mE76
 clear hg76 vg76
 (refine @unH _ ?_; refine zN (And.intro Aql (And.intro @Aq2 @Aq1)) ?_)
 refine (Bqd _ E76 fv _ [2, 1, 2] [2, 1, 2] sw76 sl76 (by decide) (by decide)).runs.mono ?_
 rintro _ HQ ⟨rfl, hHQ⟩
 rw [hHQ]
 clear hHQ HQ
 rw [decide_eq_true rfl]
 clear sl76 sw76
 simp -implicitDefEqProofs (disch := omega) only [Azt, Aq3, Aqm]
 refine ⟨.inr fun _ => mE76, ?_⟩
 (refine @unH _ ?_; refine zF (And.intro Aql (And.intro @Aq2 @Aq1)) ?_)
 (refine @unH _ ?_; refine zF (And.intro Aql (And.intro @Aq2 @Aq1)) ?_)
 refine Axr (hK _ _ ?_)
 clear hK K
 (try refine @unH _ (zQ ?_))
 (refine @unH _ ?_; refine z9 Tryz.results14 ?_)
 exact ⟨by trivial, Hp.le_trans tC8 mE76⟩
end Go.Proofs.YtkcomnkgdifboaaGreatDoor
end
section
namespace Go.Proofs.YtkcomnkgdifboaaGreatDoor
open Go Go.X
def Byz (d hr : Int) : Int := if d = 99 then 1000 else hr + d
def Av9 (s : Sm) (p hr : Int) (ts : List Int) : List Int := (List.range s.places.toNat).map fun (q : Nat) => Byz (gI (Aq5 s.doors p (pad6 ts)) q) hr
theorem Bzd (s : Sm) (p hr : Int) (ts : List Int) : (Av9 s p hr ts).length = s.places.toNat := by simp [Av9]
theorem Bxv {s : Sm} {p hr : Int} {ts : List Int} {q : Int} (h0 : 0 <= q) (h1 : q < s.places) : gI (Av9 s p hr ts) q = Byz (gI (Aq5 s.doors p (pad6 ts)) q) hr := by
 unfold gI Av9
 rw [List.getD, List.getElem?_map, List.getElem?_range (by omega)]
 simp only [Option.map_some, Option.getD_some]
 rw [show ((q.toNat : Nat) : Int) = q by omega]
 rfl
structure Av5 (E : Int -> Int -> Int -> Prop) (pl p hr : Int) (c : List Int) : Prop where
 len : c.length = pl.toNat
 at0 : gI c p = hr
 att : ∀ q, 0 <= q -> q < pl -> gI c q = 1000 ∨ (gI c q < 1000 /\ Walk E p q (gI c q - hr))
 pos : ∀ q, 0 <= q -> q < pl -> hr <= gI c q
theorem Av5.start (E : Int -> Int -> Int -> Prop) {pl p hr : Int} (h0 : 0 <= p) (h1 : p < pl) (hh : hr <= 12) : Av5 E pl p hr ((List.replicate pl.toNat (1000 : Int)).set p.toNat hr) := by
 have hl : ∀ q, 0 <= q -> q < pl -> gI (List.replicate pl.toNat (1000 : Int)) q = 1000 := fun q h0 h1 => by
  unfold gI
  rw [List.getD, List.getElem?_replicate, if_pos (by omega)]
  rfl
 have hg : ∀ q, 0 <= q -> q < pl -> gI ((List.replicate pl.toNat (1000 : Int)).set p.toNat hr) q = if p = q then hr else 1000 := fun q hq0 hq1 => by
  rw [Awb h0 (by simp; omega) hq0, hl q hq0 hq1]
 refine ⟨by simp, by rw [hg p h0 h1, if_pos rfl], fun q hq0 hq1 => ?_, fun q hq0 hq1 => ?_⟩
 ·rw [hg q hq0 hq1]
  split
  ·rename_i h; subst h; refine .inr ⟨by omega, ?_⟩; rw [Int.sub_self]; exact .here
  ·exact .inl rfl
 ·rw [hg q hq0 hq1]; split <;> omega
theorem Av5.le {E : Int -> Int -> Int -> Prop} {pl p hr : Int} {c : List Int} (h : Av5 E pl p hr c) {q : Int} (h0 : 0 <= q) (h1 : q < pl) : gI c q <= 1000 := by
 rcases h.att q h0 h1 with h | h <;> omega
theorem Av5.one {E : Int -> Int -> Int -> Prop} {pl p hr : Int} {c : List Int} (h : Av5 E pl p hr c) {a b t : Int} (hE : E a b t) (ht : 1 <= t) (ha0 : 0 <= a) (ha1 : a < pl) (hb0 : 0 <= b) (hb1 : b < pl) (h0 : 0 <= p) (h1 : p < pl) (hlt : gI c a + t < gI c b) : Av5 E pl p hr (c.set b.toNat (gI c a + t)) := by
 have hl := h.len
 have hg : ∀ q, 0 <= q -> gI (c.set b.toNat (gI c a + t)) q = if b = q then gI c a + t else gI c q := fun q hq => Awb hb0 (by omega) hq
 have pa := h.pos a ha0 ha1
 have lb := h.le hb0 hb1
 refine ⟨by rw [Cwf, hl], ?_, fun q hq0 hq1 => ?_, fun q hq0 hq1 => ?_⟩
 ·rw [hg p h0]
  split
  ·rename_i e; subst e; have := h.at0; omega
  ·exact h.at0
 ·rw [hg q hq0]
  split
  ·rename_i e; subst e
   rcases h.att a ha0 ha1 with h2 | ⟨h2, hw⟩
   ·omega
   ·refine .inr ⟨by omega, ?_⟩
    rw [show gI c a + t - hr = gI c a - hr + t by omega]
    exact hw.step hE
  ·exact h.att q hq0 hq1
 ·rw [hg q hq0]
  split
  ·omega
  ·exact h.pos q hq0 hq1
def sumI (c : List Int) : Int := c.foldr (· + ·) 0
theorem Czb : ∀ (c : List Int) (i : Nat) (v x : Int), c[i]? = some x -> sumI (c.set i v) = sumI c - x + v
 | [], i, v, x, h => by simp at h
 | y :: c, 0, v, x, h => by
  simp at h
  subst h
  simp only [List.set_cons_zero, sumI, List.foldr_cons]
  omega
 | y :: c, i + 1, v, x, h => by
  have := Czb c i v x (by simpa using h)
  simp only [List.set_cons_succ, sumI, List.foldr_cons] at this ⊢
  omega
theorem Cwt : ∀ {c : List Int}, (∀ x ∈ c, 0 <= x) -> 0 <= sumI c
 | [], _ => Int.le_refl _
 | x :: c, h => by
  have h1 := h x List.mem_cons_self
  have := Cwt (c := c) fun y hy => h y (List.mem_cons_of_mem _ hy)
  simp only [sumI, List.foldr_cons] at this ⊢
  omega
theorem Dk0 {c : List Int} {x : Int} (h : x ∈ c) : ∃ q : Int, 0 <= q /\ q < c.length /\ gI c q = x := by
 obtain ⟨i, hi, rfl⟩ := List.mem_iff_getElem.1 h
 refine ⟨i, by omega, by omega, ?_⟩
 unfold gI
 simp [List.getD, List.getElem?_eq_getElem hi]
theorem Av5.sum {E : Int -> Int -> Int -> Prop} {pl p hr : Int} {c : List Int} (h : Av5 E pl p hr c) (hh : 0 <= hr) : 0 <= sumI c := Cwt fun x hx => by
 obtain ⟨q, h0, h1, rfl⟩ := Dk0 hx
 have := h.pos q h0 (by have := h.len; omega)
 omega
theorem Av5.is {s : Sm} (ok : SmOk s) {p hr : Int} {ts c : List Int} (hc : Av5 (Edg s.doors ts) s.places p hr c) (ht : ts ∈ Axv s.doors) (hr0 : 0 <= hr) (hr1 : hr <= 12) (h0 : 0 <= p) (h1 : p < s.places) (rel : ∀ a b n, Edg s.doors ts a b n -> gI c b <= gI c a + n) : c = Av9 s p hr ts := by
 have hE : ∀ a b n, Edg s.doors (pad6 ts) a b n ↔ Edg s.doors ts a b n := fun a b n => by unfold pad6; exact Cke (Akj ht) _
 have hd := Bqv ok h0 h1 ht
 have hto := Aj5 (pl := s.places) ok.dk ht
 have h6 := ok.p1
 apply List.ext_getElem?
 intro i
 by_cases hi : i < s.places.toNat
 ·have g1 := Awa (c := c) (p := (i : Int)) (by omega) (by rw [hc.len]; omega)
  have g2 := Awa (c := Av9 s p hr ts) (p := (i : Int)) (by omega) (by rw [Bzd]; omega)
  simp only [Int.toNat_natCast] at g1 g2
  rw [g1, g2, Bxv (by omega) (by omega)]
  congr 1
  unfold Byz
  rcases hc.att i (by omega) (by omega) with ha | ⟨ha, hw⟩
  ·rcases hd.att i (by omega) (by omega) with hb | ⟨hb, hv⟩
   ·rw [if_pos hb, ha]
   ·have := Walk.ge hv (c := gI c) fun a b t he => rel a b t ((hE a b t).1 he)
    rw [hc.at0] at this
    omega
  ·have hw' : Walk (Edg s.doors (pad6 ts)) p i (gI c i - hr) := Walk.map (fun x => x) (fun a b t he => (hE a b t).2 he) hw
   obtain ⟨_, _, g3, g4⟩ := hd.walk h6 ok.dk hto h0 (by omega) hw'
   rcases hd.att i (by omega) (by omega) with hb | ⟨hb, hv⟩
   ·omega
   ·have := Walk.ge hv (c := gI c) fun a b t he => rel a b t ((hE a b t).1 he)
    rw [hc.at0] at this
    rw [if_neg (by omega)]
    omega
 ·rw [List.getElem?_eq_none (by rw [hc.len]; omega), List.getElem?_eq_none (by rw [Bzd]; omega)]
theorem Cj5 {s : Sm} (ok : SmOk s) {i b : Nat} (hi : i < s.hampers.length) (hb : b <= 12) {ts : List Int} (ht : ts ∈ Axv s.doors) (hn : ∀ n ∈ s.noses, n.sm = decide (gI (Av9 s (s.hampers.getD i 0) b ts) n.pl <= n.hr)) :
  (i, b, pad6 ts, Aq5 s.doors (s.hampers.getD i 0) (pad6 ts)) ∈ allT s := by
 refine (Bxt s i b _ _).2 ⟨hi, by omega, ?_⟩
 unfold fitS fitL trL
 rw [List.mem_filter]
 refine ⟨List.mem_map.2 ⟨ts, ht, rfl⟩, (Cxv fun n hn => (ok.nk n hn).h1).2 ⟨by omega, by omega, fun n hm => ?_⟩⟩
 have h1 := ok.nk n hm
 obtain ⟨q0, q1⟩ := Dxh ok hi
 show n.sm = decide ((b : Int) + gI (Aq5 s.doors (s.hampers.getD i 0) (pad6 ts)) n.pl <= n.hr)
 rw [hn n hm, Bxv h1.p0 h1.p1, decide_eq_decide]
 have := h1.h1
 have hp := (Bqv ok q0 q1 ht).pos n.pl h1.p0 (by have := ok.p1; have := h1.p1; omega)
 unfold Byz
 split <;> constructor <;> intro <;> omega
def Dkl (s : Sm) (i b : Nat) (ts : List Int) (p : Int) : Int := gI (Av9 s (s.hampers.getD i 0) b ts) p
structure Tr (s : Sm) (i₀ b₀ : Nat) (ts : List Int) : Prop where
 i : i₀ < s.hampers.length
 b : b₀ < 13
 t : ts ∈ Axv s.doors
 n : ∀ m ∈ s.noses, m.sm = decide (Dkl s i₀ b₀ ts m.pl <= m.hr)
theorem Tr.mem {s : Sm} (ok : SmOk s) {i b : Nat} {ts : List Int} (h : Tr s i b ts) : (i, b, pad6 ts, Aq5 s.doors (s.hampers.getD i 0) (pad6 ts)) ∈ allT s := Cj5 ok h.i (by have := h.b; omega) h.t h.n
theorem Cys {s : Sm} {i b : Nat} {ts : List Int} {p : Int} (h0 : 0 <= p) (h1 : p < s.places) : Dkl s i b ts p = Byz (gI (Aq5 s.doors (s.hampers.getD i 0) (pad6 ts)) p) b := Bxv h0 h1
theorem Cvk {s : Sm} (ok : SmOk s) {i : Nat} (hi : i < s.hampers.length) {ts : List Int} (ht : ts ∈ Axv s.doors) {p : Int} (h0 : 0 <= p) (h1 : p < s.places) : 0 <= gI (Aq5 s.doors (s.hampers.getD i 0) (pad6 ts)) p /\ (gI (Aq5 s.doors (s.hampers.getD i 0) (pad6 ts)) p = 99 ∨ gI (Aq5 s.doors (s.hampers.getD i 0) (pad6 ts)) p <= 24) := by
 obtain ⟨q0, q1⟩ := Dxh ok hi
 have h6 := ok.p1
 have hd := Bqv ok q0 q1 ht
 exact ⟨hd.pos p h0 (by omega), hd.small h6 ok.dk (Aj5 (pl := s.places) ok.dk ht) q0 (by omega) h0 (by omega)⟩
theorem Dxt {s : Sm} (ok : SmOk s) {i b : Nat} {t c : List Int} (h : (i, b, t, c) ∈ allT s) : ∃ ts, Tr s i b ts /\ t = pad6 ts /\ c = Aq5 s.doors (s.hampers.getD i 0) (pad6 ts) := by
 obtain ⟨ts, h1, h2, h3, h4, h5, h6⟩ := Dxs ok h
 refine ⟨ts, ⟨h4, h5, h1, fun n hm => ?_⟩, h2, h3⟩
 have hn := ((Cxv fun n hn => (ok.nk n hn).h1).1 h6).2.2 n hm
 have hk := ok.nk n hm
 subst h3
 unfold Cqi at hn
 rw [hn, Cys hk.p0 hk.p1]
 rw [decide_eq_decide]
 have := hk.h1
 have := Cvk ok h4 h1 hk.p0 hk.p1
 unfold Byz
 split <;> constructor <;> intro <;> omega
theorem Cvj {s : Sm} (ok : SmOk s) {i b : Nat} (hi : i < s.hampers.length) (hb : b < 13) : fitS s i b ≠ [] ↔ ∃ ts, Tr s i b ts := by
 constructor
 ·intro h
  obtain ⟨⟨t, c⟩, hx⟩ := List.exists_mem_of_ne_nil _ h
  obtain ⟨ts, h1, _⟩ := Dxt ok ((Bxt s i b t c).2 ⟨hi, hb, hx⟩)
  exact ⟨ts, h1⟩
 ·rintro ⟨ts, h⟩
  exact List.ne_nil_of_mem ((Bxt s i b _ _).1 (h.mem ok)).2.2
theorem Bke {α : Type} [BEq α] [LawfulBEq α] : ∀ {l l' : List α}, l.Nodup -> (∀ x ∈ l, x ∈ l') -> l.length <= l'.length
 | [], _, _, _ => Nat.zero_le _
 | x :: l, l', hn, h => by
  rw [List.nodup_cons] at hn
  have hx := h x List.mem_cons_self
  have ih := Bke (l := l) (l' := l'.erase x) hn.2 fun y hy => (List.mem_erase_of_ne fun e : y = x => hn.1 (by rw [<- e]; exact hy)).2 (h y (List.mem_cons_of_mem _ hy))
  rw [List.length_erase_of_mem hx] at ih
  have := List.length_pos_of_mem hx
  simp only [List.length_cons]
  omega
theorem Bkf {α β : Type} {f : α -> β} : ∀ {l : List α}, (∀ x ∈ l, ∀ y ∈ l, f x = f y -> x = y) -> l.Nodup -> (l.map f).Nodup
 | [], _, _ => List.nodup_nil
 | x :: l, h, hn => by
  rw [List.nodup_cons] at hn
  rw [List.map_cons, List.nodup_cons]
  refine ⟨fun hm => ?_, Bkf (fun y hy z hz => h y (List.mem_cons_of_mem _ hy) z (List.mem_cons_of_mem _ hz)) hn.2⟩
  obtain ⟨y, hy, e⟩ := List.mem_map.1 hm
  have := h y (List.mem_cons_of_mem _ hy) x List.mem_cons_self e
  exact hn.1 (this ▸ hy)
def suLt (x y : Int × Int × Hint) : Prop := x.1 < y.1 ∨ (x.1 = y.1 /\ x.2.1 < y.2.1)
theorem Dxb (t : Trail) : (Awi t).Pairwise suLt := by
 unfold Awi
 rw [List.pairwise_map]
 refine List.Pairwise.filter _ ?_
 rw [List.pairwise_iff_getElem]
 intro i j hi hj hij
 refine .inr ⟨rfl, ?_⟩
 simp only [List.getElem_zipIdx]
 omega
theorem Bw7 {t : Trail} {x : Int × Int × Hint} (h : x ∈ Awi t) : x.1 = t.ham := by
 unfold Awi at h
 obtain ⟨y, _, rfl⟩ := List.mem_map.1 h
 rfl
theorem Dj1 (s : Sm) : (susp s).Pairwise suLt := by
 unfold susp Az5
 rw [List.pairwise_flatMap]
 refine ⟨fun t _ => Dxb t, ?_⟩
 unfold Axo
 rw [List.pairwise_map, List.pairwise_iff_getElem]
 intro i j hi hj hij x hx y hy
 refine .inl ?_
 rw [Bw7 hx, Bw7 hy]
 simp only [List.getElem_range, Azn]
 omega
def suP (s : Sm) : List (Int × Int) := (susp s).map fun x => (x.1, x.2.1)
theorem Cwr (s : Sm) : (suP s).Nodup := by
 unfold suP List.Nodup
 rw [List.pairwise_map]
 refine (Dj1 s).imp fun {x y} h e => ?_
 rw [Prod.mk.injEq] at e
 rcases h with h | ⟨_, h⟩ <;> omega
theorem Cwp (s : Sm) : (suP s).length = Azk s := by rw [Bqg]; simp [suP]
theorem Cwq {s : Sm} (ok : SmOk s) {i b : Int} : (i, b) ∈ suP s ↔ 0 <= i /\ 0 <= b /\ ∃ ts, Tr s i.toNat b.toNat ts := by
 unfold suP
 rw [List.mem_map]
 constructor
 ·rintro ⟨x, hx, he⟩
  obtain ⟨j, c, hj, hc, hne, rfl⟩ := (Czc s x).1 hx
  rw [Prod.mk.injEq] at he
  obtain ⟨rfl, rfl⟩ := he
  exact ⟨by simp only; omega, by simp only; omega, (Cvj ok hj hc).1 hne⟩
 ·rintro ⟨h0, h1, ts, ht⟩
  refine ⟨_, (Czc s _).2 ⟨i.toNat, b.toNat, ht.i, ht.b, (Cvj ok ht.i ht.b).2 ⟨ts, ht⟩, rfl⟩, ?_⟩
  rw [Prod.mk.injEq]
  exact ⟨by simp only; omega, by simp only; omega⟩
theorem count_le {s s' : Sm} (ok : SmOk s) (ok' : SmOk s') (f : Int × Int -> Int × Int) (hf : ∀ x ∈ suP s, ∀ y ∈ suP s, f x = f y -> x = y) (h : ∀ i b ts, Tr s i b ts -> f ((i : Int), (b : Int)) ∈ suP s') : Azk s <= Azk s' := by
 rw [<- Cwp, <- Cwp, <- List.length_map (f := f)]
 refine Bke (Bkf hf (Cwr s)) fun x hx => ?_
 obtain ⟨⟨i, b⟩, hm, rfl⟩ := List.mem_map.1 hx
 obtain ⟨h0, h1, ts, ht⟩ := (Cwq ok).1 hm
 have := h _ _ _ ht
 rw [show ((i.toNat : Nat) : Int) = i by omega, show ((b.toNat : Nat) : Int) = b by omega] at this
 exact this
theorem count_sub {s s' : Sm} (ok : SmOk s) (ok' : SmOk s') (h : ∀ i b ts, Tr s i b ts -> ∃ ts', Tr s' i b ts') : Azk s <= Azk s' :=
 count_le ok ok' id (fun _ _ _ _ e => e) fun i b ts ht => by
  obtain ⟨ts', h'⟩ := h i b ts ht
  exact (Cwq ok').2 ⟨by omega, by omega, ts', by simpa using h'⟩
theorem walk_other {E E' : Int -> Int -> Int -> Prop} (hE : ∀ a b t, E a b t -> ∃ t', E' a b t') {p q n : Int} (h : Walk E p q n) : ∃ m, Walk E' p q m := by
 induction h with
 | here => exact ⟨0, .here⟩
 | step _ he ih =>
  obtain ⟨m, hm⟩ := ih
  obtain ⟨t', ht⟩ := hE _ _ _ he
  exact ⟨_, hm.step ht⟩
theorem reach_same {s : Sm} (ok : SmOk s) {h : Int} (h0 : 0 <= h) (h1 : h < s.places) {t t' : List Int} (ht : t ∈ Axv s.doors) (ht' : t' ∈ Axv s.doors) {p : Int} (hp0 : 0 <= p) (hp1 : p < s.places) (hc : gI (Aq5 s.doors h (pad6 t')) p = 99) : gI (Aq5 s.doors h (pad6 t)) p = 99 := by
 have h6 := ok.p1
 have hd := Bqv ok h0 h1 ht
 have hd' := Bqv ok h0 h1 ht'
 rcases hd.att p hp0 (by omega) with h2 | ⟨_, hw⟩
 ·exact h2
 ·exfalso
  obtain ⟨m, hm⟩ := walk_other (E' := Edg s.doors (pad6 t')) (fun a b n he => by
   obtain ⟨i, d, g1, g2, g3⟩ := he.ix
   have hl := Akj ht'
   have hil := (List.getElem?_eq_some_iff.1 g1).1
   have g4 : (pad6 t')[i]? = some (t'[i]'(by omega)) := by
    unfold pad6
    rw [List.getElem?_append_left (by omega), List.getElem?_eq_getElem]
   refine ⟨t'[i]'(by omega), ?_⟩
   rcases g3 with ⟨rfl, rfl⟩ | ⟨rfl, rfl⟩
   ·exact Edg.of g1 g4
   ·exact (Edg.of g1 g4).symm) hw
  have := (hd'.walk h6 ok.dk (Aj5 (pl := s.places) ok.dk ht') h0 (by omega) hm).2.2.1
  omega
def Ajt := And.intro (fun H => Aqv (H := H) (P := Tryz.prog) (h := Tryz.zeroValue35)) (And.intro @Bqt (And.intro @Bys (And.intro @Aym (And.intro @Az0 (And.intro @Aw9 (fun H => Aqs (H := H) Tryz.sizeOf35))))))
theorem Cwv {a n : Int} (h0 : 0 <= a) (h1 : a < 2 * n) : a.tmod n = if a < n then a else a - n := by
 rw [Int.tmod_eq_emod_of_nonneg h0]
 split
 ·exact Int.emod_eq_of_lt h0 (by omega)
 ·rw [show a = (a - n) + n * 1 by omega, Int.add_mul_emod_self_left, Int.emod_eq_of_lt (by omega) (by omega)]
  omega
theorem By4 (m : Md) (H : Hp) (b k : Nat) (places wide : Int) (h0 : 2 <= places) (h1 : places <= 6) (w0 : 0 <= wide) (w1 : wide <= 10) (hT : TinI H b (k + 4)) :
  FnX Tryz.prog m 12 #[.pointer (some ⟨b, 0, none⟩), .int .i64 places, .int .i64 wide] H fun e H' => ∃ d : Dr, e = .returned (.agg #[.int .i64 d.a, .int .i64 d.b, .int .i64 d.mn, .int .i64 d.mx]) /\ DrOk places d /\ Lex (some b) H H' /\ TinI H' b k := by
 refine Aqn Tryz.func12 rfl Tryz.ntmps12 (by simp) ?_
 (refine @unH _ (zA Ajt ?_); (repeat refine inC fun hc => ?_); try refine inK fun K hK => ?_)
 (intro db hdb; generalize hG : Hp.set _ db _ = H1; have lH1 := Aqc hG hdb; have vdb := Aqb hG; clear hG)
 have hT1 := hT.le lH1
 have hne := hT.ne hdb
 ((try refine @unH _ (zX Ajt ?_)); (try (refine hK _ _ ?_; clear hK K; try refine @unH _ (zQ ?_))); refine @unH _ (zA Ajt ?_); (repeat refine inC fun hc => ?_); try refine inK fun K hK => ?_)
 refine (Bjn m H1 b (k + 3) (places - 1) (by omega) hT1).runs.mono ?_
 rintro _ H2 ⟨r, r0, r1, rfl, x2, hT2⟩
 have v2 := x2.keeps vdb hne
 clear vdb hT1
 ((try refine @unH _ (zX Ajt ?_)); (try (refine hK _ _ ?_; clear hK K; try refine @unH _ (zQ ?_))); refine @unH _ (zA Ajt ?_); (repeat refine inC fun hc => ?_); try refine inK fun K hK => ?_)
 refine (Ayv m H2 b (k + 2) 1 3 (by omega) (by omega) (by omega) (by omega) hT2).runs.mono ?_
 rintro _ H3 ⟨n, n0, n1, rfl, x3, hT3⟩
 have v3 := x3.keeps v2 hne
 clear v2 hT2
 ((try refine @unH _ (zX Ajt ?_)); (try (refine hK _ _ ?_; clear hK K; try refine @unH _ (zQ ?_))); refine @unH _ (zA Ajt ?_); (repeat refine inC fun hc => ?_); try refine inK fun K hK => ?_)
 refine Axm (fun HX => True) [] (.free 0 (.free 1 (.free 2 (.free 3 (.free 4 (.free 7 (.free 9 (.free 10 (.free 11 (.free 12 (.one 5 (.free 6 (.free 8 (.one 13 (.free 14 (.free 15 (.free 16 (.free 17 (.one 18 .nil))))))))))))))))))) (by kernel_rfl) (by kernel_rfl) (by decide) (by kernel_rfl) ?_; intro K hK
 refine Ax8 fun ops hOz => ?_
 (iterate 10 (refine @unH _ ?_; refine zF Ajt ?_))
 (refine @unH _ ?_; refine zM Ajt ?_)
 refine (Ayv m H3 b (k + 1) 1 (places - 1) (by omega) (by omega) (by omega) (by omega) hT3).runs.mono ?_
 rintro _ H4 ⟨x, q0, q1, rfl, x4, hT4⟩
 have v4 := x4.keeps v3 hne
 clear v3 hT3
 simp -implicitDefEqProofs (disch := omega) only [Azt, Aq3, Aqm]
 refine ⟨.inr fun _ => trivial, ?_⟩
 (iterate 2 (refine @unH _ ?_; refine zF Ajt ?_))
 (refine @unH _ ?_; refine zM Ajt ?_)
 refine (Bjn m H4 b k wide (by omega) hT4).runs.mono ?_
 rintro _ H5 ⟨y, y0, y1, rfl, x5, hT5⟩
 have v5 := x5.keeps v4 hne
 clear v4 hT4
 simp -implicitDefEqProofs (disch := omega) only [Azt, Aq3, Aqm]
 refine ⟨.inr fun _ => trivial, ?_⟩
 (iterate 4 (refine @unH _ ?_; refine zF Ajt ?_))
 (refine @unH _ ?_; refine zM Ajt ?_)
 refine ⟨.inr fun _ => trivial, ?_⟩
 (refine Ajc (hK _ _ ?_); clear hK K; (try simp only [nq, ↓reduceIte, Nat.reduceEqDiff]))
 (refine Axp ?_; (try simp only [nq, ↓reduceIte, Nat.reduceEqDiff]); rw [Aq6, Ax2 Tryz.results12 (by decide) (b := db) (o := 0) rfl Tryz.underlying35 rfl Tryz.sizeOf35]; simp -implicitDefEqProofs (disch := first | omega | (simp only [qd] <;> omega)) only [xq, ↓xp, qc, Nat.reduceAdd, List.range, List.range.loop, fine, Nat.reduceEqDiff, ↓reduceIte, yielded, reduceCtorEq, Nat.reduceLT, Nat.reduceMul, Nat.reduceSub, one, Nat.reduceLeDiff, Aqf, Ajt, Axk, List.extract_toArray])
 refine ⟨⟨r, (r + x).tmod places, n, if n + y < 4 then n + y else 4⟩, rfl, ?_, (((((Lex.of lH1).trans x2).trans x3).trans x4).trans x5).own hdb, hT5.own v5 (Ne.symm hne)⟩
 have e := Cwv (a := r + x) (n := places) (by omega) (by omega)
 generalize (r + x).tmod places = z at e ⊢
 have hz : 0 <= z /\ z < places /\ r ≠ z := by
  rw [e]
  split <;> omega
 refine ⟨r0, by simp only; omega, hz.1, hz.2.1, hz.2.2, n0, ?_, ?_⟩ <;> simp only <;> split <;> omega
end Go.Proofs.YtkcomnkgdifboaaGreatDoor
end
