/- Texts SmKp SmCo SmTr SmKd SmKc. -/
import Derived.Test.YtkenloilljeliaaGreatDoorJ21
set_option linter.defProp false
set_option linter.unusedSimpArgs false
set_option linter.unusedVariables false
set_option maxRecDepth 100000
set_option maxHeartbeats 2000000
section
namespace Go.X
open Go
theorem Cv8 {P : Program} {H : Hp} {t : TypeId} (h : P.eqGuardType P.depth t = false) (op : BinOp) (x y : Operand) (p q : Array Value) (K : Unit -> Hp -> Prop) (E : Value -> Hp -> Prop) : wpS P (eqGuard op t x y (.agg p) (.agg q)) H K E = K () H := by
 unfold eqGuard
 cases op <;> first | rfl | (simp only [Aqa, Aj1, h, Bool.not_false, if_true]; first | rfl | (simp [Aqa, Aj1, h, Aqe]; done))
theorem Cv5 {P : Program} {H : Hp} {ks : TypeId} (h : Key2 P ks .i64 .i64) (a b c d : Int) (K : Value -> Hp -> Prop) (E : Value -> Hp -> Prop) :
  wpS P (binOp .eql ks (.agg #[.int .i64 a, .int .i64 b]) (.agg #[.int .i64 c, .int .i64 d])) H K E = K (.bool (a == c && b == d)) H := by
 simp only [binOp]
 rw [Aqa, Ck2 h]
 rfl
end Go.X
namespace Go.Proofs.YtkenloilljeliaaGreatDoor
open Go Go.X
def Aql := And.intro @Ckn (And.intro @Dza (And.intro (fun H => Aqv (H := H) (P := Tryz.prog) (h := Tryz.zeroValue45)) (And.intro (fun H => Aqr (H := H) Tryz.sizeOf45) (And.intro @Dx1 (And.intro @Dx8 (And.intro @Dx4 (And.intro @Dx3 (And.intro @Dzb (And.intro @Dx0 (And.intro @Dzc (And.intro @Dx6 (And.intro (fun H => Aqp (H := H) Tryz.underlying45 rfl Tryz.sizeOf45) (And.intro @Dx7 (And.intro @Az1 (And.intro @Dx2 @Av0)))))))))))))))
theorem Dqz : Key2 Tryz.prog 45 .i64 .i64 := ⟨⟨_, _, Tryz.underlying45, by decide, by decide, rfl, rfl, ⟨_, Tryz.underlying3⟩, ⟨_, Tryz.underlying3⟩⟩, by kernel_rfl⟩
theorem Cju : Program.eqGuardType Tryz.prog (Program.depth Tryz.prog) 45 = false := by kernel_rfl
theorem Aq2 {H : Hp} (op : BinOp) (x y : Operand) (p q : Array Value) (K : Unit -> Hp -> Prop) (E : Value -> Hp -> Prop) : wpS Tryz.prog (eqGuard op 45 x y (.agg p) (.agg q)) H K E = K () H := Cv8 Cju op x y p q K E
theorem Aq1 {H : Hp} (a b c d : Int) (K : Value -> Hp -> Prop) (E : Value -> Hp -> Prop) :
 wpS Tryz.prog (binOp .eql 45 (.agg #[.int .i64 a, .int .i64 b]) (.agg #[.int .i64 c, .int .i64 d])) H K E = K (.bool (a == c && b == d)) H := Cv5 Dqz a b c d K E
theorem Bxx {H : Hp} {b n : Nat} {xs : List Int} {c : Array Value} (h : H b = some (true, .cells c 3 (0, 0))) (hc : c = (ints xs).toArray) (hn : n = xs.length := by rfl) : SlI H (.slice (some ⟨b, 0, none⟩) n n) xs := by
 subst hc hn
 refine ⟨_, _, rfl, Nat.le_refl _, fun i x hx => ⟨b, 0, true, _, _, rfl, h, ?_⟩⟩
 rw [Nat.zero_add, List.getElem?_toArray]
 exact Akb hx
theorem smelled_spec (H : Hp) : FnX Tryz.prog (.wg Tryz.prog) 16 #[] H fun e H' => e = .returned (.bool true) /\ H.le H' := by
 refine Aqo (args := []) Tryz.func16 rfl Tryz.ntmps16 (by simp) ?_
 (refine @unH _ (zA Aql ?_); (repeat refine inC fun hc => ?_); try refine inK fun K hK => ?_)
 refine (Aj4 _ H).runs.mono ?_
 rintro _ A1 ⟨dv1, hv1, nv1, rfl, hs1, lA1⟩
 have tA1 := lA1
 clear lA1
 ((try refine @unH _ (zX Aql ?_)); (try (refine hK _ _ ?_; clear hK K; try refine @unH _ (zQ ?_))); refine @unH _ (zA Aql ?_); (repeat refine inC fun hc => ?_); try refine inK fun K hK => ?_)
 refine (Cqp A1 Ajv _ _ _ hs1 Avo 2 3 _).runs.mono ?_
 rintro _ C1 ⟨rfl, lC1⟩
 rw [Cyn]
 clear hs1
 have tC1 := Hp.le_trans tA1 lC1
 clear lC1 tA1
 ((try refine @unH _ (zX Aql ?_)); (try (refine hK _ _ ?_; clear hK K; try refine @unH _ (zQ ?_))); refine @unH _ (zA Aql ?_); (repeat refine inC fun hc => ?_); try refine inK fun K hK => ?_)
 (intro ba hba; generalize hG : Hp.set _ ba _ = D1; have lD1 := Aqc hG hba; have vba := Aqb hG; clear hG)
 have vba_D1 := vba
 clear vba hba
 have tD1 := Hp.le_trans tC1 lD1
 clear lD1 tC1
 ((try refine @unH _ (zX Aql ?_)); (try (refine hK _ _ ?_; clear hK K; try refine @unH _ (zQ ?_))); refine @unH _ (zA Aql ?_); (repeat refine inC fun hc => ?_); try refine inK fun K hK => ?_)
 refine (Aj4 _ D1).runs.mono ?_
 rintro _ A2 ⟨dv2, hv2, nv2, rfl, hs2, lA2⟩
 have vba_A2 := lA2 _ _ vba_D1
 clear vba_D1
 have tA2 := Hp.le_trans tD1 lA2
 clear lA2 tD1
 ((try refine @unH _ (zX Aql ?_)); (try (refine hK _ _ ?_; clear hK K; try refine @unH _ (zQ ?_))); refine @unH _ (zA Aql ?_); (repeat refine inC fun hc => ?_); try refine inK fun K hK => ?_)
 refine (Cqm A2 Ajv _ _ _ hs2 Avo).runs.mono ?_
 rintro _ C2 ⟨rfl, lC2⟩
 have vba_C2 := lC2 _ _ vba_A2
 clear vba_A2
 rw [Cyl]
 clear hs2
 have tC2 := Hp.le_trans tA2 lC2
 clear lC2 tA2
 ((try refine @unH _ (zX Aql ?_)); (try (refine hK _ _ ?_; clear hK K; try refine @unH _ (zQ ?_))); refine @unH _ (zA Aql ?_); (repeat refine inC fun hc => ?_); try refine inK fun K hK => ?_)
 refine (Aj4 _ C2).runs.mono ?_
 rintro _ A3 ⟨dv3, hv3, nv3, rfl, hs3, lA3⟩
 have vba_A3 := lA3 _ _ vba_C2
 clear vba_C2
 have tA3 := Hp.le_trans tC2 lA3
 clear lA3 tC2
 ((try refine @unH _ (zX Aql ?_)); (try (refine hK _ _ ?_; clear hK K; try refine @unH _ (zQ ?_))); refine @unH _ (zA Aql ?_); (repeat refine inC fun hc => ?_); try refine inK fun K hK => ?_)
 refine (Cqq A3 Ajv _ _ _ hs3 Avo 1).runs.mono ?_
 rintro _ C3 ⟨rfl, lC3⟩
 have vba_C3 := lC3 _ _ vba_A3
 clear vba_A3
 rw [Cyo]
 clear hs3
 have tC3 := Hp.le_trans tA3 lC3
 clear lC3 tA3
 ((try refine @unH _ (zX Aql ?_)); (try (refine hK _ _ ?_; clear hK K; try refine @unH _ (zQ ?_))); refine @unH _ (zA Aql ?_); (repeat refine inC fun hc => ?_); try refine inK fun K hK => ?_)
 (intro bb hbb; generalize hG : Hp.set _ bb _ = D3; have lD3 := Aqc hG hbb; have vbb := Aqb hG; clear hG)
 have vba_D3 := lD3 _ _ vba_C3
 clear vba_C3
 have vbb_D3 := vbb
 clear vbb hbb
 have tD3 := Hp.le_trans tC3 lD3
 clear lD3 tC3
 ((try refine @unH _ (zX Aql ?_)); (try (refine hK _ _ ?_; clear hK K; try refine @unH _ (zQ ?_))); refine @unH _ (zA Aql ?_); (repeat refine inC fun hc => ?_); try refine inK fun K hK => ?_)
 refine (Aj4 _ D3).runs.mono ?_
 rintro _ A4 ⟨dv4, hv4, nv4, rfl, hs4, lA4⟩
 have vba_A4 := lA4 _ _ vba_D3
 have vbb_A4 := lA4 _ _ vbb_D3
 clear vba_D3 vbb_D3
 have tA4 := Hp.le_trans tD3 lA4
 clear lA4 tD3
 ((try refine @unH _ (zX Aql ?_)); (try (refine hK _ _ ?_; clear hK K; try refine @unH _ (zQ ?_))); refine @unH _ (zA Aql ?_); (repeat refine inC fun hc => ?_); try refine inK fun K hK => ?_)
 refine (Bvc A4 Ajv _ _ _ hs4 Avo 0 3).runs.mono ?_
 rintro _ C4 ⟨rfl, lC4⟩
 have vba_C4 := lC4 _ _ vba_A4
 have vbb_C4 := lC4 _ _ vbb_A4
 clear vba_A4 vbb_A4
 rw [Dz7, Dkh]
 clear hs4
 have tC4 := Hp.le_trans tA4 lC4
 clear lC4 tA4
 ((try refine @unH _ (zX Aql ?_)); (try (refine hK _ _ ?_; clear hK K; try refine @unH _ (zQ ?_))); refine @unH _ (zA Aql ?_); (repeat refine inC fun hc => ?_); try refine inK fun K hK => ?_)
 refine (Aj4 _ C4).runs.mono ?_
 rintro _ A5 ⟨dv5, hv5, nv5, rfl, hs5, lA5⟩
 have vba_A5 := lA5 _ _ vba_C4
 have vbb_A5 := lA5 _ _ vbb_C4
 clear vba_C4 vbb_C4
 have tA5 := Hp.le_trans tC4 lA5
 clear lA5 tC4
 ((try refine @unH _ (zX Aql ?_)); (try (refine hK _ _ ?_; clear hK K; try refine @unH _ (zQ ?_))); refine @unH _ (zA Aql ?_); (repeat refine inC fun hc => ?_); try refine inK fun K hK => ?_)
 refine (Cql A5 Ajv _ _ _ hs5 Avo 3).runs.mono ?_
 rintro _ C5 ⟨rfl, lC5⟩
 have vba_C5 := lC5 _ _ vba_A5
 have vbb_C5 := lC5 _ _ vbb_A5
 clear vba_A5 vbb_A5
 rw [Cyk]
 clear hs5
 have tC5 := Hp.le_trans tA5 lC5
 clear lC5 tA5
 ((try refine @unH _ (zX Aql ?_)); (try (refine hK _ _ ?_; clear hK K; try refine @unH _ (zQ ?_))); refine @unH _ (zA Aql ?_); (repeat refine inC fun hc => ?_); try refine inK fun K hK => ?_)
 (intro bc hbc; generalize hG : Hp.set _ bc _ = D5; have lD5 := Aqc hG hbc; have vbc := Aqb hG; clear hG)
 have vba_D5 := lD5 _ _ vba_C5
 have vbb_D5 := lD5 _ _ vbb_C5
 clear vba_C5 vbb_C5
 have vbc_D5 := vbc
 clear vbc hbc
 have tD5 := Hp.le_trans tC5 lD5
 clear lD5 tC5
 ((try refine @unH _ (zX Aql ?_)); (try (refine hK _ _ ?_; clear hK K; try refine @unH _ (zQ ?_))); refine @unH _ (zA Aql ?_); (repeat refine inC fun hc => ?_); try refine inK fun K hK => ?_)
 refine (Dqn _ D5).runs.mono ?_
 rintro _ A6 ⟨dv6, hv6, nv6, rfl, hs6, lA6⟩
 have vba_A6 := lA6 _ _ vba_D5
 have vbb_A6 := lA6 _ _ vbb_D5
 have vbc_A6 := lA6 _ _ vbc_D5
 clear vba_D5 vbb_D5 vbc_D5
 have tA6 := Hp.le_trans tD5 lA6
 clear lA6 tD5
 ((try refine @unH _ (zX Aql ?_)); (try (refine hK _ _ ?_; clear hK K; try refine @unH _ (zQ ?_))); refine @unH _ (zA Aql ?_); (repeat refine inC fun hc => ?_); try refine inK fun K hK => ?_)
 refine (Cqs A6 oddS _ _ _ hs6 Djk).runs.mono ?_
 rintro _ C6 ⟨wv, rfl, hw, lC6⟩
 have vba_C6 := lC6 _ _ vba_A6
 have vbb_C6 := lC6 _ _ vbb_A6
 have vbc_C6 := lC6 _ _ vbc_A6
 clear vba_A6 vbb_A6 vbc_A6
 rw [Cyq] at hw
 have hw_C6 := hw
 clear hw
 clear hs6
 have tC6 := Hp.le_trans tA6 lC6
 clear lC6 tA6
 ((try refine @unH _ (zX Aql ?_)); (try (refine hK _ _ ?_; clear hK K; try refine @unH _ (zQ ?_))); refine @unH _ (zA Aql ?_); (repeat refine inC fun hc => ?_); try refine inK fun K hK => ?_)
 refine (Aj4 _ C6).runs.mono ?_
 rintro _ A7 ⟨dv7, hv7, nv7, rfl, hs7, lA7⟩
 have vba_A7 := lA7 _ _ vba_C6
 have vbb_A7 := lA7 _ _ vbb_C6
 have vbc_A7 := lA7 _ _ vbc_C6
 have hw_A7 := hw_C6.le lA7
 clear vba_C6 vbb_C6 vbc_C6 hw_C6
 have tA7 := Hp.le_trans tC6 lA7
 clear lA7 tC6
 ((try refine @unH _ (zX Aql ?_)); (try (refine hK _ _ ?_; clear hK K; try refine @unH _ (zQ ?_))); refine @unH _ (zA Aql ?_); (repeat refine inC fun hc => ?_); try refine inK fun K hK => ?_)
 refine (Cqr A7 Ajv _ _ _ hs7 Avo 2).runs.mono ?_
 rintro _ C7 ⟨rfl, lC7⟩
 have vba_C7 := lC7 _ _ vba_A7
 have vbb_C7 := lC7 _ _ vbb_A7
 have vbc_C7 := lC7 _ _ vbc_A7
 have hw_C7 := hw_A7.le lC7
 clear vba_A7 vbb_A7 vbc_A7 hw_A7
 rw [Cyp]
 clear hs7
 have tC7 := Hp.le_trans tA7 lC7
 clear lC7 tA7
 ((try refine @unH _ (zX Aql ?_)); (try (refine hK _ _ ?_; clear hK K; try refine @unH _ (zQ ?_))); refine @unH _ (zA Aql ?_); (repeat refine inC fun hc => ?_); try refine inK fun K hK => ?_)
 refine (Aj4 _ C7).runs.mono ?_
 rintro _ A8 ⟨dv8, hv8, nv8, rfl, hs8, lA8⟩
 have vba_A8 := lA8 _ _ vba_C7
 have vbb_A8 := lA8 _ _ vbb_C7
 have vbc_A8 := lA8 _ _ vbc_C7
 have hw_A8 := hw_C7.le lA8
 clear vba_C7 vbb_C7 vbc_C7 hw_C7
 have tA8 := Hp.le_trans tC7 lA8
 clear lA8 tC7
 ((try refine @unH _ (zX Aql ?_)); (try (refine hK _ _ ?_; clear hK K; try refine @unH _ (zQ ?_))); refine @unH _ (zA Aql ?_); (repeat refine inC fun hc => ?_); try refine inK fun K hK => ?_)
 refine (Cqn A8 Ajv _ _ _ hs8 Avo).runs.mono ?_
 rintro _ C8 ⟨fv, rfl, hf, lC8⟩
 have vba_C8 := lC8 _ _ vba_A8
 have vbb_C8 := lC8 _ _ vbb_A8
 have vbc_C8 := lC8 _ _ vbc_A8
 have hw_C8 := hw_A8.le lC8
 clear vba_A8 vbb_A8 vbc_A8 hw_A8
 rw [Cym] at hf ⊢
 have hf_C8 := hf
 clear hf
 clear hs8
 have tC8 := Hp.le_trans tA8 lC8
 clear lC8 tA8
 ((try refine @unH _ (zX Aql ?_)); (try (refine hK _ _ ?_; clear hK K; try refine @unH _ (zQ ?_))); refine @unH _ (zA Aql ?_); (repeat refine inC fun hc => ?_); try refine inK fun K hK => ?_)
 replace hf_C8 : SlI C8 fv [2, 1, 2] := hf_C8
 refine Bkc (fun e => e 1 = .pointer (some ⟨ba, 0, none⟩) /\ e 2 = .int .i64 0 /\ e 3 = .int .i64 5 /\ e 4 = .int .i64 0 /\ e 5 = .pointer (some ⟨bb, 0, none⟩) /\ e 6 = .int .i64 0 /\ e 7 = .int .i64 3 /\ e 8 = .int .i64 0 /\ e 9 = .pointer (some ⟨bc, 0, none⟩) /\ e 10 = .int .i64 0 /\ e 11 = wv /\ e 12 = .int .i64 0 /\ e 13 = .int .i64 1 /\ e 14 = .int .i64 3 /\ e 15 = .int .i64 0 /\ e 16 = .int .i64 0 /\ e 17 = .int .i64 2 /\ e 18 = fv /\ e 19 = .int .i64 0) ⟨rfl, rfl, rfl, rfl, rfl, rfl, rfl, rfl, rfl, rfl, rfl, rfl, rfl, rfl, rfl, rfl, rfl, rfl, rfl⟩ ?_
 rintro e ⟨e1, e2, e3, e4, e5, e6, e7, e8, e9, e10, e11, e12, e13, e14, e15, e16, e17, e18, e19⟩
 simp only [List.append]
 refine Axm (fun HX => C8.le HX) [] (.free 0 (.free 1 (.free 2 (.free 3 (.free 4 (.free 5 (.free 6 (.free 7 (.free 8 (.free 9 (.free 10 (.free 11 (.free 12 (.free 13 (.free 14 (.free 15 (.free 16 (.free 17 (.free 18 (.free 19 (.free 20 (.free 21 (.free 22 (.free 23 (.free 24 (.free 25 (.free 26 (.free 27 (.free 28 (.free 29 (.free 30 (.take 31 (.one 32 (.free 33 (.free 34 (.free 35 (.free 36 (.free 37 (.free 38 (.free 39 (.take 40 (.one 41 (.free 42 (.free 43 (.free 44 (.free 45 (.free 46 (.free 47 (.free 48 (.take 49 (.one 50 (.free 51 (.free 52 (.free 53 (.free 54 (.free 55 (.free 56 (.free 57 (.free 58 (.free 59 (.free 60 (.free 61 (.free 62 (.free 63 (.free 64 (.free 65 (.free 66 (.free 67 (.free 68 (.free 69 (.free 70 (.one 71 (.one 72 (.free 73 (.free 74 (.free 75 (.one 76 (.one 77 (.free 78 (.free 79 .nil)))))))))))))))))))))))))))))))))))))))))))))))))))))))))))))))))))))))))))))))) (by kernel_rfl) (by kernel_rfl) (by decide) (by kernel_rfl) ?_; intro K hK
 have hS0 : C8.le C8 := Hp.le_refl _
 refine Ax8 fun ops hOz => ?_
 (refine @unH _ ?_; refine zF (And.intro Aql (And.intro @Aq2 @Aq1)) ?_)
 (refine @unH _ ?_; refine zF (And.intro Aql (And.intro @Aq2 @Aq1)) ?_)
 (refine @unH _ ?_; refine zF (And.intro Aql (And.intro @Aq2 @Aq1)) ?_)
 (refine @unH _ ?_; refine zG (And.intro Aql (And.intro @Aq2 @Aq1)) ?_)
 (refine @unH _ ?_; refine zG (And.intro Aql (And.intro @Aq2 @Aq1)) ?_)
 (refine @unH _ ?_; refine zF (And.intro Aql (And.intro @Aq2 @Aq1)) ?_)
 (refine @unH _ ?_; refine zF (And.intro Aql (And.intro @Aq2 @Aq1)) ?_)
 (refine @unH _ ?_; refine zG (And.intro Aql (And.intro @Aq2 @Aq1)) ?_)
 (refine @unH _ ?_; refine zG (And.intro Aql (And.intro @Aq2 @Aq1)) ?_)
 (refine @unH _ ?_; refine zF (And.intro Aql (And.intro @Aq2 @Aq1)) ?_)
 (refine @unH _ ?_; refine zF (And.intro Aql (And.intro @Aq2 @Aq1)) ?_)
 (refine @unH _ ?_; refine zG (And.intro Aql (And.intro @Aq2 @Aq1)) ?_)
 (refine @unH _ ?_; refine zG (And.intro Aql (And.intro @Aq2 @Aq1)) ?_)
 (refine @unH _ ?_; refine zF (And.intro Aql (And.intro @Aq2 @Aq1)) ?_)
 (refine @unH _ ?_; refine zF (And.intro Aql (And.intro @Aq2 @Aq1)) ?_)
 (refine @unH _ ?_; refine zG (And.intro Aql (And.intro @Aq2 @Aq1)) ?_)
 (refine @unH _ ?_; refine zG (And.intro Aql (And.intro @Aq2 @Aq1)) ?_)
 (refine @unH _ ?_; refine zF (And.intro Aql (And.intro @Aq2 @Aq1)) ?_)
 (refine @unH _ ?_; refine zF (And.intro Aql (And.intro @Aq2 @Aq1)) ?_)
 (refine @unH _ ?_; refine zG (And.intro Aql (And.intro @Aq2 @Aq1)) ?_)
 (refine @unH _ ?_; refine zG (And.intro Aql (And.intro @Aq2 @Aq1)) ?_)
 (refine @unH _ ?_; refine zF (And.intro Aql (And.intro @Aq2 @Aq1)) ?_)
 (refine @unH _ ?_; refine zF (And.intro Aql (And.intro @Aq2 @Aq1)) ?_)
 (refine @unH _ ?_; refine zG (And.intro Aql (And.intro @Aq2 @Aq1)) ?_)
 (refine @unH _ ?_; refine zG (And.intro Aql (And.intro @Aq2 @Aq1)) ?_)
 (refine @unH _ ?_; refine zF (And.intro Aql (And.intro @Aq2 @Aq1)) ?_)
 (refine @unH _ ?_; refine zF (And.intro Aql (And.intro @Aq2 @Aq1)) ?_)
 (refine @unH _ ?_; refine zG (And.intro Aql (And.intro @Aq2 @Aq1)) ?_)
 (refine @unH _ ?_; refine zG (And.intro Aql (And.intro @Aq2 @Aq1)) ?_)
 (refine @unH _ ?_; refine zF (And.intro Aql (And.intro @Aq2 @Aq1)) ?_)
 (refine @unH _ ?_; refine zF (And.intro Aql (And.intro @Aq2 @Aq1)) ?_)
 (apply Ayo hOz rfl rfl rfl rfl (by simp -implicitDefEqProofs (disch := omega) only [act_get?, Axo, Nat.reduceEqDiff, ↓reduceIte, beq_self_eq_true, Bool.and_self, *]) ‹_›; (focus (intro HX hHX; simp -implicitDefEqProofs (disch := first | omega | (simp only [qd] <;> omega)) only [xq, ↓xp, qc, Nat.reduceAdd, List.range, List.range.loop, fine, Nat.reduceEqDiff, ↓reduceIte, yielded, reduceCtorEq, Nat.reduceLT, Nat.reduceMul, Nat.reduceSub, one, Nat.reduceLeDiff, Aqj, Aql, aq, ↓ap, qe0, qe1, qe2, *, -hK, Aq8, hHX _ _ vba_C8, Awu] <;> (first | exact rfl | exact ⟨rfl, rfl⟩ | exact ⟨rfl, trivial⟩))); simp -implicitDefEqProofs (disch := first | omega | (simp only [qd] <;> omega)) only [Aq3, Aqm])
 (refine @unH _ ?_; refine zN (And.intro Aql (And.intro @Aq2 @Aq1)) ?_)
 refine (Bqw _ C8 4 6).runs.mono ?_
 rintro _ E32 ⟨rfl, lE32⟩
 have mE32 : C8.le E32 := lE32
 simp -implicitDefEqProofs (disch := omega) only [Azr, Aq3, Aqm]
 refine ⟨.inr fun _ => (by first | trivial | exact mE32 | exact lE32), ?_⟩
 (refine @unH _ ?_; refine zG (And.intro Aql (And.intro @Aq2 @Aq1)) ?_)
 (refine @unH _ ?_; refine zF (And.intro Aql (And.intro @Aq2 @Aq1)) ?_)
 (refine @unH _ ?_; refine zF (And.intro Aql (And.intro @Aq2 @Aq1)) ?_)
 (refine @unH _ ?_; refine zG (And.intro Aql (And.intro @Aq2 @Aq1)) ?_)
 (refine @unH _ ?_; refine zG (And.intro Aql (And.intro @Aq2 @Aq1)) ?_)
 (refine @unH _ ?_; refine zF (And.intro Aql (And.intro @Aq2 @Aq1)) ?_)
 (refine @unH _ ?_; refine zF (And.intro Aql (And.intro @Aq2 @Aq1)) ?_)
 (apply Ayo hOz rfl rfl rfl rfl (by simp -implicitDefEqProofs (disch := omega) only [act_get?, Axo, Nat.reduceEqDiff, ↓reduceIte, beq_self_eq_true, Bool.and_self, *]) ‹_›; (focus (intro HX hHX; simp -implicitDefEqProofs (disch := first | omega | (simp only [qd] <;> omega)) only [xq, ↓xp, qc, Nat.reduceAdd, List.range, List.range.loop, fine, Nat.reduceEqDiff, ↓reduceIte, yielded, reduceCtorEq, Nat.reduceLT, Nat.reduceMul, Nat.reduceSub, one, Nat.reduceLeDiff, Aqj, Aql, aq, ↓ap, qe0, qe1, qe2, *, -hK, Aq8, hHX _ _ vbb_C8, Awu] <;> (first | exact rfl | exact ⟨rfl, rfl⟩ | exact ⟨rfl, trivial⟩))); simp -implicitDefEqProofs (disch := first | omega | (simp only [qd] <;> omega)) only [Aq3, Aqm])
 (refine @unH _ ?_; refine zN (And.intro Aql (And.intro @Aq2 @Aq1)) ?_)
 refine (Bqw _ E32 0 3).runs.mono ?_
 rintro _ E41 ⟨rfl, lE41⟩
 have mE41 : C8.le E41 := Hp.le_trans mE32 lE41
 simp -implicitDefEqProofs (disch := omega) only [Azr, Aq3, Aqm]
 refine ⟨.inr fun _ => (by first | trivial | exact mE41 | exact lE41), ?_⟩
 (refine @unH _ ?_; refine zG (And.intro Aql (And.intro @Aq2 @Aq1)) ?_)
 (refine @unH _ ?_; refine zF (And.intro Aql (And.intro @Aq2 @Aq1)) ?_)
 (refine @unH _ ?_; refine zF (And.intro Aql (And.intro @Aq2 @Aq1)) ?_)
 (refine @unH _ ?_; refine zG (And.intro Aql (And.intro @Aq2 @Aq1)) ?_)
 (refine @unH _ ?_; refine zG (And.intro Aql (And.intro @Aq2 @Aq1)) ?_)
 (refine @unH _ ?_; refine zF (And.intro Aql (And.intro @Aq2 @Aq1)) ?_)
 (refine @unH _ ?_; refine zF (And.intro Aql (And.intro @Aq2 @Aq1)) ?_)
 (apply Ayo hOz rfl rfl rfl rfl (by simp -implicitDefEqProofs (disch := omega) only [act_get?, Axo, Nat.reduceEqDiff, ↓reduceIte, beq_self_eq_true, Bool.and_self, *]) ‹_›; (focus (intro HX hHX; simp -implicitDefEqProofs (disch := first | omega | (simp only [qd] <;> omega)) only [xq, ↓xp, qc, Nat.reduceAdd, List.range, List.range.loop, fine, Nat.reduceEqDiff, ↓reduceIte, yielded, reduceCtorEq, Nat.reduceLT, Nat.reduceMul, Nat.reduceSub, one, Nat.reduceLeDiff, Aqj, Aql, aq, ↓ap, qe0, qe1, qe2, *, -hK, Aq8, hHX _ _ vbc_C8, Awu] <;> (first | exact rfl | exact ⟨rfl, rfl⟩ | exact ⟨rfl, trivial⟩))); simp -implicitDefEqProofs (disch := first | omega | (simp only [qd] <;> omega)) only [Aq3, Aqm])
 (refine @unH _ ?_; refine zN (And.intro Aql (And.intro @Aq2 @Aq1)) ?_)
 refine (Bqw _ E41 4 9).runs.mono ?_
 rintro _ E50 ⟨rfl, lE50⟩
 have mE50 : C8.le E50 := Hp.le_trans mE41 lE50
 simp -implicitDefEqProofs (disch := omega) only [Azr, Aq3, Aqm]
 refine ⟨.inr fun _ => (by first | trivial | exact mE50 | exact lE50), ?_⟩
 (refine @unH _ ?_; refine zG (And.intro Aql (And.intro @Aq2 @Aq1)) ?_)
 (refine @unH _ ?_; refine zF (And.intro Aql (And.intro @Aq2 @Aq1)) ?_)
 (refine @unH _ ?_; refine zF (And.intro Aql (And.intro @Aq2 @Aq1)) ?_)
 (refine @unH _ ?_; refine zG (And.intro Aql (And.intro @Aq2 @Aq1)) ?_)
 (refine @unH _ ?_; refine zG (And.intro Aql (And.intro @Aq2 @Aq1)) ?_)
 (refine @unH _ ?_; refine zF (And.intro Aql (And.intro @Aq2 @Aq1)) ?_)
 (refine @unH _ ?_; refine zF (And.intro Aql (And.intro @Aq2 @Aq1)) ?_)
 (refine @unH _ ?_; refine zG (And.intro Aql (And.intro @Aq2 @Aq1)) ?_)
 (refine @unH _ ?_; refine zG (And.intro Aql (And.intro @Aq2 @Aq1)) ?_)
 (refine @unH _ ?_; refine zF (And.intro Aql (And.intro @Aq2 @Aq1)) ?_)
 (refine @unH _ ?_; refine zF (And.intro Aql (And.intro @Aq2 @Aq1)) ?_)
 (refine @unH _ ?_; refine zG (And.intro Aql (And.intro @Aq2 @Aq1)) ?_)
 (refine @unH _ ?_; refine zG (And.intro Aql (And.intro @Aq2 @Aq1)) ?_)
 (refine @unH _ ?_; refine zF (And.intro Aql (And.intro @Aq2 @Aq1)) ?_)
 (refine @unH _ ?_; refine zF (And.intro Aql (And.intro @Aq2 @Aq1)) ?_)
 (refine @unH _ ?_; refine zG (And.intro Aql (And.intro @Aq2 @Aq1)) ?_)
 (refine @unH _ ?_; refine zG (And.intro Aql (And.intro @Aq2 @Aq1)) ?_)
 (refine @unH _ ?_; refine zF (And.intro Aql (And.intro @Aq2 @Aq1)) ?_)
 (refine @unH _ ?_; refine zF (And.intro Aql (And.intro @Aq2 @Aq1)) ?_)
 (refine @unH _ ?_; refine zG (And.intro Aql (And.intro @Aq2 @Aq1)) ?_)
 (refine @unH _ ?_; refine zN (And.intro Aql (And.intro @Aq2 @Aq1)) ?_)
 intro g71 hg71
 generalize hG : Hp.set E50 g71 _ = E71
 have lE71 := Aqc hG hg71
 have vg71 := Aqb hG
 clear hG
 have mE71 : C8.le E71 := Hp.le_trans mE50 lE71
 refine ⟨.inr fun _ => mE71, ?_⟩
 have sl71 : SlI E71 (.slice (some ⟨g71, 0, none⟩) 1 1) [0] := Bxx (xs := [0]) vg71 rfl
 have sw71 : SlI E71 wv [0] := SlI.le hw_C8 mE71
 clear hg71 vg71
 (refine @unH _ ?_; refine zN (And.intro Aql (And.intro @Aq2 @Aq1)) ?_)
 refine (Bqb _ E71 wv _ [0] [0] sw71 sl71 (by decide) (by decide)).runs.mono ?_
 rintro _ HQ ⟨rfl, hHQ⟩
 rw [hHQ]
 clear hHQ HQ
 rw [decide_eq_true rfl]
 clear sl71 sw71
 simp -implicitDefEqProofs (disch := omega) only [Azr, Aq3, Aqm]
 refine ⟨.inr fun _ => mE71, ?_⟩
 (refine @unH _ ?_; refine zF (And.intro Aql (And.intro @Aq2 @Aq1)) ?_)
 (refine @unH _ ?_; refine zF (And.intro Aql (And.intro @Aq2 @Aq1)) ?_)
 (refine @unH _ ?_; refine zG (And.intro Aql (And.intro @Aq2 @Aq1)) ?_)
 (refine @unH _ ?_; refine zN (And.intro Aql (And.intro @Aq2 @Aq1)) ?_)
 intro g76 hg76
 generalize hG : Hp.set E71 g76 _ = E76
 have lE76 := Aqc hG hg76
 have vg76 := Aqb hG
 clear hG
 have mE76 : C8.le E76 := Hp.le_trans mE71 lE76
 refine ⟨.inr fun _ => mE76, ?_⟩
 have sl76 : SlI E76 (.slice (some ⟨g76, 0, none⟩) 3 3) [2, 1, 2] := Bxx (xs := [2, 1, 2]) vg76 rfl
 have sw76 : SlI E76 fv [2, 1, 2] := SlI.le hf_C8 mE76
 clear hg76 vg76
 (refine @unH _ ?_; refine zN (And.intro Aql (And.intro @Aq2 @Aq1)) ?_)
 refine (Bqb _ E76 fv _ [2, 1, 2] [2, 1, 2] sw76 sl76 (by decide) (by decide)).runs.mono ?_
 rintro _ HQ ⟨rfl, hHQ⟩
 rw [hHQ]
 clear hHQ HQ
 rw [decide_eq_true rfl]
 clear sl76 sw76
 simp -implicitDefEqProofs (disch := omega) only [Azr, Aq3, Aqm]
 refine ⟨.inr fun _ => mE76, ?_⟩
 (refine @unH _ ?_; refine zF (And.intro Aql (And.intro @Aq2 @Aq1)) ?_)
 (refine @unH _ ?_; refine zF (And.intro Aql (And.intro @Aq2 @Aq1)) ?_)
 refine Axq (hK _ _ ?_)
 clear hK K
 (try refine @unH _ (zQ ?_))
 (refine @unH _ ?_; refine z9 Tryz.results16 ?_)
 exact ⟨by trivial, Hp.le_trans tC8 mE76⟩
end Go.Proofs.YtkenloilljeliaaGreatDoor
end
section
namespace Go.Proofs.YtkenloilljeliaaGreatDoor
open Go Go.X
def Byt (d hr : Int) : Int := if d = 99 then 1000 else hr + d
def Av9 (s : Sm) (p hr : Int) (ts : List Int) : List Int := (List.range s.places.toNat).map fun (q : Nat) => Byt (gI (Aq7 s.doors p (pad6 ts)) q) hr
theorem Bx8 (s : Sm) (p hr : Int) (ts : List Int) : (Av9 s p hr ts).length = s.places.toNat := by simp [Av9]
theorem Bxp {s : Sm} {p hr : Int} {ts : List Int} {q : Int} (h0 : 0 <= q) (h1 : q < s.places) : gI (Av9 s p hr ts) q = Byt (gI (Aq7 s.doors p (pad6 ts)) q) hr := by
 unfold gI Av9
 rw [List.getD, List.getElem?_map, List.getElem?_range (by omega)]
 simp only [Option.map_some, Option.getD_some]
 rw [show ((q.toNat : Nat) : Int) = q by omega]
 rfl
structure Av5 (E : Int -> Int -> Int -> Prop) (pl p hr : Int) (c : List Int) : Prop where
 len : c.length = pl.toNat
 at0 : gI c p = hr
 att : ∀ q, 0 <= q -> q < pl -> gI c q = 1000 ∨ (gI c q < 1000 /\ Walk E p q (gI c q - hr))
 pos : ∀ q, 0 <= q -> q < pl -> hr <= gI c q
theorem Av5.start (E : Int -> Int -> Int -> Prop) {pl p hr : Int} (h0 : 0 <= p) (h1 : p < pl) (hh : hr <= 12) : Av5 E pl p hr ((List.replicate pl.toNat (1000 : Int)).set p.toNat hr) := by
 have hl : ∀ q, 0 <= q -> q < pl -> gI (List.replicate pl.toNat (1000 : Int)) q = 1000 := fun q h0 h1 => by
  unfold gI
  rw [List.getD, List.getElem?_replicate, if_pos (by omega)]
  rfl
 have hg : ∀ q, 0 <= q -> q < pl -> gI ((List.replicate pl.toNat (1000 : Int)).set p.toNat hr) q = if p = q then hr else 1000 := fun q hq0 hq1 => by
  rw [Awb h0 (by simp; omega) hq0, hl q hq0 hq1]
 refine ⟨by simp, by rw [hg p h0 h1, if_pos rfl], fun q hq0 hq1 => ?_, fun q hq0 hq1 => ?_⟩
 ·rw [hg q hq0 hq1]
  split
  ·rename_i h; subst h; refine .inr ⟨by omega, ?_⟩; rw [Int.sub_self]; exact .here
  ·exact .inl rfl
 ·rw [hg q hq0 hq1]; split <;> omega
theorem Av5.le {E : Int -> Int -> Int -> Prop} {pl p hr : Int} {c : List Int} (h : Av5 E pl p hr c) {q : Int} (h0 : 0 <= q) (h1 : q < pl) : gI c q <= 1000 := by
 rcases h.att q h0 h1 with h | h <;> omega
theorem Av5.one {E : Int -> Int -> Int -> Prop} {pl p hr : Int} {c : List Int} (h : Av5 E pl p hr c) {a b t : Int} (hE : E a b t) (ht : 1 <= t) (ha0 : 0 <= a) (ha1 : a < pl) (hb0 : 0 <= b) (hb1 : b < pl) (h0 : 0 <= p) (h1 : p < pl) (hlt : gI c a + t < gI c b) : Av5 E pl p hr (c.set b.toNat (gI c a + t)) := by
 have hl := h.len
 have hg : ∀ q, 0 <= q -> gI (c.set b.toNat (gI c a + t)) q = if b = q then gI c a + t else gI c q := fun q hq => Awb hb0 (by omega) hq
 have pa := h.pos a ha0 ha1
 have lb := h.le hb0 hb1
 refine ⟨by rw [Cv9, hl], ?_, fun q hq0 hq1 => ?_, fun q hq0 hq1 => ?_⟩
 ·rw [hg p h0]
  split
  ·rename_i e; subst e; have := h.at0; omega
  ·exact h.at0
 ·rw [hg q hq0]
  split
  ·rename_i e; subst e
   rcases h.att a ha0 ha1 with h2 | ⟨h2, hw⟩
   ·omega
   ·refine .inr ⟨by omega, ?_⟩
    rw [show gI c a + t - hr = gI c a - hr + t by omega]
    exact hw.step hE
  ·exact h.att q hq0 hq1
 ·rw [hg q hq0]
  split
  ·omega
  ·exact h.pos q hq0 hq1
def sumI (c : List Int) : Int := c.foldr (· + ·) 0
theorem Cx7 : ∀ (c : List Int) (i : Nat) (v x : Int), c[i]? = some x -> sumI (c.set i v) = sumI c - x + v
 | [], i, v, x, h => by simp at h
 | y :: c, 0, v, x, h => by
  simp at h
  subst h
  simp only [List.set_cons_zero, sumI, List.foldr_cons]
  omega
 | y :: c, i + 1, v, x, h => by
  have := Cx7 c i v x (by simpa using h)
  simp only [List.set_cons_succ, sumI, List.foldr_cons] at this ⊢
  omega
theorem Cwk : ∀ {c : List Int}, (∀ x ∈ c, 0 <= x) -> 0 <= sumI c
 | [], _ => Int.le_refl _
 | x :: c, h => by
  have h1 := h x List.mem_cons_self
  have := Cwk (c := c) fun y hy => h y (List.mem_cons_of_mem _ hy)
  simp only [sumI, List.foldr_cons] at this ⊢
  omega
theorem Dkq {c : List Int} {x : Int} (h : x ∈ c) : ∃ q : Int, 0 <= q /\ q < c.length /\ gI c q = x := by
 obtain ⟨i, hi, rfl⟩ := List.mem_iff_getElem.1 h
 refine ⟨i, by omega, by omega, ?_⟩
 unfold gI
 simp [List.getD, List.getElem?_eq_getElem hi]
theorem Av5.sum {E : Int -> Int -> Int -> Prop} {pl p hr : Int} {c : List Int} (h : Av5 E pl p hr c) (hh : 0 <= hr) : 0 <= sumI c := Cwk fun x hx => by
 obtain ⟨q, h0, h1, rfl⟩ := Dkq hx
 have := h.pos q h0 (by have := h.len; omega)
 omega
theorem Av5.is {s : Sm} (ok : SmOk s) {p hr : Int} {ts c : List Int} (hc : Av5 (Edg s.doors ts) s.places p hr c) (ht : ts ∈ Ax1 s.doors) (hr0 : 0 <= hr) (hr1 : hr <= 12) (h0 : 0 <= p) (h1 : p < s.places) (rel : ∀ a b n, Edg s.doors ts a b n -> gI c b <= gI c a + n) : c = Av9 s p hr ts := by
 have hE : ∀ a b n, Edg s.doors (pad6 ts) a b n ↔ Edg s.doors ts a b n := fun a b n => by unfold pad6; exact Cj9 (Avi ht) _
 have hd := Bkv ok h0 h1 ht
 have hto := Akr (pl := s.places) ok.dk ht
 have h6 := ok.p1
 apply List.ext_getElem?
 intro i
 by_cases hi : i < s.places.toNat
 ·have g1 := Awa (c := c) (p := (i : Int)) (by omega) (by rw [hc.len]; omega)
  have g2 := Awa (c := Av9 s p hr ts) (p := (i : Int)) (by omega) (by rw [Bx8]; omega)
  simp only [Int.toNat_natCast] at g1 g2
  rw [g1, g2, Bxp (by omega) (by omega)]
  congr 1
  unfold Byt
  rcases hc.att i (by omega) (by omega) with ha | ⟨ha, hw⟩
  ·rcases hd.att i (by omega) (by omega) with hb | ⟨hb, hv⟩
   ·rw [if_pos hb, ha]
   ·have := Walk.ge hv (c := gI c) fun a b t he => rel a b t ((hE a b t).1 he)
    rw [hc.at0] at this
    omega
  ·have hw' : Walk (Edg s.doors (pad6 ts)) p i (gI c i - hr) := Walk.map (fun x => x) (fun a b t he => (hE a b t).2 he) hw
   obtain ⟨_, _, g3, g4⟩ := hd.walk h6 ok.dk hto h0 (by omega) hw'
   rcases hd.att i (by omega) (by omega) with hb | ⟨hb, hv⟩
   ·omega
   ·have := Walk.ge hv (c := gI c) fun a b t he => rel a b t ((hE a b t).1 he)
    rw [hc.at0] at this
    rw [if_neg (by omega)]
    omega
 ·rw [List.getElem?_eq_none (by rw [hc.len]; omega), List.getElem?_eq_none (by rw [Bx8]; omega)]
theorem Cj0 {s : Sm} (ok : SmOk s) {i b : Nat} (hi : i < s.hampers.length) (hb : b <= 12) {ts : List Int} (ht : ts ∈ Ax1 s.doors) (hn : ∀ n ∈ s.noses, n.sm = decide (gI (Av9 s (s.hampers.getD i 0) b ts) n.pl <= n.hr)) :
  (i, b, pad6 ts, Aq7 s.doors (s.hampers.getD i 0) (pad6 ts)) ∈ allT s := by
 refine (Bxn s i b _ _).2 ⟨hi, by omega, ?_⟩
 unfold fitS fitL trL
 rw [List.mem_filter]
 refine ⟨List.mem_map.2 ⟨ts, ht, rfl⟩, (Cxs fun n hn => (ok.nk n hn).h1).2 ⟨by omega, by omega, fun n hm => ?_⟩⟩
 have h1 := ok.nk n hm
 obtain ⟨q0, q1⟩ := Dq8 ok hi
 show n.sm = decide ((b : Int) + gI (Aq7 s.doors (s.hampers.getD i 0) (pad6 ts)) n.pl <= n.hr)
 rw [hn n hm, Bxp h1.p0 h1.p1, decide_eq_decide]
 have := h1.h1
 have hp := (Bkv ok q0 q1 ht).pos n.pl h1.p0 (by have := ok.p1; have := h1.p1; omega)
 unfold Byt
 split <;> constructor <;> intro <;> omega
def Dkb (s : Sm) (i b : Nat) (ts : List Int) (p : Int) : Int := gI (Av9 s (s.hampers.getD i 0) b ts) p
structure Tr (s : Sm) (i₀ b₀ : Nat) (ts : List Int) : Prop where
 i : i₀ < s.hampers.length
 b : b₀ < 13
 t : ts ∈ Ax1 s.doors
 n : ∀ m ∈ s.noses, m.sm = decide (Dkb s i₀ b₀ ts m.pl <= m.hr)
theorem Tr.mem {s : Sm} (ok : SmOk s) {i b : Nat} {ts : List Int} (h : Tr s i b ts) : (i, b, pad6 ts, Aq7 s.doors (s.hampers.getD i 0) (pad6 ts)) ∈ allT s := Cj0 ok h.i (by have := h.b; omega) h.t h.n
theorem Cyi {s : Sm} {i b : Nat} {ts : List Int} {p : Int} (h0 : 0 <= p) (h1 : p < s.places) : Dkb s i b ts p = Byt (gI (Aq7 s.doors (s.hampers.getD i 0) (pad6 ts)) p) b := Bxp h0 h1
theorem Cvd {s : Sm} (ok : SmOk s) {i : Nat} (hi : i < s.hampers.length) {ts : List Int} (ht : ts ∈ Ax1 s.doors) {p : Int} (h0 : 0 <= p) (h1 : p < s.places) : 0 <= gI (Aq7 s.doors (s.hampers.getD i 0) (pad6 ts)) p /\ (gI (Aq7 s.doors (s.hampers.getD i 0) (pad6 ts)) p = 99 ∨ gI (Aq7 s.doors (s.hampers.getD i 0) (pad6 ts)) p <= 24) := by
 obtain ⟨q0, q1⟩ := Dq8 ok hi
 have h6 := ok.p1
 have hd := Bkv ok q0 q1 ht
 exact ⟨hd.pos p h0 (by omega), hd.small h6 ok.dk (Akr (pl := s.places) ok.dk ht) q0 (by omega) h0 (by omega)⟩
theorem Dxj {s : Sm} (ok : SmOk s) {i b : Nat} {t c : List Int} (h : (i, b, t, c) ∈ allT s) : ∃ ts, Tr s i b ts /\ t = pad6 ts /\ c = Aq7 s.doors (s.hampers.getD i 0) (pad6 ts) := by
 obtain ⟨ts, h1, h2, h3, h4, h5, h6⟩ := Dxi ok h
 refine ⟨ts, ⟨h4, h5, h1, fun n hm => ?_⟩, h2, h3⟩
 have hn := ((Cxs fun n hn => (ok.nk n hn).h1).1 h6).2.2 n hm
 have hk := ok.nk n hm
 subst h3
 unfold Cqc at hn
 rw [hn, Cyi hk.p0 hk.p1]
 rw [decide_eq_decide]
 have := hk.h1
 have := Cvd ok h4 h1 hk.p0 hk.p1
 unfold Byt
 split <;> constructor <;> intro <;> omega
theorem Djr {s : Sm} (ok : SmOk s) : susp s ≠ [] ↔ ∃ i b ts, Tr s i b ts := by
 rw [ne_eq, Dq2]
 constructor
 ·intro h
  obtain ⟨⟨i, b, t, c⟩, hx⟩ := List.exists_mem_of_ne_nil _ h
  obtain ⟨ts, h1, _⟩ := Dxj ok hx
  exact ⟨i, b, ts, h1⟩
 ·rintro ⟨i, b, ts, h⟩
  exact List.ne_nil_of_mem (h.mem ok)
theorem nSusp_tr {s : Sm} (ok : SmOk s) : Azy s ≠ 0 ↔ ∃ i b ts, Tr s i b ts := by
 rw [<- Djr ok, Bqe, ne_eq, List.length_eq_zero_iff]
def Aju := And.intro (fun H => Aqv (H := H) (P := Tryz.prog) (h := Tryz.zeroValue60)) (And.intro @Bqp (And.intro @Cko (And.intro @Ayl (And.intro @Aji (And.intro @Aw8 (fun H => Aqr (H := H) Tryz.sizeOf60))))))
theorem Cwm {a n : Int} (h0 : 0 <= a) (h1 : a < 2 * n) : a.tmod n = if a < n then a else a - n := by
 rw [Int.tmod_eq_emod_of_nonneg h0]
 split
 ·exact Int.emod_eq_of_lt h0 (by omega)
 ·rw [show a = (a - n) + n * 1 by omega, Int.add_mul_emod_self_left, Int.emod_eq_of_lt (by omega) (by omega)]
  omega
theorem Byy (m : Md) (H : Hp) (b k : Nat) (places wide : Int) (h0 : 2 <= places) (h1 : places <= 6) (w0 : 0 <= wide) (w1 : wide <= 10) (hT : TinI H b (k + 4)) :
  FnX Tryz.prog m 43 #[.pointer (some ⟨b, 0, none⟩), .int .i64 places, .int .i64 wide] H fun e H' => ∃ d : Dr, e = .returned (.agg #[.int .i64 d.a, .int .i64 d.b, .int .i64 d.mn, .int .i64 d.mx]) /\ DrOk places d /\ Lex (some b) H H' /\ TinI H' b k := by
 refine Aqo Tryz.func43 rfl Tryz.ntmps43 (by simp) ?_
 (refine @unH _ (zA Aju ?_); (repeat refine inC fun hc => ?_); try refine inK fun K hK => ?_)
 (intro db hdb; generalize hG : Hp.set _ db _ = H1; have lH1 := Aqc hG hdb; have vdb := Aqb hG; clear hG)
 have hT1 := hT.le lH1
 have hne := hT.ne hdb
 ((try refine @unH _ (zX Aju ?_)); (try (refine hK _ _ ?_; clear hK K; try refine @unH _ (zQ ?_))); refine @unH _ (zA Aju ?_); (repeat refine inC fun hc => ?_); try refine inK fun K hK => ?_)
 refine (Bji m H1 b (k + 3) (places - 1) (by omega) hT1).runs.mono ?_
 rintro _ H2 ⟨r, r0, r1, rfl, x2, hT2⟩
 have v2 := x2.keeps vdb hne
 clear vdb hT1
 ((try refine @unH _ (zX Aju ?_)); (try (refine hK _ _ ?_; clear hK K; try refine @unH _ (zQ ?_))); refine @unH _ (zA Aju ?_); (repeat refine inC fun hc => ?_); try refine inK fun K hK => ?_)
 refine (Bz0 m H2 b (k + 2) 1 3 (by omega) (by omega) (by omega) (by omega) hT2).runs.mono ?_
 rintro _ H3 ⟨n, n0, n1, rfl, x3, hT3⟩
 have v3 := x3.keeps v2 hne
 clear v2 hT2
 ((try refine @unH _ (zX Aju ?_)); (try (refine hK _ _ ?_; clear hK K; try refine @unH _ (zQ ?_))); refine @unH _ (zA Aju ?_); (repeat refine inC fun hc => ?_); try refine inK fun K hK => ?_)
 refine Axm (fun HX => True) [] (.free 0 (.free 1 (.free 2 (.free 3 (.free 4 (.free 7 (.free 9 (.free 10 (.free 11 (.free 12 (.one 5 (.free 6 (.free 8 (.one 13 (.free 14 (.free 15 (.free 16 (.free 17 (.one 18 .nil))))))))))))))))))) (by kernel_rfl) (by kernel_rfl) (by decide) (by kernel_rfl) ?_; intro K hK
 refine Ax8 fun ops hOz => ?_
 (iterate 10 (refine @unH _ ?_; refine zF Aju ?_))
 (refine @unH _ ?_; refine zM Aju ?_)
 refine (Bz0 m H3 b (k + 1) 1 (places - 1) (by omega) (by omega) (by omega) (by omega) hT3).runs.mono ?_
 rintro _ H4 ⟨x, q0, q1, rfl, x4, hT4⟩
 have v4 := x4.keeps v3 hne
 clear v3 hT3
 simp -implicitDefEqProofs (disch := omega) only [Azr, Aq3, Aqm]
 refine ⟨.inr fun _ => trivial, ?_⟩
 (iterate 2 (refine @unH _ ?_; refine zF Aju ?_))
 (refine @unH _ ?_; refine zM Aju ?_)
 refine (Bji m H4 b k wide (by omega) hT4).runs.mono ?_
 rintro _ H5 ⟨y, y0, y1, rfl, x5, hT5⟩
 have v5 := x5.keeps v4 hne
 clear v4 hT4
 simp -implicitDefEqProofs (disch := omega) only [Azr, Aq3, Aqm]
 refine ⟨.inr fun _ => trivial, ?_⟩
 (iterate 4 (refine @unH _ ?_; refine zF Aju ?_))
 (refine @unH _ ?_; refine zM Aju ?_)
 refine ⟨.inr fun _ => trivial, ?_⟩
 (refine Ajb (hK _ _ ?_); clear hK K; (try simp only [nq, ↓reduceIte, Nat.reduceEqDiff]))
 (refine Axs ?_; (try simp only [nq, ↓reduceIte, Nat.reduceEqDiff]); rw [Aq5, Ax6 Tryz.results43 (by decide) (b := db) (o := 0) rfl Tryz.underlying60 rfl Tryz.sizeOf60]; simp -implicitDefEqProofs (disch := first | omega | (simp only [qd] <;> omega)) only [xq, ↓xp, qc, Nat.reduceAdd, List.range, List.range.loop, fine, Nat.reduceEqDiff, ↓reduceIte, yielded, reduceCtorEq, Nat.reduceLT, Nat.reduceMul, Nat.reduceSub, one, Nat.reduceLeDiff, Aqj, Aju, Axl, List.extract_toArray])
 refine ⟨⟨r, (r + x).tmod places, n, if n + y < 4 then n + y else 4⟩, rfl, ?_, (((((Lex.of lH1).trans x2).trans x3).trans x4).trans x5).own hdb, hT5.own v5 (Ne.symm hne)⟩
 have e := Cwm (a := r + x) (n := places) (by omega) (by omega)
 generalize (r + x).tmod places = z at e ⊢
 have hz : 0 <= z /\ z < places /\ r ≠ z := by
  rw [e]
  split <;> omega
 refine ⟨r0, by simp only; omega, hz.1, hz.2.1, hz.2.2, n0, ?_, ?_⟩ <;> simp only <;> split <;> omega
end Go.Proofs.YtkenloilljeliaaGreatDoor
end
section
namespace Go.X
open Go
theorem Dq7 {P : Program} {main : Md} {lp : Option Nat} {x : Code} {a : Act} {H : Hp} {Q : Exit -> Act -> Hp -> Prop} (M : Act -> Hp -> Prop) (hx : wpX P main lp x (thn M Q) a H) (hy : ∀ a H, M a H -> Q .normal a H) : wpX P main lp x Q a H :=
 Az4 hx fun e a' H' q => by cases e <;> first | exact hy _ _ q | exact q | exact q.elim
end Go.X
namespace Go.Proofs.YtkenloilljeliaaGreatDoor
open Go Go.X
def Aqy := And.intro (fun H => Aqd (H := H) Tryz.underlying26 (i := 0) rfl (off := 0) rfl Tryz.sizeOf3) (And.intro (fun H => Aqg (H := H) Tryz.underlying3 rfl) (And.intro (fun H => Avq (H := H) Tryz.underlying22 Tryz.sizeOf3 Tryz.zeroValue3 rfl Tryz.typeInfo3 (by decide)) (And.intro (fun H => Aqu (H := H) Tryz.underlying22 Tryz.sizeOf3) (And.intro (fun H => Axh (H := H) Tryz.sizeOf3) (And.intro (fun H => Aqd (H := H) Tryz.underlying26 (i := 1) rfl (off := 1) rfl Tryz.sizeOf23) (And.intro (fun H => Aqg (H := H) Tryz.underlying23 rfl) (And.intro (fun H => Aq6 (H := H) Tryz.underlying23) (And.intro (fun H => Aqu (H := H) Tryz.underlying23 Tryz.sizeOf60) (And.intro (fun H => Aqp (H := H) Tryz.underlying60 rfl Tryz.sizeOf60) (And.intro (fun H => Aqv (H := H) (P := Tryz.prog) (h := Tryz.zeroValue60)) (And.intro (fun H => Aqr (H := H) Tryz.sizeOf60) (And.intro (fun H => Aqd (H := H) Tryz.underlying60 (i := 0) rfl (off := 0) rfl Tryz.sizeOf3) (fun H => Aqd (H := H) Tryz.underlying60 (i := 1) rfl (off := 1) rfl Tryz.sizeOf3)))))))))))))
theorem Dvh {p q : Prop} (g : q) (h : Hid q -> p := by
 intro g
 repeat' (first
 | (refine Ax9 rfl ?_; intro Kz hKz; simp -implicitDefEqProofs (disch := first | omega | (simp only [qd] <;> omega)) only [xq, ↓xp, qc, Nat.reduceAdd, List.range, List.range.loop, fine, Nat.reduceEqDiff, ↓reduceIte, yielded, reduceCtorEq, Nat.reduceLT, Nat.reduceMul, Nat.reduceSub, one, Nat.reduceLeDiff, Aqj, Aqy, aq, ↓ap, qe0, qe1, qe2, *, -g, -hKz, Azf, Int.toNat_natCast, Nat.mul_one, hlc, Aqz]; try (refine hKz _ _ ?_; clear hKz Kz))
 | (refine Ajs rfl ?_; intro Kz hKz; simp -implicitDefEqProofs (disch := first | omega | (simp only [qd] <;> omega)) only [xq, ↓xp, qc, Nat.reduceAdd, List.range, List.range.loop, fine, Nat.reduceEqDiff, ↓reduceIte, yielded, reduceCtorEq, Nat.reduceLT, Nat.reduceMul, Nat.reduceSub, one, Nat.reduceLeDiff, Aqj, Aqy, aq, ↓ap, qe0, qe1, qe2, *, -g, -hKz, Azf, Int.toNat_natCast, Nat.mul_one, hlc, Aqz]; try (refine hKz _ _ ?_; clear hKz Kz; (try simp only [nq, ↓reduceIte, Nat.reduceEqDiff])))
 | (refine Az5 ?_; (try simp only [nq, ↓reduceIte, Nat.reduceEqDiff]))
 | (refine Ajc ?_; (try simp only [nq, ↓reduceIte, Nat.reduceEqDiff]))
 | (refine Aj3 ?_; (try simp only [nq, ↓reduceIte, Nat.reduceEqDiff]))
 | (refine Akf ?_; (try simp only [nq, ↓reduceIte, Nat.reduceEqDiff]))
 | (refine Ajr (by simp only [Axb, Axo, Nat.reduceEqDiff, Nat.reduceLT, ↓reduceIte, *, -g]; rfl) ?_ ?_ <;> (intro hcz; first | (exfalso; simp -implicitDefEqProofs (disch := omega) only [*, -g, bq, reduceCtorEq] at hcz; done) | (simp only [dq, qe3, qe4, qe5, qe6] at hcz) | skip))
 | (refine Ajl ?_)
 | (refine Azi ?_)
 | (refine Axt ?_))
 (try (revert Kz; refine unK ?_)); (repeat (revert hcz; refine unC ?_))
 exact Hid.out g) : Hid p := ⟨h ⟨g⟩⟩
theorem Dvj {p q : Prop} (g : q) (h : Hid q -> p := by
 intro g
 repeat' (first
 | (refine Ax9 rfl ?_; intro Kz hKz; simp -implicitDefEqProofs (disch := first | omega | (simp only [qd] <;> omega)) only [xq, ↓xp, qc, Nat.reduceAdd, List.range, List.range.loop, fine, Nat.reduceEqDiff, ↓reduceIte, yielded, reduceCtorEq, Nat.reduceLT, Nat.reduceMul, Nat.reduceSub, one, Nat.reduceLeDiff, Aqj, Aqy, aq, ↓ap, qe0, qe1, qe2, *, -g, -hKz, Azf, Nat.mul_one, hpl, Aqz]; try (refine hKz _ _ ?_; clear hKz Kz))
 | (refine Ajs rfl ?_; intro Kz hKz; simp -implicitDefEqProofs (disch := first | omega | (simp only [qd] <;> omega)) only [xq, ↓xp, qc, Nat.reduceAdd, List.range, List.range.loop, fine, Nat.reduceEqDiff, ↓reduceIte, yielded, reduceCtorEq, Nat.reduceLT, Nat.reduceMul, Nat.reduceSub, one, Nat.reduceLeDiff, Aqj, Aqy, aq, ↓ap, qe0, qe1, qe2, *, -g, -hKz, Azf, Nat.mul_one, hpl, Aqz]; try (refine hKz _ _ ?_; clear hKz Kz; (try simp only [nq, ↓reduceIte, Nat.reduceEqDiff])))
 | (refine Az5 ?_; (try simp only [nq, ↓reduceIte, Nat.reduceEqDiff]))
 | (refine Ajc ?_; (try simp only [nq, ↓reduceIte, Nat.reduceEqDiff]))
 | (refine Aj3 ?_; (try simp only [nq, ↓reduceIte, Nat.reduceEqDiff]))
 | (refine Akf ?_; (try simp only [nq, ↓reduceIte, Nat.reduceEqDiff]))
 | (refine Ajr (by simp only [Axb, Axo, Nat.reduceEqDiff, Nat.reduceLT, ↓reduceIte, *, -g]; rfl) ?_ ?_ <;> (intro hcz; first | (exfalso; simp -implicitDefEqProofs (disch := omega) only [*, -g, bq, reduceCtorEq] at hcz; done) | (simp only [dq, qe3, qe4, qe5, qe6] at hcz) | skip))
 | (refine Ajl ?_)
 | (refine Azi ?_)
 | (refine Axt ?_))
 (try (revert Kz; refine unK ?_)); (repeat (revert hcz; refine unC ?_))
 exact Hid.out g) : Hid p := ⟨h ⟨g⟩⟩
theorem Cxn {E : Int -> Int -> Int -> Prop} {pl p hr : Int} {c : List Int} (h : Av5 E pl p hr c) {a b t : Int} (hE : E a b t) (ht : 1 <= t) (ha0 : 0 <= a) (ha1 : a < pl) (hb0 : 0 <= b) (hb1 : b < pl) (p0 : 0 <= p) (p1 : p < pl) (hne : a ≠ b) {c' : List Int} (hc : c' = if gI c a + t < gI c b then c.set b.toNat (gI c a + t) else c) :
  Av5 E pl p hr c' /\ sumI c' <= sumI c /\ (gI c a + t < gI c b -> sumI c' < sumI c) /\ gI c' a = gI c a /\ gI c' b = if gI c a + t < gI c b then gI c a + t else gI c b := by
 by_cases hlt : gI c a + t < gI c b
 ·rw [if_pos hlt] at hc
  subst hc
  have hl := h.len
  have hs := Cx7 c b.toNat (gI c a + t) (gI c b) (Awa hb0 (by omega))
  refine ⟨h.one hE ht ha0 ha1 hb0 hb1 p0 p1 hlt, by omega, fun _ => by omega, ?_, ?_⟩
  ·rw [Awb hb0 (by omega) ha0, if_neg (Ne.symm hne)]
  ·rw [Awb hb0 (by omega) hb0, if_pos rfl, if_pos hlt]
 ·rw [if_neg hlt] at hc
  subst hc
  exact ⟨h, Int.le_refl _, fun h => absurd h hlt, rfl, by rw [if_neg hlt]⟩
def Akz (ob : Nat) (H H' : Hp) : Prop := ∀ x u, x ≠ ob -> H x = some u -> H' x = some u
theorem Akz.refl (ob : Nat) (H : Hp) : Akz ob H H := fun _ _ _ h => h
theorem Akz.le {ob : Nat} {H H' H'' : Hp} (h : Akz ob H H') (l : H'.le H'') : Akz ob H H'' := fun x u hx hu => l _ _ (h x u hx hu)
theorem Akz.set {ob : Nat} {H H' : Hp} {o : Obj} (h : Akz ob H H') : Akz ob H (H'.set ob o) := fun x u hx hu => by rw [Aqw hx]; exact h x u hx hu
theorem Akz.base {ob : Nat} {H H2 H' : Hp} (h : Akz ob H2 H') (l : H.le H2) (hn : H ob = none) : H.le H' := fun x u hx => h x u (fun e => by rw [e, hn] at hx; cases hx) (l _ _ hx)
theorem Bv6 (m : Md) (H : Hp) (s : Sm) (dv hv nv : Value) (hs : SmIn H dv hv nv s) (ok : SmOk s) (p hr : Int) (p0 : 0 <= p) (p1 : p < s.places) (h0 : 0 <= hr) (h1 : hr <= 12) (tv : Value) (ts : List Int) (ht : SlI H tv ts) (htk : ts ∈ Ax1 s.doors) :
  FnX Tryz.prog m 46 #[smV s.places dv hv nv, .int .i64 p, .int .i64 hr, tv] H fun e H' => ∃ v, e = .returned v /\ SlI H' v (Av9 s p hr ts) /\ H.le H' := by
 obtain ⟨da, dc, ha, kc, na, nc, rfl, rfl, rfl, l1, l2, l3⟩ := hs.forms
 obtain ⟨ta, tc, rfl, htc, _⟩ := id ht
 have k0 := ok.p0
 have k1 := ok.p1
 have k2 := ok.dl
 refine Aqo Tryz.func46 rfl Tryz.ntmps46 (by simp) ?_
 (refine @unH _ (zA Aqy ?_); (repeat refine inC fun hc => ?_); try refine inK fun K hK => ?_)
 (intro sb hsb; generalize hG : Hp.set _ sb _ = H1; have lH1 := Aqc hG hsb; have vsb := Aqb hG; clear hG)
 have hs1 := hs.le lH1
 have ht1 := ht.le lH1
 have hs0 : SmIn H (.slice da s.doors.length dc) (.slice ha s.hampers.length kc) (.slice na s.noses.length nc) s := hs
 have ht0 : SlI H (.slice ta ts.length tc) ts := ht
 clear hs ht
 obtain ⟨n, hn⟩ : ∃ n : Nat, (n : Int) = s.places := ⟨s.places.toNat, by omega⟩
 rw [<- hn] at vsb ⊢
 have hn6 : n <= 6 := by omega
 replace hn : Aqk _ := hn
 ((try refine @unH _ (zX Aqy ?_)); (try (refine hK _ _ ?_; clear hK K; try refine @unH _ (zQ ?_))); refine @unH _ (zA Aqy ?_); (repeat refine inC fun hc => ?_); try refine inK fun K hK => ?_)
 intro ob hob
 generalize hG : Hp.set H1 ob _ = H2
 have l12 := Aqc hG hob
 have vob := Aqb hG
 clear hG
 have vsb2 := l12 _ _ vsb
 have hs2 := hs1.le l12
 have ht2 := ht1.le l12
 have l02 := Hp.le_trans lH1 l12
 have hbo : sb ≠ ob := fun e => by rw [<- e, vsb] at hob; cases hob
 have hHo : H ob = none := by
  cases hx : H ob with
  | none => rfl
  | some u => have := lH1 _ _ hx; rw [hob] at this; cases this
 clear hs1 ht1 vsb
 ((try refine @unH _ (zX Aqy ?_)); (try (refine hK _ _ ?_; clear hK K; try refine @unH _ (zQ ?_))); refine @unH _ (zA Aqy ?_); (repeat refine inC fun hc => ?_); try refine inK fun K hK => ?_)
 refine Axg (fun w a' H' => ∃ e j c, w = n - j /\ j <= n /\ a' = act 104 e [] /\ e 1 = .int .i64 p /\ e 2 = .int .i64 hr /\ e 3 = .slice ta ts.length tc /\ e 4 = .pointer (some ⟨sb, 0, none⟩) /\ e 9 = .slice (some ⟨ob, 0, none⟩) n n /\ e 10 = .int .i64 (j : Nat) /\
  H' ob = some (true, .cells (ints c).toArray 3 (0, 0)) /\ Akz ob H2 H' /\ (c.length <= n /\ n <= c.length) /\ Aqk (∀ i, i < j -> c[i]? = some 1000)) (n := n) ?_ ?_
 ·refine ⟨_, 0, List.replicate n 0, by omega, by omega, rfl, rfl, rfl, rfl, rfl, rfl, rfl, ?_, Akz.refl _ _, by simp, fun i hi => by omega⟩
  rw [vob]
  simp [ints]
 ·rintro w a' H3 ⟨e, j, c, rfl, hj, rfl, e1, e2, e3, e4, e9, e10, v3, hk, hcl, hcv⟩
  have vsb3 := hk _ _ hbo vsb2
  by_cases hlt : j < n
  ·have hlt' : (j : Int) < n := by omega
   have hlc : j < (ints c).length := by rw [Aqz]; omega
   (refine @unH _ (Dvh ?_); (repeat refine inC fun hc => ?_); try refine inK fun K hK => ?_)
   refine ⟨n - (j + 1), by omega, _, j + 1, c.set j 1000, rfl, hlt, rfl, e1, e2, e3, e4, e9, rfl, Axf, hk.set, by rw [List.length_set]; exact hcl, fun i hi => ?_⟩
   have hcv : ∀ i, i < j -> c[i]? = some 1000 := hcv
   rw [List.getElem?_set]
   by_cases hij : j = i
   ·rw [if_pos hij, if_pos (by omega)]
   ·rw [if_neg hij]
    exact hcv i (by omega)
  ·have hlt' : ¬ (j : Int) < n := by omega
   have hcv : ∀ i, i < j -> c[i]? = some 1000 := hcv
   obtain rfl : c = List.replicate n 1000 := by
    apply List.ext_getElem?
    intro i
    rw [List.getElem?_replicate]
    by_cases hi : i < n
    ·rw [if_pos hi, hcv i (by omega)]
    ·rw [if_neg hi, List.getElem?_eq_none (by omega)]
   clear hcv hcl hj hlt
   have hpn : p < (n : Int) := by have : (n : Int) = s.places := hn; omega
   have hpl : p.toNat < (ints (List.replicate n (1000 : Int))).length := by rw [Aqz, List.length_replicate]; omega
   have hco : Av5 (Edg s.doors ts) s.places p hr ((List.replicate n (1000 : Int)).set p.toNat hr) := by
    have e : n = s.places.toNat := by have : (n : Int) = s.places := hn; omega
    rw [e]
    exact Av5.start _ p0 p1 h1
   (refine @unH _ (Dvj ?_); (repeat refine inC fun hc => ?_); try refine inK fun K hK => ?_)
   generalize hG : Hp.set H3 ob _ = H4
   have v4 : H4 ob = some (true, .cells (ints ((List.replicate n (1000 : Int)).set p.toNat hr)).toArray 3 (0, 0)) := by rw [<- hG, Axf]
   have hk4 : Akz ob H2 H4 := by rw [<- hG]; exact hk.set
   clear hG hk v3 vsb3
   generalize (List.replicate n (1000 : Int)).set p.toNat hr = c0 at v4 hco
   refine ⟨by rw [List.length_replicate]; omega, ?_⟩
   refine hK _ _ ?_
   clear hK K hcv hpl e10
   (try refine @unH _ (zQ ?_))
   (refine @unH _ (zA Aqy ?_); (repeat refine inC fun hc => ?_); try refine inK fun K hK => ?_)
   refine Axg (fun w a' H' => ∃ e fl c, w = (sumI c).toNat + (if fl then 1 else 0) /\ a' = act 104 e [] /\ e 3 = .slice ta ts.length tc /\ e 4 = .pointer (some ⟨sb, 0, none⟩) /\ e 9 = .slice (some ⟨ob, 0, none⟩) n n /\ e 11 = .bool fl /\
    H' ob = some (true, .cells (ints c).toArray 3 (0, 0)) /\ Akz ob H2 H' /\ Av5 (Edg s.doors ts) s.places p hr c /\ Aqk (fl = false -> ∀ (i : Nat) (d : Dr) (t : Int), s.doors[i]? = some d -> ts[i]? = some t -> gI c d.b <= gI c d.a + t /\ gI c d.a <= gI c d.b + t)) (n := (sumI c0).toNat + 1) ?_ ?_
   ·exact ⟨_, true, c0, rfl, rfl, e3, e4, e9, rfl, v4, hk4, hco, fun h => by cases h⟩
   clear v4 hk4 hco e1 e2 e3 e4 e9
   rintro w a' H5 ⟨e, fl, c, rfl, rfl, e3, e4, e9, e11, v5, hk5, hco5, hst⟩
   cases fl with
   | false =>
    (refine @unH _ (zA Aqy ?_); (repeat refine inC fun hc => ?_); try refine inK fun K hK => ?_)
    (refine @unH _ ?_; refine z9 Tryz.results46 ?_)
    have hst : ∀ (i : Nat) (d : Dr) (t : Int), s.doors[i]? = some d -> ts[i]? = some t -> gI c d.b <= gI c d.a + t /\ gI c d.a <= gI c d.b + t := (show false = false -> _ from hst) rfl
    have hce : c = Av9 s p hr ts := hco5.is ok htk h0 h1 p0 p1 fun a b t he => by
     obtain ⟨i, d, g1, g2, g3⟩ := he.ix
     have := hst i d t g1 g2
     rcases g3 with ⟨rfl, rfl⟩ | ⟨rfl, rfl⟩
     ·exact this.1
     ·exact this.2
    refine ⟨_, rfl, ?_, hk5.base l02 hHo⟩
    rw [<- hce]
    have hcl : n = c.length := by have := hco5.len; have : (n : Int) = s.places := hn; omega
    exact Bxx v5 rfl hcl
   | true =>
    clear hst
    (refine @unH _ (zA Aqy ?_); (repeat refine inC fun hc => ?_); try refine inK fun K hK => ?_)
    refine Axg (fun w a' H' => ∃ e i fl c', w = s.doors.length - i /\ i <= s.doors.length /\ a' = act 104 e [] /\ e 3 = .slice ta ts.length tc /\ e 4 = .pointer (some ⟨sb, 0, none⟩) /\ e 9 = .slice (some ⟨ob, 0, none⟩) n n /\ e 11 = .bool fl /\ e 12 = .int .i64 (i : Nat) /\
     H' ob = some (true, .cells (ints c').toArray 3 (0, 0)) /\ Akz ob H2 H' /\ Av5 (Edg s.doors ts) s.places p hr c' /\ Aqk (fl = true -> sumI c' < sumI c) /\ Aqk (fl = false -> c' = c /\ ∀ (j : Nat) (d : Dr) (t : Int), j < i -> s.doors[j]? = some d -> ts[j]? = some t -> gI c d.b <= gI c d.a + t /\ gI c d.a <= gI c d.b + t)) (n := s.doors.length) ?_ ?_
    ·exact ⟨_, 0, false, c, rfl, by omega, rfl, e3, e4, e9, rfl, rfl, v5, hk5, hco5, fun h => (by cases h), fun _ => ⟨rfl, fun _ _ _ h => by omega⟩⟩
    clear v5 hk5 e3 e4 e9 e11
    rintro w a' H6 ⟨e, i, fl, c6, rfl, hi, rfl, e3, e4, e9, e11, e12, v6, hk6, hco6, ht6, hf6⟩
    have l06 := hk6.base l02 hHo
    have vsb6 := hk6 _ _ hbo vsb2
    by_cases hlt : i < s.doors.length
    ·have hkd := List.getElem?_eq_getElem hlt
     have hdk := ok.dk _ (List.mem_of_getElem? hkd)
     have hil : i < ts.length := by rw [Avi htk]; exact hlt
     have hkt := List.getElem?_eq_getElem hil
     have hEd := Edg.of hkd hkt
     have ht1 := ((Aki (pl := s.places) ok.dk).1 htk).2 i _ _ hkd hkt
     have hlt' : (i : Int) < s.doors.length := by omega
     obtain ⟨db, dof, dp, dcl, dfr, rfl, hdb2, hdsz, hdrl, hdext⟩ := SlG.get (hs0.le l06).dd (i := i) (r := Bjd s.doors[i]) (by rw [List.getElem?_map, hkd]; rfl)
     obtain ⟨xb, xo, xc, bown, xcl, xfr, hve, _, hxb0, hxx⟩ := ht0.cons (fun h => absurd (congrArg List.length h) (by simp only [List.length_nil]; omega))
     cases hve
     have hxb := l06 _ _ hxb0
     have hbx : xb ≠ ob := fun e => by rw [e, hHo] at hxb0; cases hxb0
     clear hxb0
     have hxi := hxx i ts[i] hkt
     clear hxx
     replace hkd : Aqk _ := hkd
     replace hkt : Aqk _ := hkt
     generalize s.doors[i] = d at *
     generalize ts[i] = t at *
     unfold Bjd at hdext
     have ha0 := hdk.a0
     have ha1 := hdk.a1
     have hb0 := hdk.b0
     have hb1 := hdk.b1
     have hn' : (n : Int) = s.places := hn
     have han : d.a < (n : Int) := by omega
     have hbn : d.b < (n : Int) := by omega
     have hxa : (ints c6).toArray[d.a.toNat]? = some (.int .i64 (gI c6 d.a)) := by
      have hg := Awa (c := c6) ha0 (by rw [hco6.len]; omega)
      simpa using Akb hg
     have hxb2 : (ints c6).toArray[d.b.toNat]? = some (.int .i64 (gI c6 d.b)) := by
      have hg := Awa (c := c6) hb0 (by rw [hco6.len]; omega)
      simpa using Akb hg
     clear hn' hdrl
     have t1 : 1 <= t /\ t <= 4 := by have := hdk.m0; have := hdk.m2; omega
     have bA := hco6.le ha0 ha1
     have bA' := hco6.pos d.a ha0 ha1
     have bB := hco6.le hb0 hb1
     have bB' := hco6.pos d.b hb0 hb1
     generalize hA : gI c6 d.a = A at *
     generalize hB : gI c6 d.b = B at *
     replace hA : Aqk _ := hA
     replace hB : Aqk _ := hB
     replace ht1 : Aqk _ := ht1
     generalize hCC : (ints c6).toArray = CC at *
     replace hCC : Aqk _ := hCC
     (refine @unH _ (zA Aqy ?_); (repeat refine inC fun hc => ?_); try refine inK fun K hK => ?_)
     (intro tb htb; generalize hG : Hp.set _ tb _ = H7; have lH7 := Aqc hG htb; have vtb := Aqb hG; clear hG)
     have v7 := lH7 _ _ v6
     have xb7 := lH7 _ _ hxb
     have hk7 := hk6.le lH7
     have hbt : tb ≠ ob := fun e => by rw [e, v6] at htb; cases htb
     clear lH7 v6 hxb hk6 hdb2 hdsz hdext l06 vsb6 htb
     refine hK _ _ ?_
     clear hK K
     (try refine @unH _ (zQ ?_))
     have hCs : CC.size = n := by
      have h1 : (ints c6).toArray = CC := hCC
      have h2 : (n : Int) = s.places := hn
      rw [<- h1, List.size_toArray, Aqz, hco6.len]
      omega
     have ha' : d.a.toNat < CC.size := by omega
     have hb' : d.b.toNat < CC.size := by omega
     have c7e : ∃ c7 : List Int, Aqk (c7 = if A + t < B then c6.set d.b.toNat (A + t) else c6) := ⟨_, rfl⟩
     obtain ⟨c7, hc7⟩ := c7e
     have hq1 : ∀ o, Hp.cell H7 ⟨ob, o, none⟩ = CC[o]? := fun o => cell_of v7
     have hq2 : ∀ o, Hp.cell H7 ⟨tb, o, none⟩ = (#[.int .i64 d.a, .int .i64 d.b, .int .i64 d.mn, .int .i64 d.mx] : Array Value)[o]? := fun o => cell_of vtb
     have hq3 : ∀ o, Hp.cell H7 ⟨xb, o, none⟩ = xcl[o]? := fun o => cell_of xb7
     refine Avw (fun a' H' => ∃ e, a' = act 104 e [] /\ e 3 = .slice (some ⟨xb, xo, none⟩) ts.length tc /\ e 4 = .pointer (some ⟨sb, 0, none⟩) /\ e 9 = .slice (some ⟨ob, 0, none⟩) n n /\ e 11 = .bool (if A + t < B then true else fl) /\ e 12 = .int .i64 (i : Nat) /\ e 13 = .pointer (some ⟨tb, 0, none⟩) /\
      H' ob = some (true, .cells (ints c7).toArray 3 (0, 0)) /\ Akz ob H7 H') ?_ ?_
     ·refine Axt ?_
      refine Axm (fun HX => HX = H7) [] (.free 0 (.free 1 (.take 2 (.free 3 (.take 4 (.free 5 (.free 6 (.free 7 (.take 8 (.free 9 (.free 10 (.free 11 (.take 12 (.free 13 (.take 14 (.free 15 .nil)))))))))))))))) (by kernel_rfl) (by kernel_rfl) (by decide) (by kernel_rfl) ?_; intro K hK
      refine Ax8 fun ops hOz => ?_
      (iterate 2 (refine @unH _ ?_; refine zF Aqy ?_))
      (refine @unH _ ?_; refine zL (And.intro Aqy @exists_eq_left'.{1}) ?_)
      (refine @unH _ ?_; refine zF Aqy ?_)
      (refine @unH _ ?_; refine zL (And.intro Aqy @exists_eq_left'.{1}) ?_)
      (iterate 3 (refine @unH _ ?_; refine zF Aqy ?_))
      (refine @unH _ ?_; refine zL (And.intro Aqy @exists_eq_left'.{1}) ?_)
      (iterate 3 (refine @unH _ ?_; refine zF Aqy ?_))
      (refine @unH _ ?_; refine zL (And.intro Aqy @exists_eq_left'.{1}) ?_)
      (refine @unH _ ?_; refine zF Aqy ?_)
      (refine @unH _ ?_; refine zL (And.intro Aqy @exists_eq_left'.{1}) ?_)
      (refine @unH _ ?_; refine zF Aqy ?_)
      (refine Ajb (hK _ _ ?_); clear hK K; (try simp only [nq, ↓reduceIte, Nat.reduceEqDiff]))
      by_cases hAB : A + t < B
      ·(refine @unH _ (zA Aqy ?_); (repeat refine inC fun hc => ?_); try refine inK fun K hK => ?_)
       refine Axm (fun HX => HX = H7) [14] (.free 0 (.free 1 (.take 2 (.free 3 (.free 4 (.take 5 (.free 6 (.take 7 (.free 8 (.free 9 (.free 10 (.take 11 (.free 12 (.free 13 (.one 14 (.free 15 .nil)))))))))))))))) (by kernel_rfl) (by kernel_rfl) (by decide) (by kernel_rfl) ?_; intro K hK
       refine Ax8 fun ops hOz => ?_
       (iterate 2 (refine @unH _ ?_; refine zF Aqy ?_))
       (refine @unH _ ?_; refine zL (And.intro Aqy @exists_eq_left'.{1}) ?_)
       (iterate 2 (refine @unH _ ?_; refine zF Aqy ?_))
       (refine @unH _ ?_; refine zL (And.intro Aqy @exists_eq_left'.{1}) ?_)
       (refine @unH _ ?_; refine zF Aqy ?_)
       (refine @unH _ ?_; refine zL (And.intro Aqy @exists_eq_left'.{1}) ?_)
       (iterate 3 (refine @unH _ ?_; refine zF Aqy ?_))
       (refine @unH _ ?_; refine zL (And.intro Aqy @exists_eq_left'.{1}) ?_)
       (iterate 2 (refine @unH _ ?_; refine zF Aqy ?_))
       (refine @unH _ ?_; refine zM (And.intro Aqy @exists_eq_left'.{1}) ?_)
       refine ⟨.inl (by decide), ?_⟩
       (refine @unH _ ?_; refine zF Aqy ?_)
       (refine Ajb (hK _ _ ?_); clear hK K; (try simp only [nq, ↓reduceIte, Nat.reduceEqDiff]))
       have hp7 : CC.setIfInBounds d.b.toNat (.int .i64 (A + t)) = (ints c7).toArray := by
        rw [show c7 = _ from hc7, if_pos hAB, <- show (ints c6).toArray = CC from hCC, Bxt]
       rw [hp7]
       exact ⟨_, rfl, e3, e4, e9, by rw [if_pos hAB]; rfl, e12, rfl, Axf, (Akz.refl _ _).set⟩
      ·(refine @unH _ (zA Aqy ?_); (repeat refine inC fun hc => ?_); try refine inK fun K hK => ?_)
       have hp7 : CC = (ints c7).toArray := by
        rw [show c7 = _ from hc7, if_neg hAB, <- show (ints c6).toArray = CC from hCC]
       exact ⟨_, rfl, e3, e4, e9, by rw [if_neg hAB]; exact e11, e12, rfl, by rw [v7, hp7], Akz.refl _ _⟩
     ·clear e3 e4 e9 e11 e12 hq1 hq2 hq3
      rintro a H8 ⟨e, rfl, e3, e4, e9, e11, e12, e13, v8, hk78⟩
      obtain ⟨hco7, hs7, ht7, hA7, hB7⟩ := Cxn hco6 hEd t1.1 ha0 ha1 hb0 hb1 p0 p1 hdk.ne (c' := c7) (by rw [show gI c6 d.a = A from hA, show gI c6 d.b = B from hB]; exact hc7)
      rw [show gI c6 d.a = A from hA, show gI c6 d.b = B from hB] at ht7 hB7
      rw [show gI c6 d.a = A from hA] at hA7
      have hcl7 := hco7.len
      have hn' : (n : Int) = s.places := hn
      have hxa : (ints c7).toArray[d.a.toNat]? = some (.int .i64 (gI c7 d.a)) := by
       have hg := Awa (c := c7) ha0 (by omega)
       simpa using Akb hg
      have hxb2 : (ints c7).toArray[d.b.toNat]? = some (.int .i64 (gI c7 d.b)) := by
       have hg := Awa (c := c7) hb0 (by omega)
       simpa using Akb hg
      have hCs : (ints c7).toArray.size = n := by rw [List.size_toArray, Aqz]; omega
      clear hn'
      have vtb8 := hk78 _ _ hbt vtb
      have xb8 := hk78 _ _ hbx xb7
      have hk8 : Akz ob H2 H8 := fun x u hx hu => hk78 x u hx (hk7 x u hx hu)
      clear hk7 hk78 vtb xb7 v7 hbt
      replace hA7 : Aqk _ := hA7
      replace hB7 : Aqk _ := hB7
      replace hc7 : Aqk _ := hc7
      replace hs7 : Aqk _ := hs7
      replace ht7 : Aqk _ := ht7
      generalize hAg : gI c7 d.a = A7 at *
      generalize hBg : gI c7 d.b = B7 at *
      have bA := hco7.le ha0 ha1
      have bA' := hco7.pos d.a ha0 ha1
      have bB := hco7.le hb0 hb1
      have bB' := hco7.pos d.b hb0 hb1
      rw [hAg] at bA bA'
      rw [hBg] at bB bB'
      replace hAg : Aqk _ := hAg
      replace hBg : Aqk _ := hBg
      clear hCC hcl7
      generalize hCC7 : (ints c7).toArray = C7 at *
      replace hCC7 : Aqk _ := hCC7
      have ha' : d.a.toNat < C7.size := by omega
      have hb' : d.b.toNat < C7.size := by omega
      have hq1 : ∀ o, Hp.cell H8 ⟨ob, o, none⟩ = C7[o]? := fun o => cell_of v8
      have hq2 : ∀ o, Hp.cell H8 ⟨tb, o, none⟩ = (#[.int .i64 d.a, .int .i64 d.b, .int .i64 d.mn, .int .i64 d.mx] : Array Value)[o]? := fun o => cell_of vtb8
      have hq3 : ∀ o, Hp.cell H8 ⟨xb, o, none⟩ = xcl[o]? := fun o => cell_of xb8
      obtain ⟨c8, hc8⟩ : ∃ c8 : List Int, Aqk (c8 = if B7 + t < A7 then c7.set d.a.toNat (B7 + t) else c7) := ⟨_, rfl⟩
      refine Dq7 (fun a' H' => ∃ e, a' = act 104 e [] /\ e 3 = .slice (some ⟨xb, xo, none⟩) ts.length tc /\ e 4 = .pointer (some ⟨sb, 0, none⟩) /\ e 9 = .slice (some ⟨ob, 0, none⟩) n n /\ e 11 = .bool (if B7 + t < A7 then true else (if A + t < B then true else fl)) /\ e 12 = .int .i64 (i : Nat) /\
       H' ob = some (true, .cells (ints c8).toArray 3 (0, 0)) /\ Akz ob H8 H') ?_ ?_
      ·refine Axt ?_
       refine Axm (fun HX => HX = H8) [] (.free 0 (.free 1 (.take 2 (.free 3 (.take 4 (.free 5 (.free 6 (.free 7 (.take 8 (.free 9 (.free 10 (.free 11 (.take 12 (.free 13 (.take 14 (.free 15 .nil)))))))))))))))) (by kernel_rfl) (by kernel_rfl) (by decide) (by kernel_rfl) ?_; intro K hK
       refine Ax8 fun ops hOz => ?_
       (iterate 2 (refine @unH _ ?_; refine zF Aqy ?_))
       (refine @unH _ ?_; refine zL (And.intro Aqy @exists_eq_left'.{1}) ?_)
       (refine @unH _ ?_; refine zF Aqy ?_)
       (refine @unH _ ?_; refine zL (And.intro Aqy @exists_eq_left'.{1}) ?_)
       (iterate 3 (refine @unH _ ?_; refine zF Aqy ?_))
       (refine @unH _ ?_; refine zL (And.intro Aqy @exists_eq_left'.{1}) ?_)
       (iterate 3 (refine @unH _ ?_; refine zF Aqy ?_))
       (refine @unH _ ?_; refine zL (And.intro Aqy @exists_eq_left'.{1}) ?_)
       (refine @unH _ ?_; refine zF Aqy ?_)
       (refine @unH _ ?_; refine zL (And.intro Aqy @exists_eq_left'.{1}) ?_)
       (refine @unH _ ?_; refine zF Aqy ?_)
       (refine Ajb (hK _ _ ?_); clear hK K; (try simp only [nq, ↓reduceIte, Nat.reduceEqDiff]))
       by_cases hBA : B7 + t < A7
       ·(refine @unH _ (zA Aqy ?_); (repeat refine inC fun hc => ?_); try refine inK fun K hK => ?_)
        refine Axm (fun HX => HX = H8) [14] (.free 0 (.free 1 (.take 2 (.free 3 (.free 4 (.take 5 (.free 6 (.take 7 (.free 8 (.free 9 (.free 10 (.take 11 (.free 12 (.free 13 (.one 14 (.free 15 .nil)))))))))))))))) (by kernel_rfl) (by kernel_rfl) (by decide) (by kernel_rfl) ?_; intro K hK
        refine Ax8 fun ops hOz => ?_
        (iterate 2 (refine @unH _ ?_; refine zF Aqy ?_))
        (refine @unH _ ?_; refine zL (And.intro Aqy @exists_eq_left'.{1}) ?_)
        (iterate 2 (refine @unH _ ?_; refine zF Aqy ?_))
        (refine @unH _ ?_; refine zL (And.intro Aqy @exists_eq_left'.{1}) ?_)
        (refine @unH _ ?_; refine zF Aqy ?_)
        (refine @unH _ ?_; refine zL (And.intro Aqy @exists_eq_left'.{1}) ?_)
        (iterate 3 (refine @unH _ ?_; refine zF Aqy ?_))
        (refine @unH _ ?_; refine zL (And.intro Aqy @exists_eq_left'.{1}) ?_)
        (iterate 2 (refine @unH _ ?_; refine zF Aqy ?_))
        (refine @unH _ ?_; refine zM (And.intro Aqy @exists_eq_left'.{1}) ?_)
        refine ⟨.inl (by decide), ?_⟩
        (refine @unH _ ?_; refine zF Aqy ?_)
        (refine Ajb (hK _ _ ?_); clear hK K; (try simp only [nq, ↓reduceIte, Nat.reduceEqDiff]))
        have hp8 : C7.setIfInBounds d.a.toNat (.int .i64 (B7 + t)) = (ints c8).toArray := by
         rw [show c8 = _ from hc8, if_pos hBA, <- show (ints c7).toArray = C7 from hCC7, Bxt]
        rw [hp8]
        exact ⟨_, rfl, e3, e4, e9, by rw [if_pos hBA]; rfl, e12, Axf, (Akz.refl _ _).set⟩
       ·(refine @unH _ (zA Aqy ?_); (repeat refine inC fun hc => ?_); try refine inK fun K hK => ?_)
        have hp8 : C7 = (ints c8).toArray := by
         rw [show c8 = _ from hc8, if_neg hBA, <- show (ints c7).toArray = C7 from hCC7]
        exact ⟨_, rfl, e3, e4, e9, by rw [if_neg hBA]; exact e11, e12, by rw [v8, hp8], Akz.refl _ _⟩
      ·clear e3 e4 e9 e11 e12 e13 hq1 hq2 hq3
       rintro a H9 ⟨e, rfl, e3, e4, e9, e11, e12, v9, hk89⟩
       clear hxa hxb2 ha' hb' hCs hCC7 v8 vtb8 xb8
       (try refine @unH _ (zQ ?_))
       (refine @unH _ (zA Aqy ?_); (repeat refine inC fun hc => ?_); try refine inK fun K hK => ?_)
       obtain ⟨hco8, hs8, ht8, _, _⟩ := Cxn hco7 hEd.symm t1.1 hb0 hb1 ha0 ha1 p0 p1 (Ne.symm hdk.ne) (c' := c8) (by rw [show gI c7 d.a = A7 from hAg, show gI c7 d.b = B7 from hBg]; exact hc8)
       rw [show gI c7 d.a = A7 from hAg, show gI c7 d.b = B7 from hBg] at ht8
       have hs7 : sumI c7 <= sumI c6 := hs7
       have ht7 : A + t < B -> sumI c7 < sumI c6 := ht7
       have ht6 : fl = true -> sumI c6 < sumI c := ht6
       have hf6 : fl = false -> c6 = c /\ ∀ (j : Nat) (d : Dr) (t : Int), j < i -> s.doors[j]? = some d -> ts[j]? = some t -> gI c d.b <= gI c d.a + t /\ gI c d.a <= gI c d.b + t := hf6
       have h6c : sumI c6 <= sumI c := by
        cases fl with
        | true => exact Int.le_of_lt (ht6 rfl)
        | false => rw [(hf6 rfl).1]; exact Int.le_refl _
       refine ⟨s.doors.length - (i + 1), by omega, _, i + 1, if B7 + t < A7 then true else (if A + t < B then true else fl), c8, rfl, hlt, rfl, e3, e4, e9, e11, rfl, v9, fun x u hx hu => hk89 x u hx (hk8 x u hx hu), hco8, fun hfl => ?_, fun hfl => ?_⟩
       ·by_cases h1 : B7 + t < A7
        ·have := ht8 h1; omega
        ·rw [if_neg h1] at hfl
         by_cases h2 : A + t < B
         ·have := ht7 h2; omega
         ·rw [if_neg h2] at hfl
          have := ht6 hfl
          omega
       ·by_cases h1 : B7 + t < A7
        ·rw [if_pos h1] at hfl; cases hfl
        ·rw [if_neg h1] at hfl
         by_cases h2 : A + t < B
         ·rw [if_pos h2] at hfl; cases hfl
         ·rw [if_neg h2] at hfl
          obtain ⟨g1, g2⟩ := hf6 hfl
          have e8 : c8 = c7 := by rw [show c8 = _ from hc8, if_neg h1]
          have e7 : c7 = c6 := by rw [show c7 = _ from hc7, if_neg h2]
          refine ⟨by rw [e8, e7, g1], fun j d' t' hj hd' ht' => ?_⟩
          by_cases hji : j < i
          ·exact g2 j d' t' hji hd' ht'
          ·obtain rfl : j = i := by omega
           have hkd : s.doors[j]? = some d := hkd
           have hkt : ts[j]? = some t := hkt
           rw [hkd] at hd'
           rw [hkt] at ht'
           cases hd'
           cases ht'
           have q1 : gI c6 d.a = A := hA
           have q2 : gI c6 d.b = B := hB
           have q3 : gI c7 d.a = A7 := hAg
           have q4 : gI c7 d.b = B7 := hBg
           rw [e7, g1] at q3 q4
           rw [g1] at q1 q2
           omega
    ·have hlt' : ¬ (i : Int) < s.doors.length := by omega
     (refine @unH _ (zA Aqy ?_); (repeat refine inC fun hc => ?_); try refine inK fun K hK => ?_)
     have ht6 : fl = true -> sumI c6 < sumI c := ht6
     have hf6 : fl = false -> c6 = c /\ ∀ (j : Nat) (d : Dr) (t : Int), j < i -> s.doors[j]? = some d -> ts[j]? = some t -> gI c d.b <= gI c d.a + t /\ gI c d.a <= gI c d.b + t := hf6
     have hsum := hco6.sum h0
     refine ⟨(sumI c6).toNat + (if fl then 1 else 0), ?_, _, fl, c6, rfl, rfl, e3, e4, e9, e11, v6, hk6, hco6, fun hfl j d t hd ht => ?_⟩
     ·cases fl with
      | true => have := ht6 rfl; simp only [if_true]; omega
      | false => rw [(hf6 rfl).1]; simp
     ·obtain ⟨g1, g2⟩ := hf6 hfl
      rw [g1]
      exact g2 j d t (by have := (List.getElem?_eq_some_iff.1 hd).1; omega) hd ht
end Go.Proofs.YtkenloilljeliaaGreatDoor
end
