/- Texts SomeOf Numb Reverse FirstOf Changed Least Fewest Slowest HaulC Rides DrivenS Eval Driven. -/
import Derived.Test.YtofmadjgbcopdaaGreatDoorJ09
section
set_option linter.unusedSimpArgs false
set_option maxRecDepth 100000
set_option maxHeartbeats 1000000
set_option linter.unusedVariables false
namespace Go.Proofs.YtofmadjgbcopdaaGreatDoor
open Go Go.X
set_option linter.defProp false
def y90_74 := And.intro (fun H => ex_alloc (H := H) (P := Tryz.prog) (h := Tryz.zeroValue192)) (And.intro (fun H => storeAt_map (H := H) Tryz.sizeOf192) (And.intro (fun H => ex_alloc (H := H) (P := Tryz.prog) (h := Tryz.zeroValue193)) (And.intro (fun H => storeAt_func (H := H) Tryz.sizeOf193) (And.intro (fun H => storeAt_nilFunc (H := H) Tryz.sizeOf193) (And.intro @callF116 (And.intro @bld_195_0_1_0 (And.intro (fun H => ex_alloc (H := H) (P := Tryz.prog) (h := Tryz.zeroValue195)) (And.intro (fun H => storeAt_agg (H := H) Tryz.sizeOf195) (And.intro (fun H => loadAt_one (H := H) Tryz.underlying193 rfl) (And.intro (fun H => loadAt_aggE (H := H) Tryz.underlying195 rfl Tryz.sizeOf195) (And.intro (fun H => loadAt_one (H := H) Tryz.underlying192 rfl) (And.intro (fun H => fieldAt_eq (H := H) Tryz.underlying195 (i := 0) rfl (off := 0) rfl Tryz.sizeOf145) (fun H => loadAt_aggE (H := H) Tryz.underlying145 rfl Tryz.sizeOf145)))))))))))))
theorem z0_74 {p q : Prop} (g : q) (h : Hid q → p := by
  intro g
  repeat' (first
  | (refine wpX_stmtL rfl ?_; intro Kz hKz; simp -implicitDefEqProofs (disch := first | omega | (simp only [qd] <;> omega)) only [xq, ↓xp, qc, Nat.reduceAdd, List.range, List.range.loop, fine, Nat.reduceEqDiff, ↓reduceIte, yielded, reduceCtorEq, Nat.reduceLT, Nat.reduceMul, Nat.reduceSub, one, Nat.reduceLeDiff, runX_cons, y90_74, aq, ↓ap, qe0, qe1, qe2, *, -g, -hKz, ex_range, ex_next, ex_entry, bi_delete, bi_clear, bin_neq_arr Tryz.underlying145 Tryz.underlying3 Tryz.sizeOf3]; try (refine hKz _ _ ?_; clear hKz Kz))
  | (refine wpX_lastL rfl ?_; intro Kz hKz; simp -implicitDefEqProofs (disch := first | omega | (simp only [qd] <;> omega)) only [xq, ↓xp, qc, Nat.reduceAdd, List.range, List.range.loop, fine, Nat.reduceEqDiff, ↓reduceIte, yielded, reduceCtorEq, Nat.reduceLT, Nat.reduceMul, Nat.reduceSub, one, Nat.reduceLeDiff, runX_cons, y90_74, aq, ↓ap, qe0, qe1, qe2, *, -g, -hKz, ex_range, ex_next, ex_entry, bi_delete, bi_clear, bin_neq_arr Tryz.underlying145 Tryz.underlying3 Tryz.sizeOf3]; try (refine hKz _ _ ?_; clear hKz Kz; (try simp only [nq, ↓reduceIte, Nat.reduceEqDiff])))
  | (refine wpX_skip ?_; (try simp only [nq, ↓reduceIte, Nat.reduceEqDiff]))
  | (refine wpX_label ?_; (try simp only [nq, ↓reduceIte, Nat.reduceEqDiff]))
  | (refine wpX_exit ?_; (try simp only [nq, ↓reduceIte, Nat.reduceEqDiff]))
  | (refine wpX_goto ?_; (try simp only [nq, ↓reduceIte, Nat.reduceEqDiff]))
  | (refine wpX_condK (by simp only [act_eval, upd_get, Nat.reduceEqDiff, Nat.reduceLT, ↓reduceIte, *, -g]; rfl) ?_ ?_ <;> (intro hcz; first | (exfalso; simp -implicitDefEqProofs (disch := omega) only [*, -g, bq, reduceCtorEq] at hcz; done) | (simp only [dq, qe3, qe4, qe5, qe6] at hcz) | skip))
  | (refine wpX_scope0 ?_)
  | (refine wpX_block ?_)
  | (refine wpX_seq ?_))
  (try (revert Kz; refine unK ?_)); (repeat (revert hcz; refine unC ?_))
  exact Hid.out g) : Hid p := ⟨h ⟨g⟩⟩
theorem x1_74 {p q : Prop} (g : q) (h : Hid q → p := by
  intro g
  simp -implicitDefEqProofs (disch := first | omega | (simp only [qd] <;> omega)) only [xq, ↓xp, qc, Nat.reduceAdd, List.range, List.range.loop, fine, Nat.reduceEqDiff, ↓reduceIte, yielded, reduceCtorEq, Nat.reduceLT, Nat.reduceMul, Nat.reduceSub, one, Nat.reduceLeDiff, runX_cons, y90_74, aq, ↓ap, qe0, qe1, qe2, *, -g, -hK, ex_range, ex_next, ex_entry, bi_delete, bi_clear, bin_neq_arr Tryz.underlying145 Tryz.underlying3 Tryz.sizeOf3]
  exact Hid.out g) : Hid p := ⟨h ⟨g⟩⟩
theorem z2_74 {p q : Prop} (g : q) (h : Hid q → p := by
  intro g
  repeat' (first
  | (refine wpX_stmtL rfl ?_; intro Kz hKz; simp -implicitDefEqProofs (disch := first | omega | (simp only [qd] <;> omega)) only [xq, ↓xp, qc, Nat.reduceAdd, List.range, List.range.loop, fine, Nat.reduceEqDiff, ↓reduceIte, yielded, reduceCtorEq, Nat.reduceLT, Nat.reduceMul, Nat.reduceSub, one, Nat.reduceLeDiff, runX_cons, y90_74, aq, ↓ap, qe0, qe1, qe2, *, -g, -hKz, ex_range, ex_next, ex_entry, ex_builtin, bi_delete, bi_clear, bin_neq_arr Tryz.underlying145 Tryz.underlying3 Tryz.sizeOf3]; try (refine hKz _ _ ?_; clear hKz Kz))
  | (refine wpX_lastL rfl ?_; intro Kz hKz; simp -implicitDefEqProofs (disch := first | omega | (simp only [qd] <;> omega)) only [xq, ↓xp, qc, Nat.reduceAdd, List.range, List.range.loop, fine, Nat.reduceEqDiff, ↓reduceIte, yielded, reduceCtorEq, Nat.reduceLT, Nat.reduceMul, Nat.reduceSub, one, Nat.reduceLeDiff, runX_cons, y90_74, aq, ↓ap, qe0, qe1, qe2, *, -g, -hKz, ex_range, ex_next, ex_entry, ex_builtin, bi_delete, bi_clear, bin_neq_arr Tryz.underlying145 Tryz.underlying3 Tryz.sizeOf3]; try (refine hKz _ _ ?_; clear hKz Kz; (try simp only [nq, ↓reduceIte, Nat.reduceEqDiff])))
  | (refine wpX_skip ?_; (try simp only [nq, ↓reduceIte, Nat.reduceEqDiff]))
  | (refine wpX_label ?_; (try simp only [nq, ↓reduceIte, Nat.reduceEqDiff]))
  | (refine wpX_exit ?_; (try simp only [nq, ↓reduceIte, Nat.reduceEqDiff]))
  | (refine wpX_goto ?_; (try simp only [nq, ↓reduceIte, Nat.reduceEqDiff]))
  | (refine wpX_condK (by simp only [act_eval, upd_get, Nat.reduceEqDiff, Nat.reduceLT, ↓reduceIte, *, -g]; rfl) ?_ ?_ <;> (intro hcz; first | (exfalso; simp -implicitDefEqProofs (disch := omega) only [*, -g, bq, reduceCtorEq] at hcz; done) | (simp only [dq, qe3, qe4, qe5, qe6] at hcz) | skip))
  | (refine wpX_scope0 ?_)
  | (refine wpX_block ?_)
  | (refine wpX_seq ?_))
  (try (revert Kz; refine unK ?_)); (repeat (revert hcz; refine unC ?_))
  exact Hid.out g) : Hid p := ⟨h ⟨g⟩⟩
theorem x3_74 {p q : Prop} (g : q) (h : Hid q → p := by
  intro g
  simp -implicitDefEqProofs (disch := first | omega | (simp only [qd] <;> omega)) only [xq, ↓xp, qc, Nat.reduceAdd, List.range, List.range.loop, fine, Nat.reduceEqDiff, ↓reduceIte, yielded, reduceCtorEq, Nat.reduceLT, Nat.reduceMul, Nat.reduceSub, one, Nat.reduceLeDiff, runX_cons, y90_74, aq, ↓ap, qe0, qe1, qe2, *, -g, -hK, ex_range, ex_next, ex_entry, ex_builtin, bi_delete, bi_clear, bin_neq_arr Tryz.underlying145 Tryz.underlying3 Tryz.sizeOf3]
  exact Hid.out g) : Hid p := ⟨h ⟨g⟩⟩
def SameV (a b : Value) : Prop := a = b
theorem some_spec (main : Md) (H : Hp) (hb : Nat) (n : HN) (v : HV) (jv : Value) (js : List Int) (hh : HaulAt H hb n v jv js) (l1 : 1 ≤ n.load) (l3 : n.load ≤ 3) (mi : Int) (h1' : 1 ≤ mi) (h20 : mi ≤ 20) (hN : js.length ≤ 1000) :
    FnX Tryz.prog main 90 #[.pointer (some ⟨hb, 0, none⟩), .int .i64 mi] H fun e H' => e = .returned (.bool (goodF n js mi n.load.toNat js.length bs0 0)) ∧ H.le H' := by
  generalize hg : goodF n js mi n.load.toNat js.length bs0 0 = g
  replace hg : SameB (goodF n js mi n.load.toNat js.length [-1048576, -1048576, -1048576, -1048576] 0) g := hg
  refine FnX_start Tryz.func90 rfl Tryz.ntmps90 (by simp) ?_
  (refine @Hid.out _ ?_; refine zA y90_74 ?_; (repeat (refine inC ?_; intro hc)); try (refine inK ?_; intro K hK))
  intro hx hhx cx hcx
  replace hcx : (Hp.set H hx _) cx = none := hcx
  generalize hG : Hp.set H hx _ = H1 at hcx ⊢
  have lH1 := le_of_set hG hhx
  have vh1 := at_of_set hG
  clear hG
  generalize hG : Hp.set H1 cx _ = H2
  have lH2 := le_of_set hG hcx
  have vc2 := at_of_set hG
  clear hG
  have vh2 := lH2 _ _ vh1
  have l02 := Hp.le_trans lH1 lH2
  clear vh1 hcx hhx
  ((try (refine @Hid.out _ ?_; refine zX y90_74 ?_)); (try (refine hK _ _ ?_; clear hK K; (try simp only [nq, ↓reduceIte, Nat.reduceEqDiff]))); refine @Hid.out _ ?_; refine zA y90_74 ?_; (repeat (refine inC ?_; intro hc)); try (refine inK ?_; intro K hK))
  intro mb hmb mx hmx
  replace hmx : (Hp.set H2 mb _) mx = none := hmx
  have hmb0 : H mb = none := Hp.le_none l02 hmb
  generalize hG : Hp.set H2 mb _ = H3 at hmx ⊢
  have lH3 := le_of_set hG hmb
  have vm3 := at_of_set hG
  clear hG
  generalize hG : Hp.set H3 mx _ = H4
  have lH4 := le_of_set hG hmx
  have vx4 := at_of_set hG
  clear hG
  have vm4 := lH4 _ _ vm3
  have l24 := Hp.le_trans lH3 lH4
  have vh4 := l24 _ _ vh2
  have vc4 := l24 _ _ vc2
  have l04 := Hp.le_trans l02 l24
  clear vm3 hmx hmb lH1 lH2 lH3 lH4 l02 l24 vh2 vc2
  ((try (refine @Hid.out _ ?_; refine zX y90_74 ?_)); (try (refine hK _ _ ?_; clear hK K; (try simp only [nq, ↓reduceIte, Nat.reduceEqDiff]))); refine @Hid.out _ ?_; refine zA y90_74 ?_; (repeat (refine inC ?_; intro hc)); try (refine inK ?_; intro K hK))
  (intro fx hfx; generalize hG : Hp.set _ fx _ = H5; have lH5 := le_of_set hG hfx; have vfx := at_of_set hG; clear hG)
  have vm5 := lH5 _ _ vm4
  have vh5 := lH5 _ _ vh4
  have vc5 := lH5 _ _ vc4
  have vx5 := lH5 _ _ vx4
  have h0fx : H4 fx = none := hfx
  have nfm : fx ≠ mb := (ne_new vm4 hfx).symm
  have nfh : fx ≠ hx := (ne_new vh4 hfx).symm
  have nfc : fx ≠ cx := (ne_new vc4 hfx).symm
  have nfx : fx ≠ mx := (ne_new vx4 hfx).symm
  clear vm4 vh4 vc4 vx4
  ((try (refine @Hid.out _ ?_; refine zX y90_74 ?_)); (try (refine hK _ _ ?_; clear hK K; (try simp only [nq, ↓reduceIte, Nat.reduceEqDiff]))); refine @Hid.out _ ?_; refine zA y90_74 ?_; (repeat (refine inC ?_; intro hc)); try (refine inK ?_; intro K hK))
  refine ⟨by decide, ?_⟩
  rw [show Value.nilFunc.cells.setIfInBounds 0 (.func (.func 135) #[] #[.pointer (some ⟨hx, 0, none⟩), .pointer (some ⟨mx, 0, none⟩), .pointer (some ⟨cx, 0, none⟩), .pointer (some ⟨fx, 0, none⟩)]) = #[.func (.func 135) #[] #[.pointer (some ⟨hx, 0, none⟩), .pointer (some ⟨mx, 0, none⟩), .pointer (some ⟨cx, 0, none⟩), .pointer (some ⟨fx, 0, none⟩)]] from rfl]
  have vf6 : (Hp.set H5 fx (.cells #[.func (.func 135) #[] #[.pointer (some ⟨hx, 0, none⟩), .pointer (some ⟨mx, 0, none⟩), .pointer (some ⟨cx, 0, none⟩), .pointer (some ⟨fx, 0, none⟩)]] 193 (0, 0))) fx = _ := set_at
  have l46 : H4.le (Hp.set H5 fx (.cells #[.func (.func 135) #[] #[.pointer (some ⟨hx, 0, none⟩), .pointer (some ⟨mx, 0, none⟩), .pointer (some ⟨cx, 0, none⟩), .pointer (some ⟨fx, 0, none⟩)]] 193 (0, 0))) := ((Lex.of lH5 : Lex none H4 H5).own h0fx).toLe
  have vm6 : (Hp.set H5 fx (.cells #[.func (.func 135) #[] #[.pointer (some ⟨hx, 0, none⟩), .pointer (some ⟨mx, 0, none⟩), .pointer (some ⟨cx, 0, none⟩), .pointer (some ⟨fx, 0, none⟩)]] 193 (0, 0))) mb = _ := (set_ne nfm.symm).trans vm5
  have vh6 : (Hp.set H5 fx (.cells #[.func (.func 135) #[] #[.pointer (some ⟨hx, 0, none⟩), .pointer (some ⟨mx, 0, none⟩), .pointer (some ⟨cx, 0, none⟩), .pointer (some ⟨fx, 0, none⟩)]] 193 (0, 0))) hx = _ := (set_ne nfh.symm).trans vh5
  have vc6 : (Hp.set H5 fx (.cells #[.func (.func 135) #[] #[.pointer (some ⟨hx, 0, none⟩), .pointer (some ⟨mx, 0, none⟩), .pointer (some ⟨cx, 0, none⟩), .pointer (some ⟨fx, 0, none⟩)]] 193 (0, 0))) cx = _ := (set_ne nfc.symm).trans vc5
  have vx6 : (Hp.set H5 fx (.cells #[.func (.func 135) #[] #[.pointer (some ⟨hx, 0, none⟩), .pointer (some ⟨mx, 0, none⟩), .pointer (some ⟨cx, 0, none⟩), .pointer (some ⟨fx, 0, none⟩)]] 193 (0, 0))) mx = _ := (set_ne nfx.symm).trans vx5
  generalize Hp.set H5 fx (.cells #[.func (.func 135) #[] #[.pointer (some ⟨hx, 0, none⟩), .pointer (some ⟨mx, 0, none⟩), .pointer (some ⟨cx, 0, none⟩), .pointer (some ⟨fx, 0, none⟩)]] 193 (0, 0)) = H6 at *
  have l06 := Hp.le_trans l04 l46
  clear vm5 vh5 vc5 vx5 vfx nfm nfh nfc nfx h0fx hfx lH5 l46 l04
  ((try (refine @Hid.out _ ?_; refine zX y90_74 ?_)); (try (refine hK _ _ ?_; clear hK K; (try simp only [nq, ↓reduceIte, Nat.reduceEqDiff]))); refine @Hid.out _ ?_; refine zA y90_74 ?_; (repeat (refine inC ?_; intro hc)); try (refine inK ?_; intro K hK))
  refine (resting_spec main H6).runs.mono ?_
  rintro _ H7 ⟨rfl, lH7⟩
  have hr4 : ints (List.replicate 4 (-1048576)) = [.int .i64 (-1048576), .int .i64 (-1048576), .int .i64 (-1048576), .int .i64 (-1048576)] := rfl
  rw [hr4]
  clear hr4
  have vm7 := lH7 _ _ vm6
  have vh7 := lH7 _ _ vh6
  have vc7 := lH7 _ _ vc6
  have vx7 := lH7 _ _ vx6
  have vf7 := lH7 _ _ vf6
  have l07 := Hp.le_trans l06 lH7
  clear vm6 vh6 vc6 vx6 vf6 l06 lH7
  ((try (refine @Hid.out _ ?_; refine zX y90_74 ?_)); (try (refine hK _ _ ?_; clear hK K; (try simp only [nq, ↓reduceIte, Nat.reduceEqDiff]))); refine @Hid.out _ ?_; refine zA y90_74 ?_; (repeat (refine inC ?_; intro hc)); try (refine inK ?_; intro K hK))
  (intro yb hyb; generalize hG : Hp.set _ yb _ = H8; have lH8 := le_of_set hG hyb; have vyb := at_of_set hG; clear hG)
  have vm8 := lH8 _ _ vm7
  have vh8 := lH8 _ _ vh7
  have vc8 := lH8 _ _ vc7
  have vx8 := lH8 _ _ vx7
  have vf8 := lH8 _ _ vf7
  have l08 := Hp.le_trans l07 lH8
  have nym : yb ≠ mb := (ne_new vm7 hyb).symm
  have nxm : mx ≠ mb := fun h => by rw [h, vm8] at vx8; cases vx8
  have nfm : fx ≠ mb := fun h => by rw [h, vm8] at vf8; cases vf8
  clear vm7 vh7 vc7 vx7 vf7 l07 lH8 hyb
  have hfrom := someFrom_spec main hb n v jv js l1 l3 mi h1' h20 hx mx cx fx mb hN js.length (-1048576) (-1048576) (-1048576) (-1048576) 0 H8 (by omega) (by omega) (fun x hx => by simp at hx; omega) (hh.le l08) vh8 vx8 vc8 vf8 ⟨#[], 0, vm8, fun e he => by cases he⟩
  rw [show ((0 : Nat) : Int) = 0 from rfl] at hfrom
  rw [show goodF n js mi n.load.toNat js.length [-1048576, -1048576, -1048576, -1048576] 0 = g from hg] at hfrom
  clear hg
  ((try (refine @Hid.out _ ?_; refine zX y90_74 ?_)); (try (refine hK _ _ ?_; clear hK K; (try simp only [nq, ↓reduceIte, Nat.reduceEqDiff]))); refine @Hid.out _ ?_; refine zA y90_74 ?_; (repeat (refine inC ?_; intro hc)); try (refine inK ?_; intro K hK))
  rw [callF135, uponX_enterK]
  simp only [Array.empty_append, List.append_toArray, List.cons_append, List.nil_append, Array.toList_append]
  refine hfrom.runs.mono ?_
  rintro _ H9 ⟨rfl, lx9, hkn9⟩
  clear hfrom vh8 vc8 vm8
  have vx9 := lx9.keeps vx8 nxm
  have vf9 := lx9.keeps vf8 nfm
  have vyb9 := lx9.keeps vyb nym
  have l09 : H.le H9 := fun x u hx => lx9.keeps (l08 _ _ hx) (fun h => by rw [h, hmb0] at hx; cases hx)
  clear lx9 l08 vx8 vf8 vyb
  obtain ⟨es, clock, hmb9, hmap9⟩ := hkn9
  (try simp -implicitDefEqProofs (disch := first | omega | (simp only [qd] <;> omega)) only [xq, ↓xp, qc, Nat.reduceAdd, List.range, List.range.loop, fine, Nat.reduceEqDiff, ↓reduceIte, yielded, reduceCtorEq, Nat.reduceLT, Nat.reduceMul, Nat.reduceSub, one, Nat.reduceLeDiff, runX_cons, y90_74, aq, ↓ap, qe0, qe1, qe2, *, -hK])
  refine hK _ _ ?_
  clear hK K
  (refine @Hid.out _ ?_; refine z0_74 ?_; (repeat (refine inC ?_; intro hc)); try (refine inK ?_; intro K hK))
  refine rangeG Tryz.underlying192 hmb9 _ _ (fun rb hrb => ?_)
  have nrm : rb ≠ mb := fun h => by rw [h, hmb9] at hrb; cases hrb
  have nrx : rb ≠ mx := fun h => by rw [h, vx9] at hrb; cases hrb
  have nry : rb ≠ yb := fun h => by rw [h, vyb9] at hrb; cases hrb
  have h0rb : H rb = none := Hp.le_none l09 hrb
  have vm0 : (Hp.set H9 rb (.mapIter (some mb) clock #[] clock)) mb = _ := (set_ne nrm.symm).trans hmb9
  have vx0 : (Hp.set H9 rb (.mapIter (some mb) clock #[] clock)) mx = _ := (set_ne nrx.symm).trans vx9
  have vy0 : (Hp.set H9 rb (.mapIter (some mb) clock #[] clock)) yb = _ := (set_ne nry.symm).trans vyb9
  have vr0 : (Hp.set H9 rb (.mapIter (some mb) clock #[] clock)) rb = _ := set_at
  have l0 : H.le (Hp.set H9 rb (.mapIter (some mb) clock #[] clock)) := ((Lex.of l09 : Lex none H H9).own h0rb).toLe
  generalize Hp.set H9 rb (.mapIter (some mb) clock #[] clock) = H10 at *
  clear hrb hmb9 vx9 vyb9 l09 vf9
  ((try (refine @Hid.out _ ?_; refine x1_74 ?_)); (try (refine hK _ _ ?_; clear hK K; (try simp only [nq, ↓reduceIte, Nat.reduceEqDiff]))); refine @Hid.out _ ?_; refine z0_74 ?_; (repeat (refine inC ?_; intro hc)); try (refine inK ?_; intro K hK))
  refine wpX_loop (fun w a' H' => ∃ e es' seen, w = unseen es' seen ∧ a' = act 32 e [] ∧ e 5 = .pointer (some ⟨mx, 0, none⟩) ∧ e 7 = .pointer (some ⟨yb, 0, none⟩) ∧ e 8 = .bool g ∧ e 18 = .pointer (some ⟨rb, 0, none⟩) ∧
    H.le H' ∧ H' mb = some (true, .map es' clock) ∧ MapG K5.enc (fun _ => True) (goodK n js mi) clock es'.toList ∧ H' rb = some (true, .mapIter (some mb) clock seen clock) ∧
    H' mx = some (true, .cells #[.map (some mb)] 192 (0, 0)) ∧ H' yb = some (true, .cells #[.int .i64 (-1048576), .int .i64 (-1048576), .int .i64 (-1048576), .int .i64 (-1048576), .int .i64 0] 195 (0, 0))) (n := unseen es #[]) ?_ ?_
  · exact ⟨_, es, #[], rfl, rfl, rfl, rfl, rfl, rfl, l0, vm0, hmap9, vr0, vx0, vy0⟩
  · clear l0 vm0 hmap9 vr0 vx0 vy0
    rintro w a' H1 ⟨e, es1, seen, rfl, rfl, e5, e7, e8, e18, l1', vm1, hmap1, vr1, vx1, vy1⟩
    refine wpX_stmtL rfl ?_; intro K hK
    simp -implicitDefEqProofs (disch := first | omega | (simp only [qd] <;> omega)) only [xq, ↓xp, qc, Nat.reduceAdd, List.range, List.range.loop, fine, Nat.reduceEqDiff, ↓reduceIte, yielded, reduceCtorEq, Nat.reduceLT, Nat.reduceMul, Nat.reduceSub, one, Nat.reduceLeDiff, runX_cons, y90_74, aq, ↓ap, qe0, qe1, qe2, *, -hK, ex_range, ex_next, ex_entry, ex_builtin, bi_delete, bi_clear, bin_neq_arr Tryz.underlying145 Tryz.underlying3 Tryz.sizeOf3]
    refine nextG vr1 vm1 hmap1 rfl _ _ ?_ (fun k seen' _ hlt hent => ?_)
    · ((try (refine @Hid.out _ ?_; refine x3_74 ?_)); (try (refine hK _ _ ?_; clear hK K; (try simp only [nq, ↓reduceIte, Nat.reduceEqDiff]))); refine @Hid.out _ ?_; refine z2_74 ?_; (repeat (refine inC ?_; intro hc)); try (refine inK ?_; intro K hK))
      refine clearG (ats := #[192]) Tryz.underlying192 rfl vm1 _ _ ?_
      have l2 : H.le (Hp.set H1 mb (.map #[] clock)) := ((Lex.of l1' : Lex none H H1).own hmb0).toLe
      generalize Hp.set H1 mb (.map #[] clock) = H2 at *
      clear vm1 hmap1 vr1 vx1 vy1 l1'
      ((try (refine @Hid.out _ ?_; refine x3_74 ?_)); (try (refine hK _ _ ?_; clear hK K; (try simp only [nq, ↓reduceIte, Nat.reduceEqDiff]))); refine @Hid.out _ ?_; refine z2_74 ?_; (repeat (refine inC ?_; intro hc)); try (refine inK ?_; intro K hK))
      (refine wpX_ret ?_; (try simp only [nq, ↓reduceIte, Nat.reduceEqDiff]); rw [bodyX_ret, results_one Tryz.results90 (by decide)]; simp only [upd_get, Nat.reduceEqDiff, ↓reduceIte])
      exact ⟨by trivial, l2⟩
    · have vr2 : (Hp.set H1 rb (.mapIter (some mb) clock seen' clock)) rb = _ := set_at
      have vm2 : (Hp.set H1 rb (.mapIter (some mb) clock seen' clock)) mb = _ := (set_ne nrm.symm).trans vm1
      have vx2 : (Hp.set H1 rb (.mapIter (some mb) clock seen' clock)) mx = _ := (set_ne nrx.symm).trans vx1
      have vy2 : (Hp.set H1 rb (.mapIter (some mb) clock seen' clock)) yb = _ := (set_ne nry.symm).trans vy1
      have l2 : H.le (Hp.set H1 rb (.mapIter (some mb) clock seen' clock)) := ((Lex.of l1' : Lex none H H1).own h0rb).toLe
      generalize Hp.set H1 rb (.mapIter (some mb) clock seen' clock) = H2 at *
      clear vm1 vr1 vx1 vy1 l1'
      generalize goodK n js mi k = gv
      generalize K5.enc k = kv
      ((try (refine @Hid.out _ ?_; refine x3_74 ?_)); (try (refine hK _ _ ?_; clear hK K; (try simp only [nq, ↓reduceIte, Nat.reduceEqDiff]))); refine @Hid.out _ ?_; refine z2_74 ?_; (repeat (refine inC ?_; intro hc)); try (refine inK ?_; intro K hK))
      refine entryG vr2 vm2 hmap1 hent _ _ (fun k1 _ => ?_)
      obtain ⟨k0, k1', k2, k3, k4, hk1⟩ := k1.cells
      have he : K5.enc k1 = .agg #[.int .i64 k0, .int .i64 k1', .int .i64 k2, .int .i64 k3, .int .i64 k4] := by simp [K5.enc, hk1]
      have he' : SameV (K5.enc k1) (.agg #[.int .i64 k0, .int .i64 k1', .int .i64 k2, .int .i64 k3, .int .i64 k4]) := he
      rw [he]
      generalize goodK n js mi k1 = gv1
      clear he hk1 hent
      ((try (refine @Hid.out _ ?_; refine x3_74 ?_)); (try (refine hK _ _ ?_; clear hK K; (try simp only [nq, ↓reduceIte, Nat.reduceEqDiff]))); refine @Hid.out _ ?_; refine z2_74 ?_; (repeat (refine inC ?_; intro hc)); try (refine inK ?_; intro K hK))
      (intro ub hub; generalize hG : Hp.set _ ub _ = H3; have lH3 := le_of_set hG hub; have vub := at_of_set hG; clear hG)
      have l3' := Hp.le_trans l2 lH3
      have vm3 := lH3 _ _ vm2
      have vr3 := lH3 _ _ vr2
      have vx3 := lH3 _ _ vx2
      have vy3 := lH3 _ _ vy2
      have h0ub : H ub = none := Hp.le_none l2 hub
      have num : ub ≠ mb := (ne_new vm2 hub).symm
      have nur : ub ≠ rb := (ne_new vr2 hub).symm
      have nux : ub ≠ mx := (ne_new vx2 hub).symm
      have nuy : ub ≠ yb := (ne_new vy2 hub).symm
      clear vm2 vr2 vx2 vy2 hub l2
      (try simp -implicitDefEqProofs (disch := first | omega | (simp only [qd] <;> omega)) only [xq, ↓xp, qc, Nat.reduceAdd, List.range, List.range.loop, fine, Nat.reduceEqDiff, ↓reduceIte, yielded, reduceCtorEq, Nat.reduceLT, Nat.reduceMul, Nat.reduceSub, one, Nat.reduceLeDiff, runX_cons, y90_74, aq, ↓ap, qe0, qe1, qe2, *, -hK, ex_range, ex_next, ex_entry, ex_builtin, bi_delete, bi_clear, bin_neq_arr Tryz.underlying145 Tryz.underlying3 Tryz.sizeOf3]); try (refine hK _ _ ?_; clear hK K; (try simp only [nq, ↓reduceIte, Nat.reduceEqDiff])); repeat' (first
  | (refine wpX_stmtL rfl ?_; intro K hK; simp -implicitDefEqProofs (disch := first | omega | (simp only [qd] <;> omega)) only [xq, ↓xp, qc, Nat.reduceAdd, List.range, List.range.loop, fine, Nat.reduceEqDiff, ↓reduceIte, yielded, reduceCtorEq, Nat.reduceLT, Nat.reduceMul, Nat.reduceSub, one, Nat.reduceLeDiff, runX_cons, y90_74, aq, ↓ap, qe0, qe1, qe2, *, -hK, ex_range, ex_next, ex_entry, ex_builtin, bi_delete, bi_clear, bin_neq_arr Tryz.underlying145 Tryz.underlying3 Tryz.sizeOf3]; try (refine hK _ _ ?_; clear hK K))
  | (refine wpX_lastL rfl ?_; intro K hK; simp -implicitDefEqProofs (disch := first | omega | (simp only [qd] <;> omega)) only [xq, ↓xp, qc, Nat.reduceAdd, List.range, List.range.loop, fine, Nat.reduceEqDiff, ↓reduceIte, yielded, reduceCtorEq, Nat.reduceLT, Nat.reduceMul, Nat.reduceSub, one, Nat.reduceLeDiff, runX_cons, y90_74, aq, ↓ap, qe0, qe1, qe2, *, -hK, ex_range, ex_next, ex_entry, ex_builtin, bi_delete, bi_clear, bin_neq_arr Tryz.underlying145 Tryz.underlying3 Tryz.sizeOf3]; try (refine hK _ _ ?_; clear hK K; (try simp only [nq, ↓reduceIte, Nat.reduceEqDiff])))
  | (refine wpX_skip ?_; (try simp only [nq, ↓reduceIte, Nat.reduceEqDiff]))
  | (refine wpX_label ?_; (try simp only [nq, ↓reduceIte, Nat.reduceEqDiff]))
  | (refine wpX_exit ?_; (try simp only [nq, ↓reduceIte, Nat.reduceEqDiff]))
  | (refine wpX_goto ?_; (try simp only [nq, ↓reduceIte, Nat.reduceEqDiff]))
  | (refine wpX_condK (by simp only [act_eval, upd_get, Nat.reduceEqDiff, Nat.reduceLT, ↓reduceIte, *]; rfl) ?_ ?_ <;> (intro hc; first | (exfalso; simp -implicitDefEqProofs (disch := omega) only [*, bq, reduceCtorEq] at hc; done) | (simp only [dq, qe3, qe4, qe5, qe6] at hc) | skip))
  | (refine wpX_scope0 ?_)
  | (refine wpX_block ?_)
  | (refine wpX_seq ?_))
      · rw [show (.agg #[.int .i64 k0, .int .i64 k1', .int .i64 k2, .int .i64 k3, .int .i64 k4] : Value) = K5.enc k1 from he'.symm]
        refine deleteG (ats := #[192, 195]) Tryz.underlying192 key5S k1 rfl vm3 hmap1 _ _ (fun es2 hsz hm2 => ?_)
        have nmr : mb ≠ rb := nrm.symm
        have v1 : (Hp.set H3 mb (.map es2 clock)) mb = _ := set_at
        have v2 : (Hp.set H3 mb (.map es2 clock)) rb = _ := (set_ne nrm).trans vr3
        have v3 : (Hp.set H3 mb (.map es2 clock)) mx = _ := (set_ne nxm).trans vx3
        have v4 : (Hp.set H3 mb (.map es2 clock)) yb = _ := (set_ne nym).trans vy3
        have l4 : H.le (Hp.set H3 mb (.map es2 clock)) := ((Lex.of l3' : Lex none H H3).own hmb0).toLe
        generalize Hp.set H3 mb (.map es2 clock) = H4' at *
        have hsz' := hsz seen'
        clear hsz vm3 vr3 vx3 vy3 l3' vub
        ((try (refine @Hid.out _ ?_; refine x3_74 ?_)); (try (refine hK _ _ ?_; clear hK K; (try simp only [nq, ↓reduceIte, Nat.reduceEqDiff]))); refine @Hid.out _ ?_; refine z2_74 ?_; (repeat (refine inC ?_; intro hc)); try (refine inK ?_; intro K hK))
        exact ⟨_, by omega, _, es2, seen', rfl, rfl, e5, e7, e8, e18, l4, v1, hm2, v2, v3, v4⟩
      · exact ⟨_, hlt, _, es1, seen', rfl, rfl, e5, e7, e8, e18, l3', vm3, hmap1, vr3, vx3, vy3⟩
end Go.Proofs.YtofmadjgbcopdaaGreatDoor
end
section
set_option linter.unusedSimpArgs false
set_option maxRecDepth 100000
set_option maxHeartbeats 1000000
set_option linter.unusedVariables false
namespace Go.Proofs.YtofmadjgbcopdaaGreatDoor
open Go Go.X
set_option linter.defProp false
def y91_75 := @lit_22_1_0_0
def numsL (lo : Int) (k : Nat) : List Int := (List.range k).map fun i : Nat => lo + i
theorem numsL_succ (lo : Int) (k : Nat) : numsL lo (k + 1) = numsL lo k ++ [lo + k] := by simp [numsL, List.range_succ]
theorem numsL_len (lo : Int) (k : Nat) : (numsL lo k).length = k := by simp [numsL]
theorem numbers_spec (main : Md) (H : Hp) (lo hi : Int) (k : Nat) (hk : hi = lo + k - 1) (h0 : 0 ≤ lo ∧ lo ≤ 100) (hk1 : k ≤ 100) :
    FnX Tryz.prog main 91 #[.int .i64 lo, .int .i64 hi] H fun e H' => ∃ v, e = .returned v ∧ RowX none H H' v 3 (ints (numsL lo k)) := by
  have hd : hi - lo + 1 = k := by omega
  refine FnX_start Tryz.func91 rfl Tryz.ntmps91 (by simp) ?_
  (refine @Hid.out _ ?_; refine zA y91_75 ?_; (repeat (refine inC ?_; intro hc)); try (refine inK ?_; intro K hK))
  refine wpX_loop (fun w a' H' => ∃ e j lv, w = k - j ∧ j ≤ k ∧ a' = act 22 e [] ∧ e 0 = .int .i64 lo ∧ e 5 = lv ∧ e 10 = .int .i64 (k : Nat) ∧ e 11 = .int .i64 (j : Nat) ∧ RowX none H H' lv 3 (ints (numsL lo j))) (n := k) ?_ ?_
  · refine ⟨_, 0, .slice none 0 0, rfl, by omega, rfl, rfl, rfl, ?_, rfl, RowX.nil⟩
    show Value.int .i64 _ = _
    congr 1
    omega
  · rintro w a' H1 ⟨e, j, lv, rfl, hj, rfl, e0, e5, e10, e11, hlv⟩
    obtain ⟨la, lc, rfl⟩ := hlv.len
    by_cases hlt : j < k
    · (refine @Hid.out _ ?_; refine zA y91_75 ?_; (repeat (refine inC ?_; intro hc)); try (refine inK ?_; intro K hK))
      intro g hg
      refine append_i hlv hg (by rw [numsL_len]; omega) _ _ _ _ ?_
      intro v' H7 hr7 ho7
      ((try (refine @Hid.out _ ?_; refine zX y91_75 ?_)); (try (refine hK _ _ ?_; clear hK K; (try simp only [nq, ↓reduceIte, Nat.reduceEqDiff]))); refine @Hid.out _ ?_; refine zA y91_75 ?_; (repeat (refine inC ?_; intro hc)); try (refine inK ?_; intro K hK))
      exact ⟨_, by omega, _, j + 1, v', rfl, hlt, rfl, e0, rfl, e10, rfl, by rw [numsL_succ]; exact hr7⟩
    · obtain rfl : j = k := by omega
      (refine @Hid.out _ ?_; refine zA y91_75 ?_; (repeat (refine inC ?_; intro hc)); try (refine inK ?_; intro K hK))
      (refine wpX_ret ?_; (try simp only [nq, ↓reduceIte, Nat.reduceEqDiff]); rw [bodyX_ret, results_one Tryz.results91 (by decide)]; simp only [upd_get, Nat.reduceEqDiff, ↓reduceIte])
      exact ⟨_, rfl, hlv⟩
end Go.Proofs.YtofmadjgbcopdaaGreatDoor
end
section
set_option linter.unusedSimpArgs false
set_option maxRecDepth 100000
set_option maxHeartbeats 1000000
set_option linter.unusedVariables false
namespace Go.Proofs.YtofmadjgbcopdaaGreatDoor
open Go Go.X
set_option linter.defProp false
def y92_76 := And.intro (fun H => len_slice (H := H) Tryz.underlying22) (And.intro (fun H => indexAt_slice (H := H) Tryz.underlying22 Tryz.sizeOf3) (And.intro (fun H => loadAt_one (H := H) Tryz.underlying3 rfl) (fun H => storeAt_int (H := H) Tryz.sizeOf3)))
def SameP (p : Prop) : Prop := p
def RevAt (xs : List Int) (c : Array Value) (i j : Nat) : Prop := ∀ k, k < xs.length → c[k]? = if k < i ∨ j < k then (ints xs)[xs.length - 1 - k]? else (ints xs)[k]?
theorem rev_step {xs : List Int} {c : Array Value} {i j : Nat} (hr : RevAt xs c i j) (hij : i + j + 1 = xs.length) (hlt : i < j) (hi : i < c.size) (hj : j < c.size) :
    RevAt xs ((c.setIfInBounds i (.int .i64 (xs.getD j 0))).setIfInBounds j (.int .i64 (xs.getD i 0))) (i + 1) (j - 1) := fun k hk => by
  have hg : ∀ k, k < xs.length → (ints xs)[k]? = some (.int .i64 (xs.getD k 0)) := fun k hk => by simp [ints, List.getD, List.getElem?_eq_getElem hk]
  have hrk := hr k hk
  rw [Array.getElem?_setIfInBounds, Array.getElem?_setIfInBounds]
  by_cases hkj : j = k
  · subst hkj
    rw [if_pos rfl, if_pos (by simpa using hj), if_pos (by omega), show xs.length - 1 - j = i by omega, hg i (by omega)]
  · rw [if_neg hkj]
    by_cases hki : i = k
    · subst hki
      rw [if_pos rfl, if_pos hi, if_pos (by omega), show xs.length - 1 - i = j by omega, hg j (by omega)]
    · rw [if_neg hki, hrk]
      by_cases h : k < i ∨ j < k
      · rw [if_pos h, if_pos (by omega)]
      · rw [if_neg h, if_neg (by omega)]
theorem reverse_spec (main : Md) (H : Hp) (xs : List Int) (b cap : Nat) (c : Array Value) (hb : H b = some (true, .cells c 3 (0, 0))) (hn : 1 ≤ xs.length) (hl : xs.length ≤ 1000) (hcs : c.size = cap) (hlc : xs.length ≤ cap) (hget : ∀ (i : Nat) (u : Value), (ints xs)[i]? = some u → c[i]? = some u) :
    FnX Tryz.prog main 92 #[.slice (some ⟨b, 0, none⟩) xs.length cap] H fun e H' => e = .returned (.tuple #[]) ∧ ∃ c', H' = H.set b (.cells c' 3 (0, 0)) ∧ c'.size = cap ∧ ∀ (i : Nat) (u : Value), (ints xs.reverse)[i]? = some u → c'[i]? = some u := by
  have hgi : ∀ k, k < xs.length → (ints xs)[k]? = some (.int .i64 (xs.getD k 0)) := fun k hk => by simp [ints, List.getD, List.getElem?_eq_getElem hk]
  obtain ⟨n, hxn⟩ : ∃ n, xs.length = n + 1 := ⟨xs.length - 1, by omega⟩
  rw [hxn] at hlc hl ⊢
  have h0 : RevAt xs c 0 n := fun k hk => by
    rw [if_neg (by omega), hgi k hk]
    exact hget k _ (hgi k hk)
  refine FnX_start Tryz.func92 rfl Tryz.ntmps92 (by simp) ?_
  (refine @Hid.out _ ?_; refine zA y92_76 ?_; (repeat (refine inC ?_; intro hc)); try (refine inK ?_; intro K hK))
  refine wpX_loop (fun w a' H' => ∃ e i j c', j = w ∧ i + j = n ∧ i ≤ j + 1 ∧ a' = act 28 e [] ∧ e 0 = .slice (some ⟨b, 0, none⟩) (n + 1) cap ∧ e 2 = .int .i64 (i : Nat) ∧ e 3 = .int .i64 (j : Nat) ∧ H' = H.set b (.cells c' 3 (0, 0)) ∧ c'.size = cap ∧ RevAt xs c' i j) (n := n) ?_ ?_
  · refine ⟨_, 0, n, c, rfl, by omega, by omega, rfl, rfl, rfl, ?_, (set_self hb).symm, hcs, h0⟩
    show Value.int .i64 _ = _
    congr 1
    omega
  · clear h0
    rintro w a' H' ⟨e, i, j, c', rfl, hij, hle, rfl, e0, e2, e3, hH, hcs', hr⟩
    have v1 : (H.set b (.cells c' 3 (0, 0))) b = _ := set_at
    generalize hG : H.set b (.cells c' 3 (0, 0)) = H1 at *
    rw [hH]; clear hH H'
    by_cases hlt : i < j
    · have hci : c'[i]? = some (.int .i64 (xs.getD i 0)) := by rw [hr i (by omega), if_neg (by omega), hgi i (by omega)]
      have hcj : c'[j]? = some (.int .i64 (xs.getD j 0)) := by rw [hr j (by omega), if_neg (by omega), hgi j (by omega)]
      have hr' : SameP (RevAt xs ((c'.setIfInBounds i (.int .i64 (xs.getD j 0))).setIfInBounds j (.int .i64 (xs.getD i 0))) (i + 1) (j - 1)) := rev_step hr (by omega) hlt (by omega) (by omega)
      generalize xs.getD i 0 = xi at hci hr'
      generalize xs.getD j 0 = xj at hcj hr'
      have htr : True := trivial
      have his : i < c'.size := by omega
      have hjs : j < c'.size := by omega
      clear hb hget hgi hr
      (refine @Hid.out _ ?_; refine zA y92_76 ?_; (repeat (refine inC ?_; intro hc)); try (refine inK ?_; intro K hK))
      refine wpX_tlast (fun _ => True) (.take 0 (.take 1 (.take 2 (.take 3 (.take 4 (.take 5 (.take 6 (.take 8 (.take 9 (.take 10 (.two 7 (.one 11 (.take 12 (.one 13 (.take 14 (.one 15 .nil))))) 11 (.one 7 (.take 12 (.one 13 (.take 14 (.one 15 .nil)))))))))))))))) (by kernel_rfl) (by kernel_rfl) (by decide) (by kernel_rfl) ?_; intro K hK
      (iterate 10 (apply planT_take rfl rfl rfl ‹_›; (focus (intro HX hHX; simp -implicitDefEqProofs (disch := first | omega | (simp only [qd] <;> omega)) only [xq, ↓xp, qc, Nat.reduceAdd, List.range, List.range.loop, fine, Nat.reduceEqDiff, ↓reduceIte, yielded, reduceCtorEq, Nat.reduceLT, Nat.reduceMul, Nat.reduceSub, one, Nat.reduceLeDiff, runX_cons, y92_76, aq, ↓ap, qe0, qe1, qe2, *, -hK, YN_value] <;> (first | exact rfl | exact ⟨rfl, rfl⟩ | exact ⟨rfl, trivial⟩))); simp -implicitDefEqProofs (disch := first | omega | (simp only [qd] <;> omega)) only [act_put, act_put_none]))
      refine planT_two ?_ ?_
      · simp -implicitDefEqProofs (disch := first | omega | (simp only [qd] <;> omega)) only [xq, ↓xp, qc, Nat.reduceAdd, List.range, List.range.loop, fine, Nat.reduceEqDiff, ↓reduceIte, yielded, reduceCtorEq, Nat.reduceLT, Nat.reduceMul, Nat.reduceSub, one, Nat.reduceLeDiff, runX_cons, y92_76, aq, ↓ap, qe0, qe1, qe2, *, -hK]
        refine planT_one ?_
        simp -implicitDefEqProofs (disch := first | omega | (simp only [qd] <;> omega)) only [xq, ↓xp, qc, Nat.reduceAdd, List.range, List.range.loop, fine, Nat.reduceEqDiff, ↓reduceIte, yielded, reduceCtorEq, Nat.reduceLT, Nat.reduceMul, Nat.reduceSub, one, Nat.reduceLeDiff, runX_cons, y92_76, aq, ↓ap, qe0, qe1, qe2, *, -hK]
        (apply planT_take rfl rfl rfl ‹_›; (focus (intro HX hHX; simp -implicitDefEqProofs (disch := first | omega | (simp only [qd] <;> omega)) only [xq, ↓xp, qc, Nat.reduceAdd, List.range, List.range.loop, fine, Nat.reduceEqDiff, ↓reduceIte, yielded, reduceCtorEq, Nat.reduceLT, Nat.reduceMul, Nat.reduceSub, one, Nat.reduceLeDiff, runX_cons, y92_76, aq, ↓ap, qe0, qe1, qe2, *, -hK, YN_value] <;> (first | exact rfl | exact ⟨rfl, rfl⟩ | exact ⟨rfl, trivial⟩))); simp -implicitDefEqProofs (disch := first | omega | (simp only [qd] <;> omega)) only [act_put, act_put_none])
        refine planT_one ?_
        simp -implicitDefEqProofs (disch := first | omega | (simp only [qd] <;> omega)) only [xq, ↓xp, qc, Nat.reduceAdd, List.range, List.range.loop, fine, Nat.reduceEqDiff, ↓reduceIte, yielded, reduceCtorEq, Nat.reduceLT, Nat.reduceMul, Nat.reduceSub, one, Nat.reduceLeDiff, runX_cons, y92_76, aq, ↓ap, qe0, qe1, qe2, *, -hK]
        (apply planT_take rfl rfl rfl ‹_›; (focus (intro HX hHX; simp -implicitDefEqProofs (disch := first | omega | (simp only [qd] <;> omega)) only [xq, ↓xp, qc, Nat.reduceAdd, List.range, List.range.loop, fine, Nat.reduceEqDiff, ↓reduceIte, yielded, reduceCtorEq, Nat.reduceLT, Nat.reduceMul, Nat.reduceSub, one, Nat.reduceLeDiff, runX_cons, y92_76, aq, ↓ap, qe0, qe1, qe2, *, -hK, YN_value] <;> (first | exact rfl | exact ⟨rfl, rfl⟩ | exact ⟨rfl, trivial⟩))); simp -implicitDefEqProofs (disch := first | omega | (simp only [qd] <;> omega)) only [act_put, act_put_none])
        refine planT_one ?_
        simp -implicitDefEqProofs (disch := first | omega | (simp only [qd] <;> omega)) only [xq, ↓xp, qc, Nat.reduceAdd, List.range, List.range.loop, fine, Nat.reduceEqDiff, ↓reduceIte, yielded, reduceCtorEq, Nat.reduceLT, Nat.reduceMul, Nat.reduceSub, one, Nat.reduceLeDiff, runX_cons, y92_76, aq, ↓ap, qe0, qe1, qe2, *, -hK]
        refine ⟨by simpa using hjs, ?_⟩
        refine planT_nil (hK _ _ ?_); clear hK K
        (try simp only [nq, ↓reduceIte, Nat.reduceEqDiff])
        (refine @Hid.out _ ?_; refine zA y92_76 ?_; (repeat (refine inC ?_; intro hc)); try (refine inK ?_; intro K hK))
        refine ⟨j - 1, by omega, _, i + 1, j - 1, _, rfl, by omega, by omega, rfl, e0, rfl, ?_, ?_, ?_, hr'⟩
        · show Value.int .i64 _ = _
          congr 1
          omega
        · rw [← hG]
          simp only [set_set]
        · simpa using hcs'
      · simp -implicitDefEqProofs (disch := first | omega | (simp only [qd] <;> omega)) only [xq, ↓xp, qc, Nat.reduceAdd, List.range, List.range.loop, fine, Nat.reduceEqDiff, ↓reduceIte, yielded, reduceCtorEq, Nat.reduceLT, Nat.reduceMul, Nat.reduceSub, one, Nat.reduceLeDiff, runX_cons, y92_76, aq, ↓ap, qe0, qe1, qe2, *, -hK]
        refine planT_one ?_
        simp -implicitDefEqProofs (disch := first | omega | (simp only [qd] <;> omega)) only [xq, ↓xp, qc, Nat.reduceAdd, List.range, List.range.loop, fine, Nat.reduceEqDiff, ↓reduceIte, yielded, reduceCtorEq, Nat.reduceLT, Nat.reduceMul, Nat.reduceSub, one, Nat.reduceLeDiff, runX_cons, y92_76, aq, ↓ap, qe0, qe1, qe2, *, -hK]
        (apply planT_take rfl rfl rfl ‹_›; (focus (intro HX hHX; simp -implicitDefEqProofs (disch := first | omega | (simp only [qd] <;> omega)) only [xq, ↓xp, qc, Nat.reduceAdd, List.range, List.range.loop, fine, Nat.reduceEqDiff, ↓reduceIte, yielded, reduceCtorEq, Nat.reduceLT, Nat.reduceMul, Nat.reduceSub, one, Nat.reduceLeDiff, runX_cons, y92_76, aq, ↓ap, qe0, qe1, qe2, *, -hK, YN_value] <;> (first | exact rfl | exact ⟨rfl, rfl⟩ | exact ⟨rfl, trivial⟩))); simp -implicitDefEqProofs (disch := first | omega | (simp only [qd] <;> omega)) only [act_put, act_put_none])
        refine planT_one ?_
        simp -implicitDefEqProofs (disch := first | omega | (simp only [qd] <;> omega)) only [xq, ↓xp, qc, Nat.reduceAdd, List.range, List.range.loop, fine, Nat.reduceEqDiff, ↓reduceIte, yielded, reduceCtorEq, Nat.reduceLT, Nat.reduceMul, Nat.reduceSub, one, Nat.reduceLeDiff, runX_cons, y92_76, aq, ↓ap, qe0, qe1, qe2, *, -hK]
        (apply planT_take rfl rfl rfl ‹_›; (focus (intro HX hHX; simp -implicitDefEqProofs (disch := first | omega | (simp only [qd] <;> omega)) only [xq, ↓xp, qc, Nat.reduceAdd, List.range, List.range.loop, fine, Nat.reduceEqDiff, ↓reduceIte, yielded, reduceCtorEq, Nat.reduceLT, Nat.reduceMul, Nat.reduceSub, one, Nat.reduceLeDiff, runX_cons, y92_76, aq, ↓ap, qe0, qe1, qe2, *, -hK, YN_value] <;> (first | exact rfl | exact ⟨rfl, rfl⟩ | exact ⟨rfl, trivial⟩))); simp -implicitDefEqProofs (disch := first | omega | (simp only [qd] <;> omega)) only [act_put, act_put_none])
        refine planT_one ?_
        simp -implicitDefEqProofs (disch := first | omega | (simp only [qd] <;> omega)) only [xq, ↓xp, qc, Nat.reduceAdd, List.range, List.range.loop, fine, Nat.reduceEqDiff, ↓reduceIte, yielded, reduceCtorEq, Nat.reduceLT, Nat.reduceMul, Nat.reduceSub, one, Nat.reduceLeDiff, runX_cons, y92_76, aq, ↓ap, qe0, qe1, qe2, *, -hK]
        refine ⟨by simpa using hjs, ?_⟩
        refine planT_nil (hK _ _ ?_); clear hK K
        (try simp only [nq, ↓reduceIte, Nat.reduceEqDiff])
        (refine @Hid.out _ ?_; refine zA y92_76 ?_; (repeat (refine inC ?_; intro hc)); try (refine inK ?_; intro K hK))
        refine ⟨j - 1, by omega, _, i + 1, j - 1, _, rfl, by omega, by omega, rfl, e0, rfl, ?_, ?_, ?_, hr'⟩
        · show Value.int .i64 _ = _
          congr 1
          omega
        · rw [← hG]
          simp only [set_set]
        · simpa using hcs'
    · (refine @Hid.out _ ?_; refine zA y92_76 ?_; (repeat (refine inC ?_; intro hc)); try (refine inK ?_; intro K hK))
      ((try simp only [nq, ↓reduceIte, Nat.reduceEqDiff]); rw [bodyX_normal, results_zero Tryz.results92])
      refine ⟨rfl, c', hG.symm, hcs', fun k u hk => ?_⟩
      have hkl : k < xs.length := by
        have := (List.getElem?_eq_some_iff.1 hk).1
        simpa [ints] using this
      rw [hr k hkl]
      have hrev : (ints xs.reverse)[k]? = (ints xs)[xs.length - 1 - k]? := by
        unfold ints
        rw [List.getElem?_map, List.getElem?_map, List.getElem?_reverse hkl]
      rw [← hk, hrev]
      split
      · rfl
      · rw [show xs.length - 1 - k = k by omega]
end Go.Proofs.YtofmadjgbcopdaaGreatDoor
end
section
set_option linter.unusedSimpArgs false
set_option maxRecDepth 100000
set_option maxHeartbeats 1000000
set_option linter.unusedVariables false
namespace Go.Proofs.YtofmadjgbcopdaaGreatDoor
open Go Go.X
set_option linter.defProp false
def y93_77 := And.intro (fun H => len_slice (H := H) Tryz.underlying22) (And.intro (fun H => indexAt_slice (H := H) Tryz.underlying22 Tryz.sizeOf3) (fun H => loadAt_one (H := H) Tryz.underlying3 rfl))
theorem find_take {p : Int → Bool} : ∀ (xs : List Int) (j : Nat) (hj : j < xs.length), (∀ x ∈ xs.take j, p x = false) → p xs[j] = true → xs.find? p = some xs[j]
  | x :: xs, 0, _, _, h => by
    have h' : p x = true := h
    simp [List.find?_cons, h']
  | x :: xs, j + 1, hj, hf, h => by
    have hx : p x = false := hf x (by simp)
    rw [List.find?_cons, hx]
    exact find_take xs j (by simpa using hj) (fun y hy => hf y (by simp [hy])) h
theorem firstOf_spec (main : Md) (H : Hp) (v : Value) (xs : List Int) (hv : SlI H v xs) (hl : xs.length ≤ 1000) (sf : Fn) (sc si : Array Value) (p : Int → Bool)
    (hso : ∀ (H' : Hp) (x : Int), H.le H' → x ∈ xs → CallV Tryz.prog main (.func sf sc si) #[.int .i64 x] H' fun e H'' => e = .returned (.bool (p x)) ∧ H'.le H'') :
    FnX Tryz.prog main 93 #[v, .func sf sc si] H fun e H' => H.le H' ∧ ∃ y is, e = .returned (.tuple #[.int .i64 y, .bool is]) ∧ match xs.find? p with
      | some x => y = x ∧ is = true
      | none => y = 0 ∧ is = false := by
  have hvS := hv
  obtain ⟨va, vc, rfl, hvc, _⟩ := hv
  refine FnX_start Tryz.func93 rfl Tryz.ntmps93 (by simp) ?_
  (refine @Hid.out _ ?_; refine zA y93_77 ?_; (repeat (refine inC ?_; intro hc)); try (refine inK ?_; intro K hK))
  refine wpX_loop (fun w a' H' => ∃ e j, w = xs.length - j ∧ j ≤ xs.length ∧ (∀ x ∈ xs.take j, p x = false) ∧ a' = act 21 e [] ∧ e 1 = .func sf sc si ∧ e 9 = .slice va xs.length vc ∧ e 10 = .int .i64 xs.length ∧ e 11 = .int .i64 (j : Nat) ∧ H.le H') (n := xs.length) ?_ ?_
  · exact ⟨_, 0, rfl, by omega, by simp, rfl, rfl, rfl, rfl, rfl, Hp.le_refl _⟩
  · rintro w a' H1 ⟨e, j, rfl, hj, hnone, rfl, e1, e9, e10, e11, lH1⟩
    have hv1 := hvS.le lH1
    by_cases hlt : j < xs.length
    · obtain ⟨b, o, cap', q, c, fr, hve, _, hb', hx⟩ := hv1.cons (fun h => absurd (congrArg List.length h) (by simp only [List.length_nil]; omega))
      cases hve
      have hxj := hx j xs[j] (List.getElem?_eq_getElem hlt)
      have hmem : xs[j] ∈ xs := List.getElem_mem hlt
      have hft : p xs[j] = true → xs.find? p = some xs[j] := find_take xs j hlt hnone
      have hnext : p xs[j] = false → ∀ x ∈ xs.take (j + 1), p x = false := fun h x hx' => by
        rw [List.take_add_one, List.getElem?_eq_getElem hlt] at hx'
        rcases List.mem_append.1 hx' with h' | h'
        · exact hnone x h'
        · rw [show x = xs[j] by simpa using h']; exact h
      have hcall := hso H1 xs[j] lH1 hmem
      replace hnone : True := trivial
      generalize xs[j] = y at *
      clear hx hnone hmem hso
      have hft' : SameP (p y = true → xs.find? p = some y) := hft
      have hnext' : SameP (p y = false → ∀ x ∈ xs.take (j + 1), p x = false) := hnext
      clear hft hnext
      (refine @Hid.out _ ?_; refine zA y93_77 ?_; (repeat (refine inC ?_; intro hc)); try (refine inK ?_; intro K hK))
      refine CallV.use hcall ?_
      rintro _ H2 ⟨rfl, lH2⟩
      have l2 := Hp.le_trans lH1 lH2
      clear hcall
      generalize hpy : p y = q at *
      replace hpy : SameB (p y) q := hpy
      cases q with
      | false =>
        ((try (refine @Hid.out _ ?_; refine zX y93_77 ?_)); (try (refine hK _ _ ?_; clear hK K; (try simp only [nq, ↓reduceIte, Nat.reduceEqDiff]))); refine @Hid.out _ ?_; refine zA y93_77 ?_; (repeat (refine inC ?_; intro hc)); try (refine inK ?_; intro K hK))
        exact ⟨_, by omega, _, j + 1, rfl, hlt, hnext' rfl, rfl, e1, e9, e10, rfl, l2⟩
      | true =>
        ((try (refine @Hid.out _ ?_; refine zX y93_77 ?_)); (try (refine hK _ _ ?_; clear hK K; (try simp only [nq, ↓reduceIte, Nat.reduceEqDiff]))); refine @Hid.out _ ?_; refine zA y93_77 ?_; (repeat (refine inC ?_; intro hc)); try (refine inK ?_; intro K hK))
        (refine wpX_ret ?_; (try simp only [nq, ↓reduceIte, Nat.reduceEqDiff]); rw [bodyX_ret, results_two Tryz.results93 (by decide) (by decide)]; simp only [upd_get, Nat.reduceEqDiff, ↓reduceIte])
        exact ⟨l2, _, _, rfl, by rw [show xs.find? p = some y from hft' rfl]; exact ⟨rfl, rfl⟩⟩
    · obtain rfl : j = xs.length := by omega
      (refine @Hid.out _ ?_; refine zA y93_77 ?_; (repeat (refine inC ?_; intro hc)); try (refine inK ?_; intro K hK))
      (refine wpX_ret ?_; (try simp only [nq, ↓reduceIte, Nat.reduceEqDiff]); rw [bodyX_ret, results_two Tryz.results93 (by decide) (by decide)]; simp only [upd_get, Nat.reduceEqDiff, ↓reduceIte])
      have hn : xs.find? p = none := by
        rw [List.find?_eq_none]
        intro x hx
        rw [hnone x (by simpa using hx)]
        simp
      exact ⟨lH1, _, _, rfl, by rw [hn]; exact ⟨rfl, rfl⟩⟩
end Go.Proofs.YtofmadjgbcopdaaGreatDoor
end
section
set_option linter.unusedSimpArgs false
set_option maxRecDepth 100000
set_option maxHeartbeats 1000000
set_option linter.unusedVariables false
namespace Go.Proofs.YtofmadjgbcopdaaGreatDoor
open Go Go.X
set_option linter.defProp false
def y138_78 := And.intro (fun H => fieldAt_eq (H := H) Tryz.underlying29 (i := 6) rfl (off := 9) rfl Tryz.sizeOf3) (And.intro (fun H => storeAt_int (H := H) Tryz.sizeOf3) (And.intro (fun H => fieldAt_eq (H := H) Tryz.underlying29 (i := 4) rfl (off := 7) rfl Tryz.sizeOf3) (And.intro (fun H => fieldAt_eq (H := H) Tryz.underlying29 (i := 2) rfl (off := 5) rfl Tryz.sizeOf3) (And.intro (fun H => loadAt_aggE (H := H) Tryz.underlying29 rfl Tryz.sizeOf29) @callF110))))
def HN.part (n : HN) (p k : Int) : HN := if p = 1 then { n with barrows := k } else if p = 2 then { n with notice := k } else { n with rule := k }
theorem changed_spec (main : Md) (H : Hp) (n : HN) (v : HV) (p k : Int) (hp : p = 1 ∨ p = 2 ∨ p = 3) (hd : HaulIn H (n.part p k) v) :
    FnX Tryz.prog main 138 #[.int .i64 p, n.agg v, .int .i64 k] H fun e H' => ∃ hb jv, e = .returned (.pointer (some ⟨hb, 0, none⟩)) ∧ H.le H' ∧ H' hb = some (true, (n.part p k).obj v jv) ∧ SlI H' jv (n.part p k).jobs := by
  have hnew := fun H' h' => newHaul_spec main H' (n.part p k) v h'
  rcases hp with rfl | rfl | rfl
  · rw [show n.part 1 k = { n with barrows := k } from rfl] at *
    simp only [HN.agg] at hnew ⊢
    refine FnX_start Tryz.func138 rfl Tryz.ntmps138 (by simp) ?_
    (refine @Hid.out _ ?_; refine zA y138_78 ?_; (repeat (refine inC ?_; intro hc)); try (refine inK ?_; intro K hK))
    (intro ab hab; generalize hG : Hp.set _ ab _ = H1; have lH1 := le_of_set hG hab; have vab := at_of_set hG; clear hG)
    have h0ab := hab
    ((try (refine @Hid.out _ ?_; refine zX y138_78 ?_)); (try (refine hK _ _ ?_; clear hK K; (try simp only [nq, ↓reduceIte, Nat.reduceEqDiff]))); refine @Hid.out _ ?_; refine zA y138_78 ?_; (repeat (refine inC ?_; intro hc)); try (refine inK ?_; intro K hK))
    generalize hG : H1.set ab _ = H2
    have l2 : H.le H2 := hG ▸ ((Lex.of lH1 : Lex none H H1).own h0ab).toLe
    clear hG vab lH1
    refine (hnew H2 (hd.le l2)).runs.mono ?_
    rintro _ H3 ⟨hb, jv, rfl, lH3, vhb, hj⟩
    ((try (refine @Hid.out _ ?_; refine zX y138_78 ?_)); (try (refine hK _ _ ?_; clear hK K; (try simp only [nq, ↓reduceIte, Nat.reduceEqDiff]))); refine @Hid.out _ ?_; refine zA y138_78 ?_; (repeat (refine inC ?_; intro hc)); try (refine inK ?_; intro K hK))
    (refine wpX_ret ?_; (try simp only [nq, ↓reduceIte, Nat.reduceEqDiff]); rw [bodyX_ret, results_one Tryz.results138 (by decide)]; simp only [upd_get, Nat.reduceEqDiff, ↓reduceIte])
    exact ⟨hb, jv, rfl, Hp.le_trans l2 lH3, vhb, hj⟩
  · rw [show n.part 2 k = { n with notice := k } from rfl] at *
    simp only [HN.agg] at hnew ⊢
    refine FnX_start Tryz.func138 rfl Tryz.ntmps138 (by simp) ?_
    (refine @Hid.out _ ?_; refine zA y138_78 ?_; (repeat (refine inC ?_; intro hc)); try (refine inK ?_; intro K hK))
    (intro ab hab; generalize hG : Hp.set _ ab _ = H1; have lH1 := le_of_set hG hab; have vab := at_of_set hG; clear hG)
    have h0ab := hab
    ((try (refine @Hid.out _ ?_; refine zX y138_78 ?_)); (try (refine hK _ _ ?_; clear hK K; (try simp only [nq, ↓reduceIte, Nat.reduceEqDiff]))); refine @Hid.out _ ?_; refine zA y138_78 ?_; (repeat (refine inC ?_; intro hc)); try (refine inK ?_; intro K hK))
    generalize hG : H1.set ab _ = H2
    have l2 : H.le H2 := hG ▸ ((Lex.of lH1 : Lex none H H1).own h0ab).toLe
    clear hG vab lH1
    refine (hnew H2 (hd.le l2)).runs.mono ?_
    rintro _ H3 ⟨hb, jv, rfl, lH3, vhb, hj⟩
    ((try (refine @Hid.out _ ?_; refine zX y138_78 ?_)); (try (refine hK _ _ ?_; clear hK K; (try simp only [nq, ↓reduceIte, Nat.reduceEqDiff]))); refine @Hid.out _ ?_; refine zA y138_78 ?_; (repeat (refine inC ?_; intro hc)); try (refine inK ?_; intro K hK))
    (refine wpX_ret ?_; (try simp only [nq, ↓reduceIte, Nat.reduceEqDiff]); rw [bodyX_ret, results_one Tryz.results138 (by decide)]; simp only [upd_get, Nat.reduceEqDiff, ↓reduceIte])
    exact ⟨hb, jv, rfl, Hp.le_trans l2 lH3, vhb, hj⟩
  · rw [show n.part 3 k = { n with rule := k } from rfl] at *
    simp only [HN.agg] at hnew ⊢
    refine FnX_start Tryz.func138 rfl Tryz.ntmps138 (by simp) ?_
    (refine @Hid.out _ ?_; refine zA y138_78 ?_; (repeat (refine inC ?_; intro hc)); try (refine inK ?_; intro K hK))
    (intro ab hab; generalize hG : Hp.set _ ab _ = H1; have lH1 := le_of_set hG hab; have vab := at_of_set hG; clear hG)
    have h0ab := hab
    ((try (refine @Hid.out _ ?_; refine zX y138_78 ?_)); (try (refine hK _ _ ?_; clear hK K; (try simp only [nq, ↓reduceIte, Nat.reduceEqDiff]))); refine @Hid.out _ ?_; refine zA y138_78 ?_; (repeat (refine inC ?_; intro hc)); try (refine inK ?_; intro K hK))
    generalize hG : H1.set ab _ = H2
    have l2 : H.le H2 := hG ▸ ((Lex.of lH1 : Lex none H H1).own h0ab).toLe
    clear hG vab lH1
    refine (hnew H2 (hd.le l2)).runs.mono ?_
    rintro _ H3 ⟨hb, jv, rfl, lH3, vhb, hj⟩
    ((try (refine @Hid.out _ ?_; refine zX y138_78 ?_)); (try (refine hK _ _ ?_; clear hK K; (try simp only [nq, ↓reduceIte, Nat.reduceEqDiff]))); refine @Hid.out _ ?_; refine zA y138_78 ?_; (repeat (refine inC ?_; intro hc)); try (refine inK ?_; intro K hK))
    (refine wpX_ret ?_; (try simp only [nq, ↓reduceIte, Nat.reduceEqDiff]); rw [bodyX_ret, results_one Tryz.results138 (by decide)]; simp only [upd_get, Nat.reduceEqDiff, ↓reduceIte])
    exact ⟨hb, jv, rfl, Hp.le_trans l2 lH3, vhb, hj⟩
end Go.Proofs.YtofmadjgbcopdaaGreatDoor
end
section
set_option linter.unusedSimpArgs false
set_option maxRecDepth 100000
set_option maxHeartbeats 1000000
set_option linter.unusedVariables false
namespace Go.Proofs.YtofmadjgbcopdaaGreatDoor
open Go Go.X
set_option linter.defProp false
def y96_79 := And.intro (fun H => loadAt_aggE (H := H) Tryz.underlying29 rfl Tryz.sizeOf29) (And.intro (fun H => loadAt_one (H := H) Tryz.underlying3 rfl) (And.intro @callF98 @callF93))
def y137_79 := And.intro (fun H => loadAt_one (H := H) Tryz.underlying121 rfl) (And.intro (fun H => loadAt_aggE (H := H) Tryz.underlying29 rfl Tryz.sizeOf29) (And.intro @callF138 (And.intro (fun H => loadAt_one (H := H) Tryz.underlying3 rfl) @callF90)))
theorem nhS_jobs (ts ss start : List Int) : ∀ i, (∀ x ∈ (nhS ts ss start i).2, 0 ≤ x ∧ x < i) ∧ (nhS ts ss start i).2.Pairwise (· < ·)
  | 0 => by simp [nhS]
  | i + 1 => by
    obtain ⟨h1, h2⟩ := nhS_jobs ts ss start i
    unfold nhS
    split
    · exact ⟨fun x hx => by have := h1 x hx; omega, h2⟩
    · refine ⟨fun x hx => ?_, ?_⟩
      · rcases List.mem_append.1 hx with h | h
        · have := h1 x h; omega
        · have : x = i := by simpa using h
          omega
      · rw [List.pairwise_append]
        refine ⟨h2, by simp, fun a ha b hb => ?_⟩
        have := h1 a ha
        have : b = i := by simpa using hb
        omega
theorem HaulIn.jobs {H : Hp} {n : HN} {v : HV} (h : HaulIn H n v) : n.jobs.length ≤ 8 ∧ (∀ i ∈ n.jobs, 0 ≤ i ∧ i < n.xs.length) ∧ n.jobs.Pairwise (· < ·) := by
  have hx := h.xlen
  have hf := h.day.few
  have ht := h.day.true.1
  have hl := (nhS_len n.ts n.sents n.start n.ts.length).2
  obtain ⟨h1, h2⟩ := nhS_jobs n.ts n.sents n.start n.ts.length
  refine ⟨?_, fun i hi => ?_, h2⟩
  · show (nhS n.ts n.sents n.start n.ts.length).2.length ≤ 8
    omega
  · have := h1 i hi
    omega
def soF (n : HN) (mi p k : Int) : Bool := goodF (n.part p k) (n.part p k).jobs mi (n.part p k).load.toNat (n.part p k).jobs.length bs0 0
theorem leastSo_spec (main : Md) (H : Hp) (n : HN) (v : HV) (p k : Int) (hp : p = 1 ∨ p = 2 ∨ p = 3) (hd : HaulIn H (n.part p k) v) (mi : Int) (h1 : 1 ≤ mi) (h20 : mi ≤ 20) (pb ab mb : Nat)
    (vp : H pb = some (true, .cells #[.int .i64 p] 121 (0, 0))) (va : H ab = some (true, .cells #[.int .i64 n.places, .int .i64 n.pieces, v.sv, v.cv, v.tv, .int .i64 n.rule, v.xv, .int .i64 n.notice, .int .i64 n.load, .int .i64 n.barrows, .int .i64 n.lo, .int .i64 n.hi] 29 (0, 0)))
    (vm : H mb = some (true, .cells #[.int .i64 mi] 3 (0, 0))) :
    FnX Tryz.prog main 137 #[.int .i64 k, .pointer (some ⟨pb, 0, none⟩), .pointer (some ⟨ab, 0, none⟩), .pointer (some ⟨mb, 0, none⟩)] H fun e H' => e = .returned (.bool (soF n mi p k)) ∧ H.le H' := by
  have hch := changed_spec main H n v p k hp hd
  simp only [HN.agg] at hch
  refine FnX_start Tryz.func137 rfl Tryz.ntmps137 (by simp) ?_
  (refine @Hid.out _ ?_; refine zA y137_79 ?_; (repeat (refine inC ?_; intro hc)); try (refine inK ?_; intro K hK))
  refine wpX_dlast (fun HX => HX pb = some (true, .cells #[.int .i64 p] 121 (0, 0)) ∧ HX ab = some (true, .cells #[.int .i64 n.places, .int .i64 n.pieces, v.sv, v.cv, v.tv, .int .i64 n.rule, v.xv, .int .i64 n.notice, .int .i64 n.load, .int .i64 n.barrows, .int .i64 n.lo, .int .i64 n.hi] 29 (0, 0)) ∧ HX mb = some (true, .cells #[.int .i64 mi] 3 (0, 0))) 7 [(true, 0), (true, 1), (true, 2), (true, 4), (false, 3), (false, 5), (true, 6)] (by kernel_rfl) (by kernel_rfl) (by simp) (by kernel_rfl) ?_; intro K hK
  (iterate 4 (apply plan_takeS rfl rfl rfl (⟨vp, va, vm⟩); (focus (intro HX hHX; have hX1 := hHX.1; have hX2 := hHX.2; clear hHX; simp -implicitDefEqProofs (disch := first | omega | (simp only [qd] <;> omega)) only [xq, ↓xp, qc, Nat.reduceAdd, List.range, List.range.loop, fine, Nat.reduceEqDiff, ↓reduceIte, yielded, reduceCtorEq, Nat.reduceLT, Nat.reduceMul, Nat.reduceSub, one, Nat.reduceLeDiff, runX_cons, y137_79, aq, ↓ap, qe0, qe1, qe2, *, -hK, YN_value] <;> (first | exact rfl | exact ⟨rfl, rfl⟩ | exact ⟨rfl, trivial⟩))); simp -implicitDefEqProofs (disch := first | omega | (simp only [qd] <;> omega)) only [act_put, act_put_none]))
  refine planX_act ?_
  simp -implicitDefEqProofs (disch := first | omega | (simp only [qd] <;> omega)) only [xq, ↓xp, qc, Nat.reduceAdd, List.range, List.range.loop, fine, Nat.reduceEqDiff, ↓reduceIte, yielded, reduceCtorEq, Nat.reduceLT, Nat.reduceMul, Nat.reduceSub, one, Nat.reduceLeDiff, runX_cons, y137_79, aq, ↓ap, qe0, qe1, qe2, *, -hK]
  refine hch.runs.mono ?_
  rintro _ H1 ⟨hb, jv, rfl, lH1, vhb, hj⟩
  have vp1 := lH1 _ _ vp
  have va1 := lH1 _ _ va
  have vm1 := lH1 _ _ vm
  obtain ⟨j8, jb, _⟩ := hd.jobs
  have hat := hd.at lH1 vhb hj jb (by omega)
  have hl1 := hd.l1
  have hl3 := hd.l3
  clear hch vp va vm vhb hj
  simp -implicitDefEqProofs (disch := first | omega | (simp only [qd] <;> omega)) only [xq, ↓xp, qc, Nat.reduceAdd, List.range, List.range.loop, fine, Nat.reduceEqDiff, ↓reduceIte, yielded, reduceCtorEq, Nat.reduceLT, Nat.reduceMul, Nat.reduceSub, one, Nat.reduceLeDiff, runX_cons, y137_79, aq, ↓ap, qe0, qe1, qe2, *, -hK, onEnd_ret]
  refine ⟨.inr trivial, ?_⟩
  refine planX_act ?_
  simp -implicitDefEqProofs (disch := first | omega | (simp only [qd] <;> omega)) only [xq, ↓xp, qc, Nat.reduceAdd, List.range, List.range.loop, fine, Nat.reduceEqDiff, ↓reduceIte, yielded, reduceCtorEq, Nat.reduceLT, Nat.reduceMul, Nat.reduceSub, one, Nat.reduceLeDiff, runX_cons, y137_79, aq, ↓ap, qe0, qe1, qe2, *, -hK]
  refine (some_spec main H1 hb _ v jv _ hat hl1 hl3 mi h1 h20 (by omega)).runs.mono ?_
  rintro _ H2 ⟨rfl, lH2⟩
  have vp2 := lH2 _ _ vp1
  have va2 := lH2 _ _ va1
  have vm2 := lH2 _ _ vm1
  have l12 := Hp.le_trans lH1 lH2
  rw [show goodF (n.part p k) (n.part p k).jobs mi (n.part p k).load.toNat (n.part p k).jobs.length bs0 0 = soF n mi p k from rfl]
  clear vp1 va1 vm1 hat hd
  simp -implicitDefEqProofs (disch := first | omega | (simp only [qd] <;> omega)) only [xq, ↓xp, qc, Nat.reduceAdd, List.range, List.range.loop, fine, Nat.reduceEqDiff, ↓reduceIte, yielded, reduceCtorEq, Nat.reduceLT, Nat.reduceMul, Nat.reduceSub, one, Nat.reduceLeDiff, runX_cons, y137_79, aq, ↓ap, qe0, qe1, qe2, *, -hK, onEnd_ret]
  refine ⟨.inr trivial, ?_⟩
  (apply plan_takeS rfl rfl rfl (⟨vp2, va2, vm2⟩); (focus (intro HX hHX; have hX1 := hHX.1; have hX2 := hHX.2; clear hHX; simp -implicitDefEqProofs (disch := first | omega | (simp only [qd] <;> omega)) only [xq, ↓xp, qc, Nat.reduceAdd, List.range, List.range.loop, fine, Nat.reduceEqDiff, ↓reduceIte, yielded, reduceCtorEq, Nat.reduceLT, Nat.reduceMul, Nat.reduceSub, one, Nat.reduceLeDiff, runX_cons, y137_79, aq, ↓ap, qe0, qe1, qe2, *, -hK, YN_value] <;> (first | exact rfl | exact ⟨rfl, rfl⟩ | exact ⟨rfl, trivial⟩))); simp -implicitDefEqProofs (disch := first | omega | (simp only [qd] <;> omega)) only [act_put, act_put_none])
  refine plan_nil (hK _ _ ?_)
  clear hK K
  (refine wpX_ret ?_; (try simp only [nq, ↓reduceIte, Nat.reduceEqDiff]); rw [bodyX_ret, results_one Tryz.results137 (by decide)]; simp only [upd_get, Nat.reduceEqDiff, ↓reduceIte])
  exact ⟨by trivial, l12⟩
theorem least_spec (main : Md) (H : Hp) (n : HN) (v : HV) (hd : HaulIn H n v) (p : Int) (hp : p = 1 ∨ p = 2 ∨ p = 3) (lv : Value) (ls : List Int) (hlv : SlI H lv ls) (hll : ls.length ≤ 1000) (hok : ∀ k ∈ ls, ∀ H', HaulIn H' n v → HaulIn H' (n.part p k) v) (mi : Int) (h1 : 1 ≤ mi) (h20 : mi ≤ 20) :
    FnX Tryz.prog main 96 #[n.agg v, .int .i64 p, lv, .int .i64 mi] H fun e H' => H.le H' ∧ ∃ y c, e = .returned (.tuple #[.int .i64 y, .int .i64 c]) ∧ match ls.find? (soF n mi p) with
      | some x => y = x ∧ c = 0
      | none => y = 0 ∧ c = 11 := by
  have hdr := fun H' h => driving_spec main H' n v h mi h1 h20
  have hso := fun H' k pb ab mb hd' => leastSo_spec main H' n v p k hp hd' mi h1 h20 pb ab mb
  simp only [HN.agg] at hdr ⊢
  refine FnX_start Tryz.func96 rfl Tryz.ntmps96 (by simp) ?_
  (refine @Hid.out _ ?_; refine zA y96_79 ?_; (repeat (refine inC ?_; intro hc)); try (refine inK ?_; intro K hK))
  intro ab hab pb hpb mb hmb
  replace hpb : (Hp.set H ab _) pb = none := hpb
  replace hmb : (Hp.set (Hp.set H ab _) pb _) mb = none := hmb
  generalize hG : Hp.set H ab _ = H1 at hpb hmb ⊢
  have lH1 := le_of_set hG hab
  have vab := at_of_set hG
  clear hG
  generalize hG : Hp.set H1 pb _ = H2 at hmb ⊢
  have lH2 := le_of_set hG hpb
  have vpb := at_of_set hG
  clear hG
  generalize hG : Hp.set H2 mb _ = H3
  have lH3 := le_of_set hG hmb
  have vmb := at_of_set hG
  clear hG
  have l23 := Hp.le_trans lH2 lH3
  have l13 := Hp.le_trans lH1 l23
  have vab3 := l23 _ _ vab
  have vpb3 := lH3 _ _ vpb
  have hd3 := hd.le l13
  have hlv3 := hlv.le l13
  clear lH1 lH2 lH3 vab vpb l23 hab hpb hmb hlv
  ((try (refine @Hid.out _ ?_; refine zX y96_79 ?_)); (try (refine hK _ _ ?_; clear hK K; (try simp only [nq, ↓reduceIte, Nat.reduceEqDiff]))); refine @Hid.out _ ?_; refine zA y96_79 ?_; (repeat (refine inC ?_; intro hc)); try (refine inK ?_; intro K hK))
  refine (hdr H3 hd3).runs.mono ?_
  rintro _ H4 ⟨hb, jv, rfl, lH4, _, _⟩
  have vab4 := lH4 _ _ vab3
  have vpb4 := lH4 _ _ vpb3
  have vmb4 := lH4 _ _ vmb
  have hd4 := hd3.le lH4
  have hlv4 := hlv3.le lH4
  have l14 := Hp.le_trans l13 lH4
  clear vab3 vpb3 vmb hd3 hlv3 lH4 l13 hdr
  ((try (refine @Hid.out _ ?_; refine zX y96_79 ?_)); (try (refine hK _ _ ?_; clear hK K; (try simp only [nq, ↓reduceIte, Nat.reduceEqDiff]))); refine @Hid.out _ ?_; refine zA y96_79 ?_; (repeat (refine inC ?_; intro hc)); try (refine inK ?_; intro K hK))
  have hfo := firstOf_spec main H4 lv ls hlv4 hll (.func 137) #[] #[.pointer (some ⟨pb, 0, none⟩), .pointer (some ⟨ab, 0, none⟩), .pointer (some ⟨mb, 0, none⟩)] (soF n mi p) (fun H' k hl hk => by
    refine CallV.of_fn (fun _ _ _ _ => callF137 _ _ _) ?_
    exact hso H' k pb ab mb (hok k hk H' (hd4.le hl)) (hl _ _ vpb4) (hl _ _ vab4) (hl _ _ vmb4))
  refine hfo.runs.mono ?_
  rintro _ H5 ⟨lH5, y, is, rfl, hres⟩
  have l15 := Hp.le_trans l14 lH5
  clear hfo hso
  cases hpf : ls.find? (soF n mi p) with
  | none =>
    rw [hpf] at hres
    obtain ⟨rfl, rfl⟩ := hres
    ((try (refine @Hid.out _ ?_; refine zX y96_79 ?_)); (try (refine hK _ _ ?_; clear hK K; (try simp only [nq, ↓reduceIte, Nat.reduceEqDiff]))); refine @Hid.out _ ?_; refine zA y96_79 ?_; (repeat (refine inC ?_; intro hc)); try (refine inK ?_; intro K hK))
    (refine wpX_ret ?_; (try simp only [nq, ↓reduceIte, Nat.reduceEqDiff]); rw [bodyX_ret, results_two Tryz.results96 (by decide) (by decide)]; simp only [upd_get, Nat.reduceEqDiff, ↓reduceIte])
    exact ⟨l15, _, _, rfl, by rw [hpf]; exact ⟨rfl, rfl⟩⟩
  | some x =>
    rw [hpf] at hres
    obtain ⟨rfl, rfl⟩ := hres
    ((try (refine @Hid.out _ ?_; refine zX y96_79 ?_)); (try (refine hK _ _ ?_; clear hK K; (try simp only [nq, ↓reduceIte, Nat.reduceEqDiff]))); refine @Hid.out _ ?_; refine zA y96_79 ?_; (repeat (refine inC ?_; intro hc)); try (refine inK ?_; intro K hK))
    (refine wpX_ret ?_; (try simp only [nq, ↓reduceIte, Nat.reduceEqDiff]); rw [bodyX_ret, results_two Tryz.results96 (by decide) (by decide)]; simp only [upd_get, Nat.reduceEqDiff, ↓reduceIte])
    exact ⟨l15, _, _, rfl, by rw [hpf]; exact ⟨rfl, rfl⟩⟩
end Go.Proofs.YtofmadjgbcopdaaGreatDoor
end
section
set_option linter.unusedSimpArgs false
set_option maxRecDepth 100000
set_option maxHeartbeats 1000000
set_option linter.unusedVariables false
namespace Go.Proofs.YtofmadjgbcopdaaGreatDoor
open Go Go.X
set_option linter.defProp false
def y47_80 := And.intro (fun H => loadAt_aggE (H := H) Tryz.underlying29 rfl Tryz.sizeOf29) (And.intro @callF91 @callF96)
def y51_80 := And.intro (fun H => loadAt_aggE (H := H) Tryz.underlying29 rfl Tryz.sizeOf29) (And.intro @callF91 @callF96)
theorem fewest_spec (main : Md) (H : Hp) (n : HN) (v : HV) (hd : HaulIn H n v) (mi : Int) (h1 : 1 ≤ mi) (h20 : mi ≤ 20) :
    FnX Tryz.prog main 47 #[n.agg v, .int .i64 mi] H fun e H' => H.le H' ∧ ∃ y c, e = .returned (.tuple #[.int .i64 y, .int .i64 c]) ∧ match (numsL 1 4).find? (soF n mi 1) with
      | some x => y = x ∧ c = 0
      | none => y = 0 ∧ c = 11 := by
  have hle := fun H' lv (hd' : HaulIn H' n v) hlv => least_spec main H' n v hd' 1 (by omega) lv (numsL 1 4) hlv (by rw [numsL_len]; omega) (fun k hk H' h => by
    have hk' : 1 ≤ k ∧ k ≤ 4 := by
      obtain ⟨i, hi, rfl⟩ := List.mem_map.1 hk
      have := List.mem_range.1 hi
      omega
    exact { h with b1 := hk'.1, b4 := hk'.2 }) mi h1 h20
  simp only [HN.agg] at hle ⊢
  have hnum := fun H' => numbers_spec main H' 1 4 4 (by omega) (by omega) (by omega)
  generalize numsL 1 4 = ls at hle hnum ⊢
  refine FnX_start Tryz.func47 rfl Tryz.ntmps47 (by simp) ?_
  (refine @Hid.out _ ?_; refine zA y47_80 ?_; (repeat (refine inC ?_; intro hc)); try (refine inK ?_; intro K hK))
  (intro ab hab; generalize hG : Hp.set _ ab _ = H1; have lH1 := le_of_set hG hab; have vab := at_of_set hG; clear hG)
  have hd1 := hd.le lH1
  ((try (refine @Hid.out _ ?_; refine zX y47_80 ?_)); (try (refine hK _ _ ?_; clear hK K; (try simp only [nq, ↓reduceIte, Nat.reduceEqDiff]))); refine @Hid.out _ ?_; refine zA y47_80 ?_; (repeat (refine inC ?_; intro hc)); try (refine inK ?_; intro K hK))
  refine wpX_dlast (fun HX => HX ab = some (true, .cells #[.int .i64 n.places, .int .i64 n.pieces, v.sv, v.cv, v.tv, .int .i64 n.rule, v.xv, .int .i64 n.notice, .int .i64 n.load, .int .i64 n.barrows, .int .i64 n.lo, .int .i64 n.hi] 29 (0, 0))) 8 [(true, 0), (true, 2), (false, 1), (false, 3), (true, 4), (true, 5), (true, 6), (true, 7)] (by kernel_rfl) (by kernel_rfl) (by simp) (by kernel_rfl) ?_; intro K hK
  (iterate 2 (apply plan_takeB rfl rfl rfl ‹_›; (focus (intro HX hHX; simp -implicitDefEqProofs (disch := first | omega | (simp only [qd] <;> omega)) only [xq, ↓xp, qc, Nat.reduceAdd, List.range, List.range.loop, fine, Nat.reduceEqDiff, ↓reduceIte, yielded, reduceCtorEq, Nat.reduceLT, Nat.reduceMul, Nat.reduceSub, one, Nat.reduceLeDiff, runX_cons, y47_80, aq, ↓ap, qe0, qe1, qe2, *, -hK, YN_value] <;> (first | exact rfl | exact ⟨rfl, rfl⟩ | exact ⟨rfl, trivial⟩))); simp -implicitDefEqProofs (disch := first | omega | (simp only [qd] <;> omega)) only [act_put, act_put_none]))
  refine planX_act ?_
  simp -implicitDefEqProofs (disch := first | omega | (simp only [qd] <;> omega)) only [xq, ↓xp, qc, Nat.reduceAdd, List.range, List.range.loop, fine, Nat.reduceEqDiff, ↓reduceIte, yielded, reduceCtorEq, Nat.reduceLT, Nat.reduceMul, Nat.reduceSub, one, Nat.reduceLeDiff, runX_cons, y47_80, aq, ↓ap, qe0, qe1, qe2, *, -hK]
  refine (hnum H1).runs.mono ?_
  rintro _ H2 ⟨lv, rfl, hrow⟩
  have lH2 := hrow.1.toLe
  have vab2 := lH2 _ _ vab
  have hd2 := hd1.le lH2
  have hsl := hrow.ints
  have l12 := Hp.le_trans lH1 lH2
  clear hnum hrow vab hd1 lH1 lH2
  obtain ⟨la, ln, lc, rfl⟩ := hsl.isSlice
  simp -implicitDefEqProofs (disch := first | omega | (simp only [qd] <;> omega)) only [xq, ↓xp, qc, Nat.reduceAdd, List.range, List.range.loop, fine, Nat.reduceEqDiff, ↓reduceIte, yielded, reduceCtorEq, Nat.reduceLT, Nat.reduceMul, Nat.reduceSub, one, Nat.reduceLeDiff, runX_cons, y47_80, aq, ↓ap, qe0, qe1, qe2, *, -hK, onEnd_ret]
  refine ⟨.inr trivial, ?_⟩
  refine planX_act ?_
  simp -implicitDefEqProofs (disch := first | omega | (simp only [qd] <;> omega)) only [xq, ↓xp, qc, Nat.reduceAdd, List.range, List.range.loop, fine, Nat.reduceEqDiff, ↓reduceIte, yielded, reduceCtorEq, Nat.reduceLT, Nat.reduceMul, Nat.reduceSub, one, Nat.reduceLeDiff, runX_cons, y47_80, aq, ↓ap, qe0, qe1, qe2, *, -hK]
  refine (hle H2 _ hd2 hsl).runs.mono ?_
  rintro _ H3 ⟨lH3, y, c, rfl, hres⟩
  have vab3 := lH3 _ _ vab2
  have l13 := Hp.le_trans l12 lH3
  clear hle hsl vab2 hd2
  simp -implicitDefEqProofs (disch := first | omega | (simp only [qd] <;> omega)) only [xq, ↓xp, qc, Nat.reduceAdd, List.range, List.range.loop, fine, Nat.reduceEqDiff, ↓reduceIte, yielded, reduceCtorEq, Nat.reduceLT, Nat.reduceMul, Nat.reduceSub, one, Nat.reduceLeDiff, runX_cons, y47_80, aq, ↓ap, qe0, qe1, qe2, *, -hK, onEnd_ret]
  refine ⟨.inr trivial, ?_⟩
  (iterate 4 (apply plan_takeB rfl rfl rfl ‹_›; (focus (intro HX hHX; simp -implicitDefEqProofs (disch := first | omega | (simp only [qd] <;> omega)) only [xq, ↓xp, qc, Nat.reduceAdd, List.range, List.range.loop, fine, Nat.reduceEqDiff, ↓reduceIte, yielded, reduceCtorEq, Nat.reduceLT, Nat.reduceMul, Nat.reduceSub, one, Nat.reduceLeDiff, runX_cons, y47_80, aq, ↓ap, qe0, qe1, qe2, *, -hK, YN_value] <;> (first | exact rfl | exact ⟨rfl, rfl⟩ | exact ⟨rfl, trivial⟩))); simp -implicitDefEqProofs (disch := first | omega | (simp only [qd] <;> omega)) only [act_put, act_put_none]))
  refine plan_nil (hK _ _ ?_)
  clear hK K
  (refine @Hid.out _ ?_; refine zA y47_80 ?_; (repeat (refine inC ?_; intro hc)); try (refine inK ?_; intro K hK))
  (refine wpX_ret ?_; (try simp only [nq, ↓reduceIte, Nat.reduceEqDiff]); rw [bodyX_ret, results_two Tryz.results47 (by decide) (by decide)]; simp only [upd_get, Nat.reduceEqDiff, ↓reduceIte])
  exact ⟨l13, _, _, rfl, hres⟩
theorem rule_spec (main : Md) (H : Hp) (n : HN) (v : HV) (hd : HaulIn H n v) (mi : Int) (h1 : 1 ≤ mi) (h20 : mi ≤ 20) :
    FnX Tryz.prog main 51 #[n.agg v, .int .i64 mi] H fun e H' => H.le H' ∧ ∃ y c, e = .returned (.tuple #[.int .i64 y, .int .i64 c]) ∧ match (numsL 0 4).find? (soF n mi 3) with
      | some x => y = x ∧ c = 0
      | none => y = 0 ∧ c = 11 := by
  have hle := fun H' lv (hd' : HaulIn H' n v) hlv => least_spec main H' n v hd' 3 (by omega) lv (numsL 0 4) hlv (by rw [numsL_len]; omega) (fun k hk H' h => by
    have hk' : 0 ≤ k ∧ k ≤ 3 := by
      obtain ⟨i, hi, rfl⟩ := List.mem_map.1 hk
      have := List.mem_range.1 hi
      omega
    exact { h with r0 := hk'.1, r3 := hk'.2 }) mi h1 h20
  simp only [HN.agg] at hle ⊢
  have hnum := fun H' => numbers_spec main H' 0 3 4 (by omega) (by omega) (by omega)
  generalize numsL 0 4 = ls at hle hnum ⊢
  refine FnX_start Tryz.func51 rfl Tryz.ntmps51 (by simp) ?_
  (refine @Hid.out _ ?_; refine zA y51_80 ?_; (repeat (refine inC ?_; intro hc)); try (refine inK ?_; intro K hK))
  (intro ab hab; generalize hG : Hp.set _ ab _ = H1; have lH1 := le_of_set hG hab; have vab := at_of_set hG; clear hG)
  have hd1 := hd.le lH1
  ((try (refine @Hid.out _ ?_; refine zX y51_80 ?_)); (try (refine hK _ _ ?_; clear hK K; (try simp only [nq, ↓reduceIte, Nat.reduceEqDiff]))); refine @Hid.out _ ?_; refine zA y51_80 ?_; (repeat (refine inC ?_; intro hc)); try (refine inK ?_; intro K hK))
  refine wpX_dlast (fun HX => HX ab = some (true, .cells #[.int .i64 n.places, .int .i64 n.pieces, v.sv, v.cv, v.tv, .int .i64 n.rule, v.xv, .int .i64 n.notice, .int .i64 n.load, .int .i64 n.barrows, .int .i64 n.lo, .int .i64 n.hi] 29 (0, 0))) 8 [(true, 0), (true, 2), (false, 1), (false, 3), (true, 4), (true, 5), (true, 6), (true, 7)] (by kernel_rfl) (by kernel_rfl) (by simp) (by kernel_rfl) ?_; intro K hK
  (iterate 2 (apply plan_takeB rfl rfl rfl ‹_›; (focus (intro HX hHX; simp -implicitDefEqProofs (disch := first | omega | (simp only [qd] <;> omega)) only [xq, ↓xp, qc, Nat.reduceAdd, List.range, List.range.loop, fine, Nat.reduceEqDiff, ↓reduceIte, yielded, reduceCtorEq, Nat.reduceLT, Nat.reduceMul, Nat.reduceSub, one, Nat.reduceLeDiff, runX_cons, y51_80, aq, ↓ap, qe0, qe1, qe2, *, -hK, YN_value] <;> (first | exact rfl | exact ⟨rfl, rfl⟩ | exact ⟨rfl, trivial⟩))); simp -implicitDefEqProofs (disch := first | omega | (simp only [qd] <;> omega)) only [act_put, act_put_none]))
  refine planX_act ?_
  simp -implicitDefEqProofs (disch := first | omega | (simp only [qd] <;> omega)) only [xq, ↓xp, qc, Nat.reduceAdd, List.range, List.range.loop, fine, Nat.reduceEqDiff, ↓reduceIte, yielded, reduceCtorEq, Nat.reduceLT, Nat.reduceMul, Nat.reduceSub, one, Nat.reduceLeDiff, runX_cons, y51_80, aq, ↓ap, qe0, qe1, qe2, *, -hK]
  refine (hnum H1).runs.mono ?_
  rintro _ H2 ⟨lv, rfl, hrow⟩
  have lH2 := hrow.1.toLe
  have vab2 := lH2 _ _ vab
  have hd2 := hd1.le lH2
  have hsl := hrow.ints
  have l12 := Hp.le_trans lH1 lH2
  clear hnum hrow vab hd1 lH1 lH2
  obtain ⟨la, ln, lc, rfl⟩ := hsl.isSlice
  simp -implicitDefEqProofs (disch := first | omega | (simp only [qd] <;> omega)) only [xq, ↓xp, qc, Nat.reduceAdd, List.range, List.range.loop, fine, Nat.reduceEqDiff, ↓reduceIte, yielded, reduceCtorEq, Nat.reduceLT, Nat.reduceMul, Nat.reduceSub, one, Nat.reduceLeDiff, runX_cons, y51_80, aq, ↓ap, qe0, qe1, qe2, *, -hK, onEnd_ret]
  refine ⟨.inr trivial, ?_⟩
  refine planX_act ?_
  simp -implicitDefEqProofs (disch := first | omega | (simp only [qd] <;> omega)) only [xq, ↓xp, qc, Nat.reduceAdd, List.range, List.range.loop, fine, Nat.reduceEqDiff, ↓reduceIte, yielded, reduceCtorEq, Nat.reduceLT, Nat.reduceMul, Nat.reduceSub, one, Nat.reduceLeDiff, runX_cons, y51_80, aq, ↓ap, qe0, qe1, qe2, *, -hK]
  refine (hle H2 _ hd2 hsl).runs.mono ?_
  rintro _ H3 ⟨lH3, y, c, rfl, hres⟩
  have vab3 := lH3 _ _ vab2
  have l13 := Hp.le_trans l12 lH3
  clear hle hsl vab2 hd2
  simp -implicitDefEqProofs (disch := first | omega | (simp only [qd] <;> omega)) only [xq, ↓xp, qc, Nat.reduceAdd, List.range, List.range.loop, fine, Nat.reduceEqDiff, ↓reduceIte, yielded, reduceCtorEq, Nat.reduceLT, Nat.reduceMul, Nat.reduceSub, one, Nat.reduceLeDiff, runX_cons, y51_80, aq, ↓ap, qe0, qe1, qe2, *, -hK, onEnd_ret]
  refine ⟨.inr trivial, ?_⟩
  (iterate 4 (apply plan_takeB rfl rfl rfl ‹_›; (focus (intro HX hHX; simp -implicitDefEqProofs (disch := first | omega | (simp only [qd] <;> omega)) only [xq, ↓xp, qc, Nat.reduceAdd, List.range, List.range.loop, fine, Nat.reduceEqDiff, ↓reduceIte, yielded, reduceCtorEq, Nat.reduceLT, Nat.reduceMul, Nat.reduceSub, one, Nat.reduceLeDiff, runX_cons, y51_80, aq, ↓ap, qe0, qe1, qe2, *, -hK, YN_value] <;> (first | exact rfl | exact ⟨rfl, rfl⟩ | exact ⟨rfl, trivial⟩))); simp -implicitDefEqProofs (disch := first | omega | (simp only [qd] <;> omega)) only [act_put, act_put_none]))
  refine plan_nil (hK _ _ ?_)
  clear hK K
  (refine @Hid.out _ ?_; refine zA y51_80 ?_; (repeat (refine inC ?_; intro hc)); try (refine inK ?_; intro K hK))
  (refine wpX_ret ?_; (try simp only [nq, ↓reduceIte, Nat.reduceEqDiff]); rw [bodyX_ret, results_two Tryz.results51 (by decide) (by decide)]; simp only [upd_get, Nat.reduceEqDiff, ↓reduceIte])
  exact ⟨l13, _, _, rfl, hres⟩
end Go.Proofs.YtofmadjgbcopdaaGreatDoor
end
section
set_option linter.unusedSimpArgs false
set_option maxRecDepth 100000
set_option maxHeartbeats 1000000
set_option linter.unusedVariables false
namespace Go.Proofs.YtofmadjgbcopdaaGreatDoor
open Go Go.X
set_option linter.defProp false
def y45_81 := And.intro (fun H => loadAt_aggE (H := H) Tryz.underlying29 rfl Tryz.sizeOf29) (And.intro @callF68 (And.intro (fun H => ex_alloc (H := H) (P := Tryz.prog) (h := Tryz.zeroValue81)) (And.intro (fun H => storeAt_ptr (H := H) Tryz.sizeOf81) (And.intro (fun H => ex_alloc (H := H) (P := Tryz.prog) (h := Tryz.zeroValue113)) (And.intro (fun H => storeAt_func (H := H) Tryz.sizeOf113) (And.intro (fun H => storeAt_nilFunc (H := H) Tryz.sizeOf113) (And.intro @callF91 (And.intro @callF92 @callF93))))))))
def y94_81 := And.intro (fun H => loadAt_one (H := H) Tryz.underlying113 rfl) (fun H => loadAt_one (H := H) Tryz.underlying81 rfl)
def slowF (n : HN) (k : Int) : Bool := goodF n n.jobs k n.load.toNat n.jobs.length bs0 0
theorem slowSo_spec (main : Md) (H : Hp) (hb : Nat) (n : HN) (v : HV) (jv : Value) (hh : HaulAt H hb n v jv n.jobs) (l1 : 1 ≤ n.load) (l3 : n.load ≤ 3) (k : Int) (h1 : 1 ≤ k) (h20 : k ≤ 20) (hl : n.jobs.length ≤ 8) (fb pb : Nat)
    (vf : H fb = some (true, .cells #[.func (.func 90) #[] #[]] 113 (0, 0))) (vp : H pb = some (true, .cells #[.pointer (some ⟨hb, 0, none⟩)] 81 (0, 0))) :
    FnX Tryz.prog main 94 #[.int .i64 k, .pointer (some ⟨fb, 0, none⟩), .pointer (some ⟨pb, 0, none⟩)] H fun e H' => e = .returned (.bool (slowF n k)) ∧ H.le H' := by
  refine FnX_start Tryz.func94 rfl Tryz.ntmps94 (by simp) ?_
  (refine @Hid.out _ ?_; refine zA y94_81 ?_; (repeat (refine inC ?_; intro hc)); try (refine inK ?_; intro K hK))
  rw [callF90, uponX_enterK]
  simp only [Array.empty_append, Array.append_empty, List.append_toArray, List.cons_append, List.nil_append, Array.toList_append]
  refine (some_spec main H hb n v jv n.jobs hh l1 l3 k h1 h20 (by omega)).runs.mono ?_
  rintro _ H2 ⟨rfl, lH2⟩
  rw [show goodF n n.jobs k n.load.toNat n.jobs.length bs0 0 = slowF n k from rfl]
  ((try (refine @Hid.out _ ?_; refine zX y94_81 ?_)); (try (refine hK _ _ ?_; clear hK K; (try simp only [nq, ↓reduceIte, Nat.reduceEqDiff]))); refine @Hid.out _ ?_; refine zA y94_81 ?_; (repeat (refine inC ?_; intro hc)); try (refine inK ?_; intro K hK))
  (refine wpX_ret ?_; (try simp only [nq, ↓reduceIte, Nat.reduceEqDiff]); rw [bodyX_ret, results_one Tryz.results94 (by decide)]; simp only [upd_get, Nat.reduceEqDiff, ↓reduceIte])
  exact ⟨by trivial, lH2⟩
theorem Slowest_spec (main : Md) (H : Hp) (n : HN) (v : HV) (hd : HaulIn H n v) :
    FnX Tryz.prog main 45 #[n.agg v] H fun e H' => H.le H' ∧ ∃ y c, e = .returned (.tuple #[.int .i64 y, .int .i64 c]) ∧ match (numsL 1 20).reverse.find? (slowF n) with
      | some x => y = x ∧ c = 0
      | none => y = 0 ∧ c = 11 := by
  have hop := fun H' h => bopen_spec main H' n v h
  have hnum := fun H' => numbers_spec main H' 1 20 20 (by omega) (by omega) (by omega)
  have hlen := numsL_len 1 20
  have hmem : ∀ x ∈ numsL 1 20, 1 ≤ x ∧ x ≤ 20 := fun x hx => by
    obtain ⟨i, hi, rfl⟩ := List.mem_map.1 hx
    have := List.mem_range.1 hi
    omega
  generalize numsL 1 20 = ls at hnum hlen hmem ⊢
  simp only [HN.agg] at hop ⊢
  refine FnX_start Tryz.func45 rfl Tryz.ntmps45 (by simp) ?_
  (refine @Hid.out _ ?_; refine zA y45_81 ?_; (repeat (refine inC ?_; intro hc)); try (refine inK ?_; intro K hK))
  (intro ab hab; generalize hG : Hp.set _ ab _ = H1; have lH1 := le_of_set hG hab; have vab := at_of_set hG; clear hG)
  have hd1 := hd.le lH1
  ((try (refine @Hid.out _ ?_; refine zX y45_81 ?_)); (try (refine hK _ _ ?_; clear hK K; (try simp only [nq, ↓reduceIte, Nat.reduceEqDiff]))); refine @Hid.out _ ?_; refine zA y45_81 ?_; (repeat (refine inC ?_; intro hc)); try (refine inK ?_; intro K hK))
  refine (hop H1 hd1).runs.mono ?_
  rintro _ H2 ⟨hb, jv, rfl, lH2, vhb, hj⟩
  obtain ⟨j8, jb, _⟩ := hd.jobs
  have hat := hd1.at lH2 vhb hj jb (by omega)
  have l12 := Hp.le_trans lH1 lH2
  clear hop vab lH1 lH2 hd1 vhb hj
  ((try (refine @Hid.out _ ?_; refine zX y45_81 ?_)); (try (refine hK _ _ ?_; clear hK K; (try simp only [nq, ↓reduceIte, Nat.reduceEqDiff]))); refine @Hid.out _ ?_; refine zA y45_81 ?_; (repeat (refine inC ?_; intro hc)); try (refine inK ?_; intro K hK))
  (intro pb hpb; generalize hG : Hp.set _ pb _ = H3; have lH3 := le_of_set hG hpb; have vpb := at_of_set hG; clear hG)
  have hat3 := hat.le lH3
  have l13 := Hp.le_trans l12 lH3
  clear l12 hat lH3 hpb
  ((try (refine @Hid.out _ ?_; refine zX y45_81 ?_)); (try (refine hK _ _ ?_; clear hK K; (try simp only [nq, ↓reduceIte, Nat.reduceEqDiff]))); refine @Hid.out _ ?_; refine zA y45_81 ?_; (repeat (refine inC ?_; intro hc)); try (refine inK ?_; intro K hK))
  (intro fb hfb; generalize hG : Hp.set _ fb _ = H5; have lH5 := le_of_set hG hfb; have vfb := at_of_set hG; clear hG)
  replace vfb : H5 fb = some (true, .cells #[.func (.func 90) #[] #[]] 113 (0, 0)) := vfb
  have vp5 := lH5 _ _ vpb
  have hat5 := hat3.le lH5
  have l15 := Hp.le_trans l13 lH5
  clear vpb lH5 hfb hat3 l13
  refine ⟨by decide, ?_⟩
  ((try (refine @Hid.out _ ?_; refine zX y45_81 ?_)); (try (refine hK _ _ ?_; clear hK K; (try simp only [nq, ↓reduceIte, Nat.reduceEqDiff]))); refine @Hid.out _ ?_; refine zA y45_81 ?_; (repeat (refine inC ?_; intro hc)); try (refine inK ?_; intro K hK))
  refine (hnum H5).runs.mono ?_
  rintro _ H6 ⟨lv, rfl, hrow⟩
  have vf6 := hrow.1.toLe _ _ vfb
  have vp6 := hrow.1.toLe _ _ vp5
  clear hnum
  rcases hrow.2 with ⟨_, hnil⟩ | ⟨b, c, cap, h0b, hb6, rfl, hcs, hcl, hget⟩
  · exfalso
    have := congrArg List.length hnil
    rw [ints_len, hlen] at this
    cases this
  have l06 := Hp.le_trans l15 hrow.1.toLe
  have n1 : fb ≠ b := fun h => by rw [h, h0b] at vfb; cases vfb
  have n2 : pb ≠ b := fun h => by rw [h, h0b] at vp5; cases vp5
  rw [ints_len] at hcl ⊢
  have hrev := reverse_spec main H6 ls b cap c hb6 (by omega) (by omega) hcs hcl hget
  clear hget hcs vfb vp5 jb
  replace hmem : SameP (∀ x ∈ ls, 1 ≤ x ∧ x ≤ 20) := hmem
  replace hlen : SameP (ls.length = 20) := hlen
  replace hrev : SameP _ := hrev
  ((try (refine @Hid.out _ ?_; refine zX y45_81 ?_)); (try (refine hK _ _ ?_; clear hK K; (try simp only [nq, ↓reduceIte, Nat.reduceEqDiff]))); refine @Hid.out _ ?_; refine zA y45_81 ?_; (repeat (refine inC ?_; intro hc)); try (refine inK ?_; intro K hK))
  replace hrev : FnX _ _ _ _ _ _ := hrev
  refine hrev.runs.mono ?_
  rintro _ H7 ⟨rfl, c', hH7, hcs', hget'⟩
  have hb7 : H7 b = some (true, .cells c' 3 (0, 0)) := by rw [hH7]; exact set_at
  have vf7 : H7 fb = _ := (by rw [hH7]; exact set_ne n1 : H7 fb = H6 fb).trans vf6
  have vp7 : H7 pb = _ := (by rw [hH7]; exact set_ne n2 : H7 pb = H6 pb).trans vp6
  have l07 : H.le H7 := fun x u hx => by
    have h5 := l15 _ _ hx
    rw [hH7, set_ne (fun h => by rw [h, h0b] at h5; cases h5)]
    exact l06 _ _ hx
  have hmem' : ∀ x ∈ ls.reverse, 1 ≤ x ∧ x ≤ 20 := fun x hx => hmem x (by simpa using hx)
  have hl20 : ls.reverse.length ≤ 1000 := by
    have h : ls.length = 20 := hlen
    rw [List.length_reverse]
    omega
  have h0b' : H b = none := Hp.le_none l15 h0b
  have hsl : SlI H7 (.slice (some ⟨b, 0, none⟩) ls.length cap) ls.reverse := by
    have hr : RowX none H H7 (.slice (some ⟨b, 0, none⟩) (ints ls.reverse).length cap) 3 (ints ls.reverse) :=
      ⟨Lex.of l07, .inr ⟨b, c', cap, h0b', hb7, rfl, hcs', by rw [ints_len, List.length_reverse]; exact hcl, hget'⟩⟩
    rw [ints_len, List.length_reverse] at hr
    exact hr.ints
  have l57 : H5.le H7 := fun x u hx => by
    rw [hH7, set_ne (fun h => by rw [h, h0b] at hx; cases hx)]
    exact hrow.1.toLe _ _ hx
  have hat7 := hat5.le l57
  have hl1 := hd.l1
  have hl3 := hd.l3
  have hfo := firstOf_spec main H7 _ ls.reverse hsl hl20 (.func 94) #[] #[.pointer (some ⟨fb, 0, none⟩), .pointer (some ⟨pb, 0, none⟩)] (slowF n) (fun H' k hl hk => by
    refine CallV.of_fn (fun _ _ _ _ => callF94 _ _ _) ?_
    exact slowSo_spec main H' hb n v jv (hat7.le hl) hl1 hl3 k (hmem' k hk).1 (hmem' k hk).2 j8 fb pb (hl _ _ vf7) (hl _ _ vp7))
  clear hmem' hl20 hsl hmem hlen hrev hrow hH7 hget' hat5 hb7 hb6 vf6 vp6 l06 l15 l57 h0b hcs'
  ((try (refine @Hid.out _ ?_; refine zX y45_81 ?_)); (try (refine hK _ _ ?_; clear hK K; (try simp only [nq, ↓reduceIte, Nat.reduceEqDiff]))); refine @Hid.out _ ?_; refine zA y45_81 ?_; (repeat (refine inC ?_; intro hc)); try (refine inK ?_; intro K hK))
  refine hfo.runs.mono ?_
  rintro _ H8 ⟨lH8, y, is, rfl, hres⟩
  have l08 := Hp.le_trans l07 lH8
  clear hfo
  cases hpf : ls.reverse.find? (slowF n) with
  | none =>
    rw [hpf] at hres
    obtain ⟨rfl, rfl⟩ := hres
    ((try (refine @Hid.out _ ?_; refine zX y45_81 ?_)); (try (refine hK _ _ ?_; clear hK K; (try simp only [nq, ↓reduceIte, Nat.reduceEqDiff]))); refine @Hid.out _ ?_; refine zA y45_81 ?_; (repeat (refine inC ?_; intro hc)); try (refine inK ?_; intro K hK))
    (refine wpX_ret ?_; (try simp only [nq, ↓reduceIte, Nat.reduceEqDiff]); rw [bodyX_ret, results_two Tryz.results45 (by decide) (by decide)]; simp only [upd_get, Nat.reduceEqDiff, ↓reduceIte])
    exact ⟨l08, _, _, rfl, by rw [hpf]; exact ⟨rfl, rfl⟩⟩
  | some x =>
    rw [hpf] at hres
    obtain ⟨rfl, rfl⟩ := hres
    ((try (refine @Hid.out _ ?_; refine zX y45_81 ?_)); (try (refine hK _ _ ?_; clear hK K; (try simp only [nq, ↓reduceIte, Nat.reduceEqDiff]))); refine @Hid.out _ ?_; refine zA y45_81 ?_; (repeat (refine inC ?_; intro hc)); try (refine inK ?_; intro K hK))
    (refine wpX_ret ?_; (try simp only [nq, ↓reduceIte, Nat.reduceEqDiff]); rw [bodyX_ret, results_two Tryz.results45 (by decide) (by decide)]; simp only [upd_get, Nat.reduceEqDiff, ↓reduceIte])
    exact ⟨l08, _, _, rfl, by rw [hpf]; exact ⟨rfl, rfl⟩⟩
end Go.Proofs.YtofmadjgbcopdaaGreatDoor
end
section
set_option linter.unusedSimpArgs false
set_option maxRecDepth 100000
set_option maxHeartbeats 1000000
set_option linter.unusedVariables false
namespace Go.Proofs.YtofmadjgbcopdaaGreatDoor
open Go Go.X
set_option linter.defProp false
def y65_83 := And.intro (fun H => ex_alloc (H := H) (P := Tryz.prog) (h := Tryz.zeroValue29)) (And.intro @lit_22_2_0_1_0 (And.intro @lit_22_1_0_0 (And.intro @lit_23_4_0_1_2_3_0 (And.intro @bld_25_0_1_2_3_0 (And.intro (fun H => ex_alloc (H := H) (P := Tryz.prog) (h := Tryz.zeroValue25)) (And.intro (fun H => storeAt_agg (H := H) Tryz.sizeOf25) (And.intro (fun H => loadAt_aggE (H := H) Tryz.underlying25 rfl Tryz.sizeOf25) (And.intro @lit_22_4_0_1_2_3_0 (And.intro @bld_27_0_1_0 (And.intro @bld_29_0_1_2_3_4_5_6_7_0 (fun H => storeAt_agg (H := H) Tryz.sizeOf29)))))))))))
def hC : HN := ⟨2, 4, 1, 8, 2, 1, 3, 6, [0, 1], [[2], [0], [1, 3], [0]], [2, 0, 1, 0], [10, 12, 20, 30]⟩
theorem sli_new {H : Hp} {b : Nat} {xs : List Int} {c : Array Value} (h : H b = some (true, .cells c 3 (0, 0))) (hc : c = (ints xs).toArray) : SlI H (.slice (some ⟨b, 0, none⟩) xs.length xs.length) xs :=
  ⟨_, _, rfl, Nat.le_refl _, fun i x hi => ⟨b, 0, true, c, (0, 0), rfl, h, by
    subst hc
    rw [Nat.zero_add]
    simp [ints, hi]⟩⟩
theorem timesC : TimesOk hC.xss.length hC.xs := by unfold TimesOk; decide
theorem okC : VaultOk hC.places hC.pieces hC.start hC.xss ∧ TruthOk hC.xss hC.ts := by
  refine ⟨by unfold VaultOk CallOk; decide, rfl, fun i t xs ht hx => ?_⟩
  match i, ht, hx with
  | 0, ht, hx => cases ht; cases hx; decide
  | 1, ht, hx => cases ht; cases hx; decide
  | 2, ht, hx => cases ht; cases hx; decide
  | 3, ht, hx => cases ht; cases hx; decide
  | i + 4, ht, hx => simp [hC] at ht
theorem haulC_spec (main : Md) (H : Hp) : FnX Tryz.prog main 65 #[] H fun e H' => ∃ v, e = .returned (hC.agg v) ∧ H.le H' ∧ HaulIn H' hC v := by
  refine FnX_start (args := []) Tryz.func65 rfl Tryz.ntmps65 (by simp) ?_
  (refine @Hid.out _ ?_; refine zA y65_83 ?_; (repeat (refine inC ?_; intro hc)); try (refine inK ?_; intro K hK))
  (intro rb hrb; generalize hG : Hp.set _ rb _ = H0; have lH0 := le_of_set hG hrb; have vrb := at_of_set hG; clear hG)
  have h0rb := hrb
  ((try (refine @Hid.out _ ?_; refine zX y65_83 ?_)); (try (refine hK _ _ ?_; clear hK K; (try simp only [nq, ↓reduceIte, Nat.reduceEqDiff]))); refine @Hid.out _ ?_; refine zA y65_83 ?_; (repeat (refine inC ?_; intro hc)); try (refine inK ?_; intro K hK))
  intro b0 hb0 b1 hb1 b2 hb2 b3 hb3 b4 hb4 b5 hb5 b6 hb6
  replace hb1 : (Hp.set H0 b0 _) b1 = none := hb1
  replace hb2 : (Hp.set (Hp.set H0 b0 _) b1 _) b2 = none := hb2
  replace hb3 : (Hp.set (Hp.set (Hp.set H0 b0 _) b1 _) b2 _) b3 = none := hb3
  replace hb4 : (Hp.set (Hp.set (Hp.set (Hp.set H0 b0 _) b1 _) b2 _) b3 _) b4 = none := hb4
  replace hb5 : (Hp.set (Hp.set (Hp.set (Hp.set (Hp.set H0 b0 _) b1 _) b2 _) b3 _) b4 _) b5 = none := hb5
  replace hb6 : (Hp.set (Hp.set (Hp.set (Hp.set (Hp.set (Hp.set H0 b0 _) b1 _) b2 _) b3 _) b4 _) b5 _) b6 = none := hb6
  generalize hG : Hp.set H0 b0 _ = HA1 at hb1 hb2 hb3 hb4 hb5 hb6 ⊢
  have lHA1 := le_of_set hG hb0
  have vb0 := at_of_set hG
  clear hG
  generalize hG : Hp.set HA1 b1 _ = HA2 at hb2 hb3 hb4 hb5 hb6 ⊢
  have lHA2 := le_of_set hG hb1
  have vb1 := at_of_set hG
  clear hG
  generalize hG : Hp.set HA2 b2 _ = HA3 at hb3 hb4 hb5 hb6 ⊢
  have lHA3 := le_of_set hG hb2
  have vb2 := at_of_set hG
  clear hG
  generalize hG : Hp.set HA3 b3 _ = HA4 at hb4 hb5 hb6 ⊢
  have lHA4 := le_of_set hG hb3
  have vb3 := at_of_set hG
  clear hG
  generalize hG : Hp.set HA4 b4 _ = HA5 at hb5 hb6 ⊢
  have lHA5 := le_of_set hG hb4
  have vb4 := at_of_set hG
  clear hG
  generalize hG : Hp.set HA5 b5 _ = HA6 at hb6 ⊢
  have lHA6 := le_of_set hG hb5
  have vb5 := at_of_set hG
  clear hG
  generalize hG : Hp.set HA6 b6 _ = HA7
  have lHA7 := le_of_set hG hb6
  have vb6 := at_of_set hG
  clear hG
  have la6 := lHA7
  have la5 := Hp.le_trans lHA6 la6
  have la4 := Hp.le_trans lHA5 la5
  have la3 := Hp.le_trans lHA4 la4
  have la2 := Hp.le_trans lHA3 la3
  have la1 := Hp.le_trans lHA2 la2
  have la0 := Hp.le_trans lHA1 la1
  have s0 : SlI HA7 (.slice (some ⟨b0, 0, none⟩) 2 2) [0, 1] := sli_new (xs := [0, 1]) (la1 _ _ vb0) rfl
  have s1 : SlI HA7 (.slice (some ⟨b1, 0, none⟩) 1 1) [2] := sli_new (xs := [2]) (la2 _ _ vb1) rfl
  have s2 : SlI HA7 (.slice (some ⟨b2, 0, none⟩) 1 1) [0] := sli_new (xs := [0]) (la3 _ _ vb2) rfl
  have s3 : SlI HA7 (.slice (some ⟨b3, 0, none⟩) 2 2) [1, 3] := sli_new (xs := [1, 3]) (la4 _ _ vb3) rfl
  have s4 : SlI HA7 (.slice (some ⟨b4, 0, none⟩) 1 1) [0] := sli_new (xs := [0]) (la5 _ _ vb4) rfl
  have v5 := la6 _ _ vb5
  have hrows : SlR HA7 (.slice (some ⟨b5, 0, none⟩) 4 4) [[2], [0], [1, 3], [0]] := ⟨_, _, rfl, Nat.le_refl _, fun i xs hi => by
    match i, hi with
    | 0, hi => cases hi; exact ⟨b5, 0, _, _, _, _, rfl, v5, rfl, s1⟩
    | 1, hi => cases hi; exact ⟨b5, 0, _, _, _, _, rfl, v5, rfl, s2⟩
    | 2, hi => cases hi; exact ⟨b5, 0, _, _, _, _, rfl, v5, rfl, s3⟩
    | 3, hi => cases hi; exact ⟨b5, 0, _, _, _, _, rfl, v5, rfl, s4⟩
    | i + 4, hi => simp at hi⟩
  have vrb1 := la0 _ _ vrb
  have lA : H.le HA7 := Hp.le_trans lH0 la0
  have n1 : HA7 rb ≠ none := by rw [vrb1]; simp
  clear la0 la1 la2 la3 la4 la5 la6 lHA1 lHA2 lHA3 lHA4 lHA5 lHA6 lHA7 vb0 vb1 vb2 vb3 vb4 vb5 v5 s1 s2 s3 s4 hb0 hb1 hb2 hb3 hb4 hb5 hb6 vrb lH0 hrb
  ((try (refine @Hid.out _ ?_; refine zX y65_83 ?_)); (try (refine hK _ _ ?_; clear hK K; (try simp only [nq, ↓reduceIte, Nat.reduceEqDiff]))); refine @Hid.out _ ?_; refine zA y65_83 ?_; (repeat (refine inC ?_; intro hc)); try (refine inK ?_; intro K hK))
  intro c0 hc0 c1 hc1
  replace hc1 : (Hp.set HA7 c0 _) c1 = none := hc1
  generalize hG : Hp.set HA7 c0 _ = HB1 at hc1 ⊢
  have lHB1 := le_of_set hG hc0
  have vc0 := at_of_set hG
  clear hG
  generalize hG : Hp.set HB1 c1 _ = HB2
  have lHB2 := le_of_set hG hc1
  have vc1 := at_of_set hG
  clear hG
  have l2 := Hp.le_trans lHB1 lHB2
  have t0 : SlI HB2 (.slice (some ⟨c0, 0, none⟩) 4 4) [2, 0, 1, 0] := sli_new (xs := [2, 0, 1, 0]) (lHB2 _ _ vc0) rfl
  have t1 : SlI HB2 (.slice (some ⟨c1, 0, none⟩) 4 4) [10, 12, 20, 30] := sli_new (xs := [10, 12, 20, 30]) vc1 rfl
  have s0' := s0.le l2
  have hrows' := hrows.le l2
  have vrb2 := l2 _ _ vrb1
  have lB := Hp.le_trans lA l2
  have nrc0 : rb ≠ c0 := ne_new vrb1 hc0
  have nrc1 : rb ≠ c1 := ne_new (lHB1 _ _ vrb1) hc1
  clear s0 hrows vrb1 lA lHB1 lHB2 vc0 vc1 hc0 hc1 l2 n1
  rw [if_neg nrc1, if_neg nrc0]
  ((try (refine @Hid.out _ ?_; refine zX y65_83 ?_)); (try (refine hK _ _ ?_; clear hK K; (try simp only [nq, ↓reduceIte, Nat.reduceEqDiff]))); refine @Hid.out _ ?_; refine zA y65_83 ?_; (repeat (refine inC ?_; intro hc)); try (refine inK ?_; intro K hK))
  (refine wpX_ret ?_; (try simp only [nq, ↓reduceIte, Nat.reduceEqDiff]); rw [bodyX_ret, results_cell Tryz.results65 (by decide) (b := rb) (o := 0) rfl Tryz.underlying29 rfl Tryz.sizeOf29]; simp -implicitDefEqProofs (disch := first | omega | (simp only [qd] <;> omega)) only [xq, ↓xp, qc, Nat.reduceAdd, List.range, List.range.loop, fine, Nat.reduceEqDiff, ↓reduceIte, yielded, reduceCtorEq, Nat.reduceLT, Nat.reduceMul, Nat.reduceSub, one, Nat.reduceLeDiff, runX_cons, y65_83, loadA_set])
  generalize hG : HB2.set rb _ = H9
  have hmv : ∀ x p c fr e, (e = 3 ∨ e = 22) → HB2 x = some (p, .cells c e fr) → H9 x = some (p, .cells c e fr) := fun x p c fr e he hx => by
    rw [← hG, set_ne (fun h => ?_)]
    · exact hx
    · rw [h, vrb2] at hx
      simp only [Option.some.injEq, Prod.mk.injEq, Obj.cells.injEq] at hx
      have h9 := hx.2.2.1
      rcases he with rfl | rfl <;> exact absurd h9 (by decide)
  refine ⟨⟨.slice (some ⟨b0, 0, none⟩) 2 2, .slice (some ⟨b5, 0, none⟩) 4 4, .slice (some ⟨c0, 0, none⟩) 4 4, .slice (some ⟨c1, 0, none⟩) 4 4⟩, rfl, hG ▸ ((Lex.of lB : Lex none H HB2).own h0rb).toLe, ?_⟩
  exact { day := ⟨s0'.move fun x p c fr hx => hmv x p c fr _ (.inl rfl) hx, hrows'.move hmv, t0.move fun x p c fr hx => hmv x p c fr _ (.inl rfl) hx, okC.1, by decide, okC.2⟩,
          times := t1.move fun x p c fr hx => hmv x p c fr _ (.inl rfl) hx,
          ok := timesC,
          r0 := by decide, r3 := by decide, n0 := by decide, n30 := by decide, l1 := by decide, l3 := by decide, b1 := by decide, b4 := by decide, t1 := by decide, t2 := by decide, t20 := by decide }
end Go.Proofs.YtofmadjgbcopdaaGreatDoor
end
section
set_option linter.unusedSimpArgs false
set_option maxRecDepth 100000
set_option maxHeartbeats 1000000
set_option linter.unusedVariables false
namespace Go.X
open Go
theorem eqG_agg {P : Program} {H : Hp} {t : TypeId} (h : P.eqGuardType P.depth t = false) (op : BinOp) (x y : Operand) (p q : Array Value) (K : Unit → Hp → Prop) (E : Value → Hp → Prop) : wpS P (eqGuard op t x y (.agg p) (.agg q)) H K E = K () H := by
  unfold eqGuard
  cases op <;> first | rfl | (simp only [wpS_bind', wpS_program, h, Bool.not_false, if_true]; first | rfl | (simp [wpS_bind', wpS_program, h, wpS_pure]; done))
structure Num3 (P : Program) (ks : TypeId) : Prop where
  ex : ∃ f1 f2 f3 : Field, P.underlying ks = some (.struct #[f1, f2, f3]) ∧ f1.name ≠ "_" ∧ f2.name ≠ "_" ∧ f3.name ≠ "_" ∧ f1.offset = 0 ∧ f2.offset = 1 ∧ f3.offset = 2 ∧ (∃ d, P.underlying f1.type = some (.int d)) ∧ (∃ d, P.underlying f2.type = some (.int d)) ∧ (∃ d, P.underlying f3.type = some (.int d))
  held : P.stoodInHeld ks = false
theorem bin_neq3 {P : Program} {H : Hp} {ks : TypeId} (h : Num3 P ks) (a b c a' b' c' : Int) (K : Value → Hp → Prop) (E : Value → Hp → Prop) :
    wpS P (binOp .neq ks (.agg #[.int .i64 a, .int .i64 b, .int .i64 c]) (.agg #[.int .i64 a', .int .i64 b', .int .i64 c'])) H K E = K (.bool !(a == a' && (b == b' && c == c'))) H := by
  obtain ⟨⟨f1, f2, f3, hu, hn1, hn2, hn3, ho1, ho2, ho3, ⟨d1, h1⟩, ⟨d2, h2⟩, ⟨d3, h3⟩⟩, hh⟩ := h
  simp only [binOp]
  rw [wpS_bind']
  unfold Op.equal Op.maxDepth
  rw [show (10000 : Nat) = 9998 + 1 + 1 from rfl]
  unfold Op.equalIn
  simp only [wpS_bind', wpS_underlying hu, wpS_program, hh, Bool.false_eq_true, if_false, wpS_pure, List.forIn_toArray, List.forIn_cons, List.forIn_nil, hn1, hn2, hn3, ne_eq, not_false_eq_true, if_true]
  rw [part_one h1 rfl (v := .int .i64 a) _ _ (by simp [ho1])]
  rw [part_one h1 rfl (v := .int .i64 a') _ _ (by simp [ho1]), show (9999 : Nat) = 9998 + 1 from rfl, equal_int h1]
  cases a == a'
  · simp only [Bool.not_false, if_true, wpS_pure, Bool.false_and]
  · simp only [Bool.not_true, Bool.false_eq_true, if_false, wpS_pure, Bool.true_and, wpS_bind']
    rw [part_one h2 rfl (v := .int .i64 b) _ _ (by simp [ho2]), part_one h2 rfl (v := .int .i64 b') _ _ (by simp [ho2]), equal_int h2]
    cases b == b'
    · simp only [Bool.not_false, if_true, wpS_pure, Bool.false_and]
    · simp only [Bool.not_true, Bool.false_eq_true, if_false, wpS_pure, Bool.true_and, wpS_bind']
      rw [part_one h3 rfl (v := .int .i64 c) _ _ (by simp [ho3]), part_one h3 rfl (v := .int .i64 c') _ _ (by simp [ho3]), equal_int h3]
      cases c == c'
      · simp only [Bool.not_false, if_true, wpS_pure]
      · simp only [Bool.not_true, Bool.false_eq_true, if_false, wpS_pure]
end Go.X
namespace Go.Proofs.YtofmadjgbcopdaaGreatDoor
open Go Go.X
set_option linter.defProp false
def y36_84 := And.intro (fun H => len_slice (H := H) Tryz.underlying45) (And.intro (fun H => indexAt_slice (H := H) Tryz.underlying45 Tryz.sizeOf61) (fun H => loadAt_aggE (H := H) Tryz.underlying61 rfl Tryz.sizeOf61))
theorem z0_84 {p q : Prop} (g : q) (h : Hid q → p := by
  intro g
  repeat' (first
  | (refine wpX_stmtL rfl ?_; intro Kz hKz; simp -implicitDefEqProofs (disch := first | omega | (simp only [qd] <;> omega)) only [xq, ↓xp, qc, Nat.reduceAdd, List.range, List.range.loop, fine, Nat.reduceEqDiff, ↓reduceIte, yielded, reduceCtorEq, Nat.reduceLT, Nat.reduceMul, Nat.reduceSub, one, Nat.reduceLeDiff, runX_cons, y36_84, aq, ↓ap, qe0, qe1, qe2, *, -g, -hKz, bin_neq3 num3R, eqG_agg guardR]; try (refine hKz _ _ ?_; clear hKz Kz))
  | (refine wpX_lastL rfl ?_; intro Kz hKz; simp -implicitDefEqProofs (disch := first | omega | (simp only [qd] <;> omega)) only [xq, ↓xp, qc, Nat.reduceAdd, List.range, List.range.loop, fine, Nat.reduceEqDiff, ↓reduceIte, yielded, reduceCtorEq, Nat.reduceLT, Nat.reduceMul, Nat.reduceSub, one, Nat.reduceLeDiff, runX_cons, y36_84, aq, ↓ap, qe0, qe1, qe2, *, -g, -hKz, bin_neq3 num3R, eqG_agg guardR]; try (refine hKz _ _ ?_; clear hKz Kz; (try simp only [nq, ↓reduceIte, Nat.reduceEqDiff])))
  | (refine wpX_skip ?_; (try simp only [nq, ↓reduceIte, Nat.reduceEqDiff]))
  | (refine wpX_label ?_; (try simp only [nq, ↓reduceIte, Nat.reduceEqDiff]))
  | (refine wpX_exit ?_; (try simp only [nq, ↓reduceIte, Nat.reduceEqDiff]))
  | (refine wpX_goto ?_; (try simp only [nq, ↓reduceIte, Nat.reduceEqDiff]))
  | (refine wpX_condK (by simp only [act_eval, upd_get, Nat.reduceEqDiff, Nat.reduceLT, ↓reduceIte, *, -g]; rfl) ?_ ?_ <;> (intro hcz; first | (exfalso; simp -implicitDefEqProofs (disch := omega) only [*, -g, bq, reduceCtorEq] at hcz; done) | (simp only [dq, qe3, qe4, qe5, qe6] at hcz) | skip))
  | (refine wpX_scope0 ?_)
  | (refine wpX_block ?_)
  | (refine wpX_seq ?_))
  (try (revert Kz; refine unK ?_)); (repeat (revert hcz; refine unC ?_))
  exact Hid.out g) : Hid p := ⟨h ⟨g⟩⟩
theorem z1_84 {p q : Prop} (g : q) (h : Hid q → p := by
  intro g
  repeat' (first
  | (refine wpX_stmtL rfl ?_; intro Kz hKz; simp -implicitDefEqProofs (disch := first | omega | (simp only [qd] <;> omega)) only [xq, ↓xp, qc, Nat.reduceAdd, List.range, List.range.loop, fine, Nat.reduceEqDiff, ↓reduceIte, yielded, reduceCtorEq, Nat.reduceLT, Nat.reduceMul, Nat.reduceSub, one, Nat.reduceLeDiff, runX_cons, y36_84, aq, ↓ap, qe0, qe1, qe2, *, -g, -hKz, bin_neq3 num3R, eqG_agg guardR]; try (refine hKz _ _ ?_; clear hKz Kz))
  | (refine wpX_lastL rfl ?_; intro Kz hKz; simp -implicitDefEqProofs (disch := first | omega | (simp only [qd] <;> omega)) only [xq, ↓xp, qc, Nat.reduceAdd, List.range, List.range.loop, fine, Nat.reduceEqDiff, ↓reduceIte, yielded, reduceCtorEq, Nat.reduceLT, Nat.reduceMul, Nat.reduceSub, one, Nat.reduceLeDiff, runX_cons, y36_84, aq, ↓ap, qe0, qe1, qe2, *, -g, -hKz, bin_neq3 num3R, eqG_agg guardR]; try (refine hKz _ _ ?_; clear hKz Kz; (try simp only [nq, ↓reduceIte, Nat.reduceEqDiff])))
  | (refine wpX_skip ?_; (try simp only [nq, ↓reduceIte, Nat.reduceEqDiff]))
  | (refine wpX_label ?_; (try simp only [nq, ↓reduceIte, Nat.reduceEqDiff]))
  | (refine wpX_exit ?_; (try simp only [nq, ↓reduceIte, Nat.reduceEqDiff]))
  | (refine wpX_goto ?_; (try simp only [nq, ↓reduceIte, Nat.reduceEqDiff]))
  | (refine wpX_condK (by simp only [act_eval, upd_get, Nat.reduceEqDiff, Nat.reduceLT, ↓reduceIte, *, -g]; rfl) ?_ ?_ <;> (intro hcz; first | (exfalso; simp -implicitDefEqProofs (disch := omega) only [*, -g, bq, reduceCtorEq] at hcz; done) | (simp only [dq, qe3, qe4, qe5, qe6] at hcz) | skip))
  | (refine wpX_scope0 ?_)
  | (refine wpX_block ?_)
  | (refine wpX_seq ?_))
  (try (revert Kz; refine unK ?_)); (repeat (revert hcz; refine unC ?_))
  exact Hid.out g) : Hid p := ⟨h ⟨g⟩⟩
theorem z2_84 {p q : Prop} (g : q) (h : Hid q → p := by
  intro g
  repeat' (first
  | (refine wpX_stmtL rfl ?_; intro Kz hKz; simp -implicitDefEqProofs (disch := first | omega | (simp only [qd] <;> omega)) only [xq, ↓xp, qc, Nat.reduceAdd, List.range, List.range.loop, fine, Nat.reduceEqDiff, ↓reduceIte, yielded, reduceCtorEq, Nat.reduceLT, Nat.reduceMul, Nat.reduceSub, one, Nat.reduceLeDiff, runX_cons, y36_84, aq, ↓ap, qe0, qe1, qe2, *, -g, -hKz, bin_neq3 num3R, eqG_agg guardR]; try (refine hKz _ _ ?_; clear hKz Kz))
  | (refine wpX_lastL rfl ?_; intro Kz hKz; simp -implicitDefEqProofs (disch := first | omega | (simp only [qd] <;> omega)) only [xq, ↓xp, qc, Nat.reduceAdd, List.range, List.range.loop, fine, Nat.reduceEqDiff, ↓reduceIte, yielded, reduceCtorEq, Nat.reduceLT, Nat.reduceMul, Nat.reduceSub, one, Nat.reduceLeDiff, runX_cons, y36_84, aq, ↓ap, qe0, qe1, qe2, *, -g, -hKz, bin_neq3 num3R, eqG_agg guardR]; try (refine hKz _ _ ?_; clear hKz Kz; (try simp only [nq, ↓reduceIte, Nat.reduceEqDiff])))
  | (refine wpX_skip ?_; (try simp only [nq, ↓reduceIte, Nat.reduceEqDiff]))
  | (refine wpX_label ?_; (try simp only [nq, ↓reduceIte, Nat.reduceEqDiff]))
  | (refine wpX_exit ?_; (try simp only [nq, ↓reduceIte, Nat.reduceEqDiff]))
  | (refine wpX_goto ?_; (try simp only [nq, ↓reduceIte, Nat.reduceEqDiff]))
  | (refine wpX_condK (by simp only [act_eval, upd_get, Nat.reduceEqDiff, Nat.reduceLT, ↓reduceIte, *, -g]; rfl) ?_ ?_ <;> (intro hcz; first | (exfalso; simp -implicitDefEqProofs (disch := omega) only [*, -g, bq, reduceCtorEq] at hcz; done) | (simp only [dq, qe3, qe4, qe5, qe6] at hcz) | skip))
  | (refine wpX_scope0 ?_)
  | (refine wpX_block ?_)
  | (refine wpX_seq ?_))
  (try (revert Kz; refine unK ?_)); (repeat (revert hcz; refine unC ?_))
  exact Hid.out g) : Hid p := ⟨h ⟨g⟩⟩
theorem num3R : Num3 Tryz.prog 61 := ⟨⟨_, _, _, Tryz.underlying61, by decide, by decide, by decide, rfl, rfl, rfl, ⟨_, Tryz.underlying3⟩, ⟨_, Tryz.underlying3⟩, ⟨_, Tryz.underlying3⟩⟩, by kernel_rfl⟩
theorem guardR : Program.eqGuardType Tryz.prog (Program.depth Tryz.prog) 61 = false := by kernel_rfl
def RidesIn (H : Hp) (v : Value) (rs : List RideV) : Prop := ∃ (a : Option Addr) (cap : Nat), v = .slice a rs.length cap ∧ rs.length ≤ cap ∧ ∀ (i : Nat) (r : RideV), rs[i]? = some r → ∃ (b : Nat) (p : Bool) (c : Array Value) (fr : Nat × Nat), a = some ⟨b, 0, none⟩ ∧ H b = some (p, .cells c 61 fr) ∧ c.extract (i * 3) (i * 3 + 3) = #[.int .i64 r.barrow, .int .i64 r.out, .int .i64 r.back] ∧ i * 3 + 3 ≤ c.size
theorem RidesIn.le {H H' : Hp} {v : Value} {rs : List RideV} (h : RidesIn H v rs) (hl : H.le H') : RidesIn H' v rs := by
  obtain ⟨a, cap, h1, h2, h3⟩ := h
  exact ⟨a, cap, h1, h2, fun i r hi => by obtain ⟨b, p, c, fr, e1, e2, e3⟩ := h3 i r hi; exact ⟨b, p, c, fr, e1, hl _ _ e2, e3⟩⟩
theorem RidesIn.row {H₀ H : Hp} {v : Value} {rs : List RideV} (h : RowZ (Lex none) H₀ H v 61 3 rs.length (rcells rs)) : RidesIn H v rs := by
  rcases h.2 with ⟨rfl, hn, _⟩ | ⟨b, c, cap, _, hb, rfl, hcs, hcap, _, hget⟩
  · refine ⟨none, 0, by rw [hn], by omega, fun i r hi => ?_⟩
    rw [List.length_eq_zero_iff.1 hn] at hi
    cases hi
  · refine ⟨_, cap, rfl, hcap, fun i r hi => ?_⟩
    obtain ⟨g1, g2, g3⟩ := rcells_get rs i r hi
    have hlt := (List.getElem?_eq_some_iff.1 hi).1
    exact ⟨b, true, c, (0, 0), rfl, hb, extract3 (hget _ _ g1) (hget _ _ g2) (hget _ _ g3), by omega⟩
deriving instance DecidableEq for RideV
theorem likeRides_spec (m : Md) (H : Hp) (v w : Value) (xs ys : List RideV) (hv : RidesIn H v xs) (hw : RidesIn H w ys) (hx : xs.length ≤ 1000000) (hy : ys.length ≤ 1000000) :
    FnX Tryz.prog m 36 #[v, w] H fun e H' => e = .returned (.bool (decide (xs = ys))) ∧ H' = H := by
  obtain ⟨va, vc, rfl, hvc, hgv⟩ := hv
  obtain ⟨wa, wc, rfl, hwc, hgw⟩ := hw
  refine FnX_start Tryz.func36 rfl Tryz.ntmps36 (by simp) ?_
  by_cases hl : xs.length = ys.length
  · have hll := hl
    replace hl : xs.length ≤ ys.length ∧ ys.length ≤ xs.length := by omega
    replace hgv : SameP _ := hgv
    replace hgw : SameP _ := hgw
    clear hll
    (refine @Hid.out _ ?_; refine zA y36_84 ?_; (repeat (refine inC ?_; intro hc)); try (refine inK ?_; intro K hK))
    refine wpX_loop (fun w a' H' => ∃ e j, w = xs.length - j ∧ j ≤ xs.length ∧ a' = act 26 e [] ∧ e 0 = .slice va xs.length vc ∧ e 1 = .slice wa ys.length wc ∧ e 5 = .int .i64 (j : Nat) ∧ H' = H ∧ (∀ i, i < j → xs[i]? = ys[i]?)) (n := xs.length) ?_ ?_
    · exact ⟨_, 0, by omega, by omega, rfl, rfl, rfl, rfl, by trivial, fun i h => by omega⟩
    · rintro w' a' H' ⟨e, j, rfl, hj, rfl, e0, e1, e5, hH, hd⟩
      rw [hH]; clear hH H'
      by_cases hlt : j < xs.length
      · obtain ⟨b, p, c, fr, hva, hb, hex, hsz⟩ := hgv j _ (List.getElem?_eq_getElem hlt)
        have hlt2 : j < ys.length := by omega
        obtain ⟨b2, p2, c2, fr2, hwa, hb2, hex2, hsz2⟩ := hgw j _ (List.getElem?_eq_getElem hlt2)
        have hxj := List.getElem?_eq_getElem hlt
        have hyj := List.getElem?_eq_getElem hlt2
        generalize xs[j] = x at *
        generalize ys[j] = y at *
        subst hva hwa
        have hi3 : 0 + j * 3 = j * 3 := by omega
        obtain ⟨x0, x1, x2⟩ := x
        obtain ⟨y0, y1, y2⟩ := y
        simp only [] at hex hex2
        have hne : (x0 == y0 && (x1 == y1 && x2 == y2)) = false → xs ≠ ys := fun h e => by
          rw [e, hyj] at hxj
          cases hxj
          simp at h
        have hd2 : (x0 == y0 && (x1 == y1 && x2 == y2)) = true → ∀ i, i < j + 1 → xs[i]? = ys[i]? := fun h i hi => by
          by_cases he : i = j
          · rw [he, hxj, hyj]
            simp only [Bool.and_eq_true, beq_iff_eq] at h
            obtain ⟨rfl, rfl, rfl⟩ := h
            rfl
          · exact hd i (by omega)
        replace hne : SameP _ := hne
        replace hd2 : SameP _ := hd2
        clear hd hxj hyj
        (refine @Hid.out _ ?_; refine z0_84 ?_; (repeat (refine inC ?_; intro hc)); try (refine inK ?_; intro K hK))
        (refine wpX_dst1 9 [(true, 0), (true, 1), (true, 2), (true, 3), (true, 4), (true, 5), (true, 6), (true, 7), (true, 8)] (by kernel_rfl) (by kernel_rfl) (by simp) (by kernel_rfl) ?_; intro K hK; (iterate 9 (apply plan_take rfl rfl rfl; (focus (simp -implicitDefEqProofs (disch := first | omega | (simp only [qd] <;> omega)) only [xq, ↓xp, qc, Nat.reduceAdd, List.range, List.range.loop, fine, Nat.reduceEqDiff, ↓reduceIte, yielded, reduceCtorEq, Nat.reduceLT, Nat.reduceMul, Nat.reduceSub, one, Nat.reduceLeDiff, runX_cons, y36_84, aq, ↓ap, qe0, qe1, qe2, *, -hK, YN_value, bin_neq3 num3R, eqG_agg guardR] <;> (first | exact rfl | exact ⟨rfl, rfl⟩ | exact ⟨rfl, trivial⟩))); simp -implicitDefEqProofs (disch := first | omega | (simp only [qd] <;> omega)) only [act_put, act_put_none])); refine plan_nil (hK _ _ ?_); clear hK K; (try simp only [nq, ↓reduceIte, Nat.reduceEqDiff]))
        generalize (x0 == y0 && (x1 == y1 && x2 == y2)) = q at *
        cases q with
        | true =>
          (refine @Hid.out _ ?_; refine z1_84 ?_; (repeat (refine inC ?_; intro hc)); try (refine inK ?_; intro K hK))
          exact ⟨_, by omega, _, j + 1, rfl, by omega, rfl, e0, e1, rfl, by trivial, hd2 rfl⟩
        | false =>
          (refine @Hid.out _ ?_; refine z2_84 ?_; (repeat (refine inC ?_; intro hc)); try (refine inK ?_; intro K hK))
          (refine wpX_ret ?_; (try simp only [nq, ↓reduceIte, Nat.reduceEqDiff]); rw [bodyX_ret, results_one Tryz.results36 (by decide)]; simp only [upd_get, Nat.reduceEqDiff, ↓reduceIte])
          rw [decide_eq_false (hne rfl)]
          (refine ⟨?_, ?_⟩ <;> first | rfl | trivial | assumption)
      · obtain rfl : j = xs.length := by omega
        (refine @Hid.out _ ?_; refine zA y36_84 ?_; (repeat (refine inC ?_; intro hc)); try (refine inK ?_; intro K hK))
        (refine wpX_ret ?_; (try simp only [nq, ↓reduceIte, Nat.reduceEqDiff]); rw [bodyX_ret, results_one Tryz.results36 (by decide)]; simp only [upd_get, Nat.reduceEqDiff, ↓reduceIte])
        refine ⟨?_, by trivial⟩
        rw [decide_eq_true]
        exact List.ext_getElem? fun i => by
          by_cases hi : i < xs.length
          · exact hd i hi
          · rw [List.getElem?_eq_none (by omega), List.getElem?_eq_none (by omega)]
  · have hne : xs ≠ ys := fun e => hl (by rw [e])
    (refine @Hid.out _ ?_; refine zA y36_84 ?_; (repeat (refine inC ?_; intro hc)); try (refine inK ?_; intro K hK))
    (refine wpX_ret ?_; (try simp only [nq, ↓reduceIte, Nat.reduceEqDiff]); rw [bodyX_ret, results_one Tryz.results36 (by decide)]; simp only [upd_get, Nat.reduceEqDiff, ↓reduceIte])
    rw [decide_eq_false hne]
    (refine ⟨?_, ?_⟩ <;> first | rfl | trivial | assumption)
end Go.Proofs.YtofmadjgbcopdaaGreatDoor
end
section
set_option linter.unusedSimpArgs false
set_option maxRecDepth 100000
set_option maxHeartbeats 1000000
set_option linter.unusedVariables false
namespace Go.Proofs.YtofmadjgbcopdaaGreatDoor
open Go Go.X
theorem fillR2 (a b c a' b' c' : Int) : Instr.fill (fun i => some (i * 3, 3)) ((Array.range (2 * 3)).map fun x => (Value.agg #[.int .i64 0, .int .i64 0, .int .i64 0]).cells[x % (Value.agg #[.int .i64 0, .int .i64 0, .int .i64 0]).cells.size]!) [(0, .agg #[.int .i64 a, .int .i64 b, .int .i64 c]), (1, .agg #[.int .i64 a', .int .i64 b', .int .i64 c'])] = some #[.int .i64 a, .int .i64 b, .int .i64 c, .int .i64 a', .int .i64 b', .int .i64 c'] := by
  kernel_rfl
theorem build_rides2 {H : Hp} (a b c a' b' c' : Int) (K : Value → Hp → Prop) (E : Value → Hp → Prop) :
    wpS Tryz.prog (Instr.buildSlice 45 2 #[(0, .agg #[.int .i64 a, .int .i64 b, .int .i64 c]), (1, .agg #[.int .i64 a', .int .i64 b', .int .i64 c'])]) H K E = ∀ nb, H nb = none → K (.slice (some ⟨nb, 0, none⟩) 2 2) (H.set nb (.cells #[.int .i64 a, .int .i64 b, .int .i64 c, .int .i64 a', .int .i64 b', .int .i64 c'] 61 (0, 0))) := by
  unfold Instr.buildSlice
  have hn1 : ¬ 2 * 3 > 2 ^ 24 := by decide
  have hn2 : ¬ 2 * 3 = 0 := by decide
  simp only [wpS_bind', wpS_underlying Tryz.underlying45, wpS_sizeOf Tryz.sizeOf61, hn1, hn2, if_false, wpS_zeroValue Tryz.zeroValue61, wpS_pure]
  have hl : (#[(0, Value.agg #[.int .i64 a, .int .i64 b, .int .i64 c]), (1, Value.agg #[.int .i64 a', .int .i64 b', .int .i64 c'])] : Array (Nat × Value)).toList = [(0, .agg #[.int .i64 a, .int .i64 b, .int .i64 c]), (1, .agg #[.int .i64 a', .int .i64 b', .int .i64 c'])] := rfl
  rw [fillR2]
  simp only [newRow, newObj, wpS_bind', wpS, wpS_pure]
end Go.Proofs.YtofmadjgbcopdaaGreatDoor
end
section
set_option linter.unusedSimpArgs false
set_option maxRecDepth 100000
set_option maxHeartbeats 1000000
set_option linter.unusedVariables false
namespace Go.Proofs.YtofmadjgbcopdaaGreatDoor
open Go Go.X
theorem jobsC : hC.jobs = [0, 1, 2] := by kernel_rfl
theorem driveC : ridesG hC hC.jobs 6 [2, 1] bs0 0 = [⟨0, 4, 10⟩, ⟨0, 12, 18⟩] := by kernel_rfl
theorem lateC : lateG hC hC.jobs 6 [1, 1, 1] bs0 0 = [0, 2, 0] := by kernel_rfl
theorem verdictC : verdictF hC [1, 1, 1] = 3 := by kernel_rfl
theorem planC : planF hC 6 = some [2, 1] := by kernel_rfl
theorem bestC : bestF hC 8 = some [2, 1] := by kernel_rfl
theorem worstC : worstI hC hC.jobs 8 [2, 1] = 2 := by kernel_rfl
theorem fewestC : (numsL 1 4).find? (soF hC 8 1) = some 2 := by kernel_rfl
theorem slowestC : (numsL 1 20).reverse.find? (slowF hC) = some 6 := by kernel_rfl
theorem ruleC : (numsL 0 4).find? (soF hC 7 3) = some 3 := by kernel_rfl
theorem planOkC (pl : List Nat) (h : (∀ m ∈ pl, 1 ≤ m) ∧ (∀ m ∈ pl, (m : Int) ≤ 2) ∧ pl.sum = 3) : PlanOk hC hC.jobs.length pl := ⟨h.1, h.2.1, h.2.2.trans (by rw [jobsC]; rfl)⟩
end Go.Proofs.YtofmadjgbcopdaaGreatDoor
end
section
set_option linter.unusedSimpArgs false
set_option maxRecDepth 100000
set_option maxHeartbeats 4000000
set_option linter.unusedVariables false
namespace Go.Proofs.YtofmadjgbcopdaaGreatDoor
open Go Go.X
set_option linter.defProp false
def y20_87 := And.intro @callF65 (And.intro @callF26 (And.intro @lit_22_2_0_1_0 (And.intro @callF32 (And.intro @lit_22_3_0_1_2_0 (And.intro @callF34 (And.intro @callF43 (And.intro @callF58 (And.intro @callF54 (And.intro @callF47 (And.intro @callF45 (And.intro @callF51 (And.intro @callF30 (And.intro @bld_61_1_2_0 @callF36)))))))))))))
theorem driven_spec (H : Hp) : FnX Tryz.prog (.co Tryz.prog) 20 #[] H fun e H' => e = .returned (.bool true) ∧ H.le H' := by
  refine FnX_start (args := []) Tryz.func20 rfl Tryz.ntmps20 (by simp) ?_
  (refine @Hid.out _ ?_; refine zA y20_87 ?_; (repeat (refine inC ?_; intro hc)); try (refine inK ?_; intro K hK))
  refine (haulC_spec _ H).runs.mono ?_
  rintro _ A1 ⟨v1, rfl, lA1, hd1⟩
  have tA1 := lA1
  clear lA1
  ((try (refine @Hid.out _ ?_; refine zX y20_87 ?_)); (try (refine hK _ _ ?_; clear hK K; (try simp only [nq, ↓reduceIte, Nat.reduceEqDiff]))); refine @Hid.out _ ?_; refine zA y20_87 ?_; (repeat (refine inC ?_; intro hc)); try (refine inK ?_; intro K hK))
  refine (jobs_spec _ _ hC v1 hd1).runs.mono ?_
  rintro _ C1 ⟨jv, rfl, lC1, hj⟩
  have tC1 := Hp.le_trans tA1 lC1
  rw [jobsC] at hj
  clear hd1
  clear lC1 tA1
  ((try (refine @Hid.out _ ?_; refine zX y20_87 ?_)); (try (refine hK _ _ ?_; clear hK K; (try simp only [nq, ↓reduceIte, Nat.reduceEqDiff]))); refine @Hid.out _ ?_; refine zA y20_87 ?_; (repeat (refine inC ?_; intro hc)); try (refine inK ?_; intro K hK))
  refine (haulC_spec _ C1).runs.mono ?_
  rintro _ A2 ⟨v2, rfl, lA2, hd2⟩
  have hj_A2 := hj.le lA2
  clear hj
  have tA2 := Hp.le_trans tC1 lA2
  clear lA2 tC1
  ((try (refine @Hid.out _ ?_; refine zX y20_87 ?_)); (try (refine hK _ _ ?_; clear hK K; (try simp only [nq, ↓reduceIte, Nat.reduceEqDiff]))); refine @Hid.out _ ?_; refine zA y20_87 ?_; (repeat (refine inC ?_; intro hc)); try (refine inK ?_; intro K hK))
  (intro b2 hb2; generalize hG : Hp.set _ b2 _ = B2; have lB2 := le_of_set hG hb2; have vb2 := at_of_set hG; clear hG)
  have hj_B2 := hj_A2.le lB2
  clear hj_A2
  have hd2' := hd2.le lB2
  have hp2 : SlI B2 (.slice (some ⟨b2, 0, none⟩) 2 2) [2, 1] := sli_new (xs := [2, 1]) vb2 rfl
  have tB2 := Hp.le_trans tA2 lB2
  clear lB2 tA2 vb2 hd2 hb2
  ((try (refine @Hid.out _ ?_; refine zX y20_87 ?_)); (try (refine hK _ _ ?_; clear hK K; (try simp only [nq, ↓reduceIte, Nat.reduceEqDiff]))); refine @Hid.out _ ?_; refine zA y20_87 ?_; (repeat (refine inC ?_; intro hc)); try (refine inK ?_; intro K hK))
  refine (Drive_spec _ _ hC v2 hd2' _ [2, 1] hp2 (planOkC _ (by decide)) (by rw [jobsC]; decide) (by rw [jobsC]; decide) 6 (by decide) (by decide)).runs.mono ?_
  rintro _ C2 ⟨D2, rv, rfl, lD2, hrow⟩
  have lC2 := Hp.le_trans lD2 hrow.1.toLe
  have hj_C2 := hj_B2.le lC2
  clear hj_B2
  have tC2 := Hp.le_trans tB2 lC2
  rw [driveC] at hrow
  have hr := RidesIn.row (rs := [⟨0, 4, 10⟩, ⟨0, 12, 18⟩]) hrow
  clear hrow lD2 hp2 hd2'
  clear lC2 tB2
  ((try (refine @Hid.out _ ?_; refine zX y20_87 ?_)); (try (refine hK _ _ ?_; clear hK K; (try simp only [nq, ↓reduceIte, Nat.reduceEqDiff]))); refine @Hid.out _ ?_; refine zA y20_87 ?_; (repeat (refine inC ?_; intro hc)); try (refine inK ?_; intro K hK))
  refine (haulC_spec _ C2).runs.mono ?_
  rintro _ A3 ⟨v3, rfl, lA3, hd3⟩
  have hj_A3 := hj_C2.le lA3
  have hr_A3 := hr.le lA3
  clear hj_C2 hr
  have tA3 := Hp.le_trans tC2 lA3
  clear lA3 tC2
  ((try (refine @Hid.out _ ?_; refine zX y20_87 ?_)); (try (refine hK _ _ ?_; clear hK K; (try simp only [nq, ↓reduceIte, Nat.reduceEqDiff]))); refine @Hid.out _ ?_; refine zA y20_87 ?_; (repeat (refine inC ?_; intro hc)); try (refine inK ?_; intro K hK))
  (intro b3 hb3; generalize hG : Hp.set _ b3 _ = B3; have lB3 := le_of_set hG hb3; have vb3 := at_of_set hG; clear hG)
  have hj_B3 := hj_A3.le lB3
  have hr_B3 := hr_A3.le lB3
  clear hj_A3 hr_A3
  have hd3' := hd3.le lB3
  have hp3 : SlI B3 (.slice (some ⟨b3, 0, none⟩) 3 3) [1, 1, 1] := sli_new (xs := [1, 1, 1]) vb3 rfl
  have tB3 := Hp.le_trans tA3 lB3
  clear lB3 tA3 vb3 hd3 hb3
  ((try (refine @Hid.out _ ?_; refine zX y20_87 ?_)); (try (refine hK _ _ ?_; clear hK K; (try simp only [nq, ↓reduceIte, Nat.reduceEqDiff]))); refine @Hid.out _ ?_; refine zA y20_87 ?_; (repeat (refine inC ?_; intro hc)); try (refine inK ?_; intro K hK))
  refine (Late_spec _ _ hC v3 hd3' _ [1, 1, 1] hp3 (planOkC _ (by decide)) (by rw [jobsC]; decide) (by rw [jobsC]; decide) 6 (by decide) (by decide)).runs.mono ?_
  rintro _ C3 ⟨lv, rfl, lC3, hl⟩
  have hj_C3 := hj_B3.le lC3
  have hr_C3 := hr_B3.le lC3
  clear hj_B3 hr_B3
  have tC3 := Hp.le_trans tB3 lC3
  rw [lateC] at hl
  clear hp3 hd3'
  clear lC3 tB3
  ((try (refine @Hid.out _ ?_; refine zX y20_87 ?_)); (try (refine hK _ _ ?_; clear hK K; (try simp only [nq, ↓reduceIte, Nat.reduceEqDiff]))); refine @Hid.out _ ?_; refine zA y20_87 ?_; (repeat (refine inC ?_; intro hc)); try (refine inK ?_; intro K hK))
  refine (haulC_spec _ C3).runs.mono ?_
  rintro _ A4 ⟨v4, rfl, lA4, hd4⟩
  have hj_A4 := hj_C3.le lA4
  have hr_A4 := hr_C3.le lA4
  have hl_A4 := hl.le lA4
  clear hj_C3 hr_C3 hl
  have tA4 := Hp.le_trans tC3 lA4
  clear lA4 tC3
  ((try (refine @Hid.out _ ?_; refine zX y20_87 ?_)); (try (refine hK _ _ ?_; clear hK K; (try simp only [nq, ↓reduceIte, Nat.reduceEqDiff]))); refine @Hid.out _ ?_; refine zA y20_87 ?_; (repeat (refine inC ?_; intro hc)); try (refine inK ?_; intro K hK))
  (intro b4 hb4; generalize hG : Hp.set _ b4 _ = B4; have lB4 := le_of_set hG hb4; have vb4 := at_of_set hG; clear hG)
  have hj_B4 := hj_A4.le lB4
  have hr_B4 := hr_A4.le lB4
  have hl_B4 := hl_A4.le lB4
  clear hj_A4 hr_A4 hl_A4
  have hd4' := hd4.le lB4
  have hp4 : SlI B4 (.slice (some ⟨b4, 0, none⟩) 3 3) [1, 1, 1] := sli_new (xs := [1, 1, 1]) vb4 rfl
  have tB4 := Hp.le_trans tA4 lB4
  clear lB4 tA4 vb4 hd4 hb4
  ((try (refine @Hid.out _ ?_; refine zX y20_87 ?_)); (try (refine hK _ _ ?_; clear hK K; (try simp only [nq, ↓reduceIte, Nat.reduceEqDiff]))); refine @Hid.out _ ?_; refine zA y20_87 ?_; (repeat (refine inC ?_; intro hc)); try (refine inK ?_; intro K hK))
  refine (Verdict_spec _ hC v4 hd4' _ [1, 1, 1] hp4 (planOkC _ (by decide)) (by rw [jobsC]; decide) (by rw [jobsC]; decide)).runs.mono ?_
  rintro _ C4 ⟨rfl, lC4⟩
  have hj_C4 := hj_B4.le lC4
  have hr_C4 := hr_B4.le lC4
  have hl_C4 := hl_B4.le lC4
  clear hj_B4 hr_B4 hl_B4
  have tC4 := Hp.le_trans tB4 lC4
  rw [verdictC]
  clear hp4 hd4'
  clear lC4 tB4
  ((try (refine @Hid.out _ ?_; refine zX y20_87 ?_)); (try (refine hK _ _ ?_; clear hK K; (try simp only [nq, ↓reduceIte, Nat.reduceEqDiff]))); refine @Hid.out _ ?_; refine zA y20_87 ?_; (repeat (refine inC ?_; intro hc)); try (refine inK ?_; intro K hK))
  refine (haulC_spec _ C4).runs.mono ?_
  rintro _ A5 ⟨v5, rfl, lA5, hd5⟩
  have hj_A5 := hj_C4.le lA5
  have hr_A5 := hr_C4.le lA5
  have hl_A5 := hl_C4.le lA5
  clear hj_C4 hr_C4 hl_C4
  have tA5 := Hp.le_trans tC4 lA5
  clear lA5 tC4
  ((try (refine @Hid.out _ ?_; refine zX y20_87 ?_)); (try (refine hK _ _ ?_; clear hK K; (try simp only [nq, ↓reduceIte, Nat.reduceEqDiff]))); refine @Hid.out _ ?_; refine zA y20_87 ?_; (repeat (refine inC ?_; intro hc)); try (refine inK ?_; intro K hK))
  refine (Plan_spec _ _ hC v5 hd5 (by rw [jobsC]; decide) (by rw [jobsC]; decide) 6 (by decide) (by decide)).runs.mono ?_
  rintro _ C5 ⟨lC5, pv, pc, rfl, hpl⟩
  have hj_C5 := hj_A5.le lC5
  have hr_C5 := hr_A5.le lC5
  have hl_C5 := hl_A5.le lC5
  clear hj_A5 hr_A5 hl_A5
  have tC5 := Hp.le_trans tA5 lC5
  rw [planC] at hpl
  obtain ⟨rfl, hp⟩ := hpl
  clear hd5
  clear lC5 tA5
  ((try (refine @Hid.out _ ?_; refine zX y20_87 ?_)); (try (refine hK _ _ ?_; clear hK K; (try simp only [nq, ↓reduceIte, Nat.reduceEqDiff]))); refine @Hid.out _ ?_; refine zA y20_87 ?_; (repeat (refine inC ?_; intro hc)); try (refine inK ?_; intro K hK))
  refine (haulC_spec _ C5).runs.mono ?_
  rintro _ A6 ⟨v6, rfl, lA6, hd6⟩
  have hj_A6 := hj_C5.le lA6
  have hr_A6 := hr_C5.le lA6
  have hl_A6 := hl_C5.le lA6
  have hp_A6 := hp.le lA6
  clear hj_C5 hr_C5 hl_C5 hp
  have tA6 := Hp.le_trans tC5 lA6
  clear lA6 tC5
  ((try (refine @Hid.out _ ?_; refine zX y20_87 ?_)); (try (refine hK _ _ ?_; clear hK K; (try simp only [nq, ↓reduceIte, Nat.reduceEqDiff]))); refine @Hid.out _ ?_; refine zA y20_87 ?_; (repeat (refine inC ?_; intro hc)); try (refine inK ?_; intro K hK))
  refine (Best_spec _ _ hC v6 hd6 (by rw [jobsC]; decide) (by rw [jobsC]; decide) 8 (by decide) (by decide)).runs.mono ?_
  rintro _ C6 ⟨bv, bxs, rfl, lC6, hbf, hb⟩
  have hj_C6 := hj_A6.le lC6
  have hr_C6 := hr_A6.le lC6
  have hl_C6 := hl_A6.le lC6
  have hp_C6 := hp_A6.le lC6
  clear hj_A6 hr_A6 hl_A6 hp_A6
  have tC6 := Hp.le_trans tA6 lC6
  rw [bestC] at hbf
  cases hbf
  rw [worstC]
  clear hd6
  clear lC6 tA6
  ((try (refine @Hid.out _ ?_; refine zX y20_87 ?_)); (try (refine hK _ _ ?_; clear hK K; (try simp only [nq, ↓reduceIte, Nat.reduceEqDiff]))); refine @Hid.out _ ?_; refine zA y20_87 ?_; (repeat (refine inC ?_; intro hc)); try (refine inK ?_; intro K hK))
  refine (haulC_spec _ C6).runs.mono ?_
  rintro _ A7 ⟨v7, rfl, lA7, hd7⟩
  have hj_A7 := hj_C6.le lA7
  have hr_A7 := hr_C6.le lA7
  have hl_A7 := hl_C6.le lA7
  have hp_A7 := hp_C6.le lA7
  have hb_A7 := hb.le lA7
  clear hj_C6 hr_C6 hl_C6 hp_C6 hb
  have tA7 := Hp.le_trans tC6 lA7
  clear lA7 tC6
  ((try (refine @Hid.out _ ?_; refine zX y20_87 ?_)); (try (refine hK _ _ ?_; clear hK K; (try simp only [nq, ↓reduceIte, Nat.reduceEqDiff]))); refine @Hid.out _ ?_; refine zA y20_87 ?_; (repeat (refine inC ?_; intro hc)); try (refine inK ?_; intro K hK))
  refine (fewest_spec _ _ hC v7 hd7 8 (by decide) (by decide)).runs.mono ?_
  rintro _ C7 ⟨lC7, y7, c7, rfl, h7⟩
  have hj_C7 := hj_A7.le lC7
  have hr_C7 := hr_A7.le lC7
  have hl_C7 := hl_A7.le lC7
  have hp_C7 := hp_A7.le lC7
  have hb_C7 := hb_A7.le lC7
  clear hj_A7 hr_A7 hl_A7 hp_A7 hb_A7
  have tC7 := Hp.le_trans tA7 lC7
  rw [fewestC] at h7
  obtain ⟨rfl, rfl⟩ := h7
  clear hd7
  clear lC7 tA7
  ((try (refine @Hid.out _ ?_; refine zX y20_87 ?_)); (try (refine hK _ _ ?_; clear hK K; (try simp only [nq, ↓reduceIte, Nat.reduceEqDiff]))); refine @Hid.out _ ?_; refine zA y20_87 ?_; (repeat (refine inC ?_; intro hc)); try (refine inK ?_; intro K hK))
  refine (haulC_spec _ C7).runs.mono ?_
  rintro _ A8 ⟨v8, rfl, lA8, hd8⟩
  have hj_A8 := hj_C7.le lA8
  have hr_A8 := hr_C7.le lA8
  have hl_A8 := hl_C7.le lA8
  have hp_A8 := hp_C7.le lA8
  have hb_A8 := hb_C7.le lA8
  clear hj_C7 hr_C7 hl_C7 hp_C7 hb_C7
  have tA8 := Hp.le_trans tC7 lA8
  clear lA8 tC7
  ((try (refine @Hid.out _ ?_; refine zX y20_87 ?_)); (try (refine hK _ _ ?_; clear hK K; (try simp only [nq, ↓reduceIte, Nat.reduceEqDiff]))); refine @Hid.out _ ?_; refine zA y20_87 ?_; (repeat (refine inC ?_; intro hc)); try (refine inK ?_; intro K hK))
  refine (Slowest_spec _ _ hC v8 hd8).runs.mono ?_
  rintro _ C8 ⟨lC8, y8, c8, rfl, h8⟩
  have hj_C8 := hj_A8.le lC8
  have hr_C8 := hr_A8.le lC8
  have hl_C8 := hl_A8.le lC8
  have hp_C8 := hp_A8.le lC8
  have hb_C8 := hb_A8.le lC8
  clear hj_A8 hr_A8 hl_A8 hp_A8 hb_A8
  have tC8 := Hp.le_trans tA8 lC8
  rw [slowestC] at h8
  obtain ⟨rfl, rfl⟩ := h8
  clear hd8
  clear lC8 tA8
  ((try (refine @Hid.out _ ?_; refine zX y20_87 ?_)); (try (refine hK _ _ ?_; clear hK K; (try simp only [nq, ↓reduceIte, Nat.reduceEqDiff]))); refine @Hid.out _ ?_; refine zA y20_87 ?_; (repeat (refine inC ?_; intro hc)); try (refine inK ?_; intro K hK))
  refine (haulC_spec _ C8).runs.mono ?_
  rintro _ A9 ⟨v9, rfl, lA9, hd9⟩
  have hj_A9 := hj_C8.le lA9
  have hr_A9 := hr_C8.le lA9
  have hl_A9 := hl_C8.le lA9
  have hp_A9 := hp_C8.le lA9
  have hb_A9 := hb_C8.le lA9
  clear hj_C8 hr_C8 hl_C8 hp_C8 hb_C8
  have tA9 := Hp.le_trans tC8 lA9
  clear lA9 tC8
  ((try (refine @Hid.out _ ?_; refine zX y20_87 ?_)); (try (refine hK _ _ ?_; clear hK K; (try simp only [nq, ↓reduceIte, Nat.reduceEqDiff]))); refine @Hid.out _ ?_; refine zA y20_87 ?_; (repeat (refine inC ?_; intro hc)); try (refine inK ?_; intro K hK))
  refine (rule_spec _ _ hC v9 hd9 7 (by decide) (by decide)).runs.mono ?_
  rintro _ C9 ⟨lC9, y9, c9, rfl, h9⟩
  have hj_C9 := hj_A9.le lC9
  have hr_C9 := hr_A9.le lC9
  have hl_C9 := hl_A9.le lC9
  have hp_C9 := hp_A9.le lC9
  have hb_C9 := hb_A9.le lC9
  clear hj_A9 hr_A9 hl_A9 hp_A9 hb_A9
  have tC9 := Hp.le_trans tA9 lC9
  rw [ruleC] at h9
  obtain ⟨rfl, rfl⟩ := h9
  clear hd9
  clear lC9 tA9
  ((try (refine @Hid.out _ ?_; refine zX y20_87 ?_)); (try (refine hK _ _ ?_; clear hK K; (try simp only [nq, ↓reduceIte, Nat.reduceEqDiff]))); refine @Hid.out _ ?_; refine zA y20_87 ?_; (repeat (refine inC ?_; intro hc)); try (refine inK ?_; intro K hK))
  refine wpX_forget (fun e => e 1 = jv ∧ e 2 = .int .i64 0 ∧ e 3 = rv ∧ e 4 = .int .i64 0 ∧ e 5 = lv ∧ e 6 = .int .i64 0 ∧ e 7 = .int .i64 3 ∧ e 8 = .int .i64 0 ∧ e 9 = pv ∧ e 10 = .int .i64 0 ∧ e 11 = bv ∧ e 12 = .int .i64 2 ∧ e 13 = .int .i64 0 ∧ e 14 = .int .i64 2 ∧ e 15 = .int .i64 0 ∧ e 16 = .int .i64 6 ∧ e 17 = .int .i64 0 ∧ e 18 = .int .i64 3 ∧ e 19 = .int .i64 0) ⟨rfl, rfl, rfl, rfl, rfl, rfl, rfl, rfl, rfl, rfl, rfl, rfl, rfl, rfl, rfl, rfl, rfl, rfl, rfl⟩ ?_
  rintro e ⟨e1, e2, e3, e4, e5, e6, e7, e8, e9, e10, e11, e12, e13, e14, e15, e16, e17, e18, e19⟩
  simp only [List.append]
  refine wpX_lastL rfl ?_; intro K hK
  simp -implicitDefEqProofs (disch := first | omega | (simp only [qd] <;> omega)) only [xq, ↓xp, qc, Nat.reduceAdd, List.range, List.range.loop, fine, Nat.reduceEqDiff, ↓reduceIte, yielded, reduceCtorEq, Nat.reduceLT, Nat.reduceMul, Nat.reduceSub, one, Nat.reduceLeDiff, runX_cons, y20_87, aq, ↓ap, qe0, qe1, qe2, *, -hK]
  (intro g1 hg1; generalize hG : Hp.set _ g1 _ = D1; have lD1 := le_of_set hG hg1; have vg1 := at_of_set hG; clear hG)
  have hj_D1 := hj_C9.le lD1
  have hr_D1 := hr_C9.le lD1
  have hl_D1 := hl_C9.le lD1
  have hp_D1 := hp_C9.le lD1
  have hb_D1 := hb_C9.le lD1
  clear hj_C9 hr_C9 hl_C9 hp_C9 hb_C9
  have tD1 := Hp.le_trans tC9 lD1
  have sl1 : SlI D1 (.slice (some ⟨g1, 0, none⟩) 3 3) [0, 1, 2] := sli_new (xs := [0, 1, 2]) vg1 rfl
  clear lD1 tC9 hg1 vg1
  refine (likeInts_spec _ D1 jv _ [0, 1, 2] [0, 1, 2] hj_D1 sl1 (by decide) (by decide)).runs.mono ?_
  rintro _ HQ ⟨rfl, hHQ⟩
  rw [hHQ]
  clear hHQ HQ
  rw [decide_eq_true rfl]
  clear sl1
  ((try (refine @Hid.out _ ?_; refine zX (And.intro y20_87 @build_rides2) ?_)); (try (refine hK _ _ ?_; clear hK K; (try simp only [nq, ↓reduceIte, Nat.reduceEqDiff]))); refine @Hid.out _ ?_; refine zA (And.intro y20_87 @build_rides2) ?_; (repeat (refine inC ?_; intro hc)); try (refine inK ?_; intro K hK))
  (intro g2 hg2; generalize hG : Hp.set _ g2 _ = D2; have lD2 := le_of_set hG hg2; have vg2 := at_of_set hG; clear hG)
  have hj_D2 := hj_D1.le lD2
  have hr_D2 := hr_D1.le lD2
  have hl_D2 := hl_D1.le lD2
  have hp_D2 := hp_D1.le lD2
  have hb_D2 := hb_D1.le lD2
  clear hj_D1 hr_D1 hl_D1 hp_D1 hb_D1
  have tD2 := Hp.le_trans tD1 lD2
  have sl2 : RidesIn D2 (.slice (some ⟨g2, 0, none⟩) 2 2) [⟨0, 4, 10⟩, ⟨0, 12, 18⟩] := ⟨_, 2, rfl, Nat.le_refl _, fun i r hi => by
    match i, hi with
    | 0, hi => cases hi; exact ⟨g2, _, _, _, rfl, vg2, rfl, by decide⟩
    | 1, hi => cases hi; exact ⟨g2, _, _, _, rfl, vg2, rfl, by decide⟩
    | i + 2, hi => simp at hi⟩
  clear lD2 tD1 hg2 vg2
  refine (likeRides_spec _ D2 rv _ [⟨0, 4, 10⟩, ⟨0, 12, 18⟩] [⟨0, 4, 10⟩, ⟨0, 12, 18⟩] hr_D2 sl2 (by decide) (by decide)).runs.mono ?_
  rintro _ HQ ⟨rfl, hHQ⟩
  rw [hHQ]
  clear hHQ HQ
  rw [decide_eq_true rfl]
  clear sl2
  ((try (refine @Hid.out _ ?_; refine zX (And.intro y20_87 @build_rides2) ?_)); (try (refine hK _ _ ?_; clear hK K; (try simp only [nq, ↓reduceIte, Nat.reduceEqDiff]))); refine @Hid.out _ ?_; refine zA (And.intro y20_87 @build_rides2) ?_; (repeat (refine inC ?_; intro hc)); try (refine inK ?_; intro K hK))
  (intro g3 hg3; generalize hG : Hp.set _ g3 _ = D3; have lD3 := le_of_set hG hg3; have vg3 := at_of_set hG; clear hG)
  have hj_D3 := hj_D2.le lD3
  have hr_D3 := hr_D2.le lD3
  have hl_D3 := hl_D2.le lD3
  have hp_D3 := hp_D2.le lD3
  have hb_D3 := hb_D2.le lD3
  clear hj_D2 hr_D2 hl_D2 hp_D2 hb_D2
  have tD3 := Hp.le_trans tD2 lD3
  have sl3 : SlI D3 (.slice (some ⟨g3, 0, none⟩) 3 3) [0, 2, 0] := sli_new (xs := [0, 2, 0]) vg3 rfl
  clear lD3 tD2 hg3 vg3
  refine (likeInts_spec _ D3 lv _ [0, 2, 0] [0, 2, 0] hl_D3 sl3 (by decide) (by decide)).runs.mono ?_
  rintro _ HQ ⟨rfl, hHQ⟩
  rw [hHQ]
  clear hHQ HQ
  rw [decide_eq_true rfl]
  clear sl3
  ((try (refine @Hid.out _ ?_; refine zX (And.intro y20_87 @build_rides2) ?_)); (try (refine hK _ _ ?_; clear hK K; (try simp only [nq, ↓reduceIte, Nat.reduceEqDiff]))); refine @Hid.out _ ?_; refine zA (And.intro y20_87 @build_rides2) ?_; (repeat (refine inC ?_; intro hc)); try (refine inK ?_; intro K hK))
  (intro g4 hg4; generalize hG : Hp.set _ g4 _ = D4; have lD4 := le_of_set hG hg4; have vg4 := at_of_set hG; clear hG)
  have hj_D4 := hj_D3.le lD4
  have hr_D4 := hr_D3.le lD4
  have hl_D4 := hl_D3.le lD4
  have hp_D4 := hp_D3.le lD4
  have hb_D4 := hb_D3.le lD4
  clear hj_D3 hr_D3 hl_D3 hp_D3 hb_D3
  have tD4 := Hp.le_trans tD3 lD4
  have sl4 : SlI D4 (.slice (some ⟨g4, 0, none⟩) 2 2) [2, 1] := sli_new (xs := [2, 1]) vg4 rfl
  clear lD4 tD3 hg4 vg4
  refine (likeInts_spec _ D4 pv _ [2, 1] [2, 1] hp_D4 sl4 (by decide) (by decide)).runs.mono ?_
  rintro _ HQ ⟨rfl, hHQ⟩
  rw [hHQ]
  clear hHQ HQ
  rw [decide_eq_true rfl]
  clear sl4
  ((try (refine @Hid.out _ ?_; refine zX (And.intro y20_87 @build_rides2) ?_)); (try (refine hK _ _ ?_; clear hK K; (try simp only [nq, ↓reduceIte, Nat.reduceEqDiff]))); refine @Hid.out _ ?_; refine zA (And.intro y20_87 @build_rides2) ?_; (repeat (refine inC ?_; intro hc)); try (refine inK ?_; intro K hK))
  (intro g5 hg5; generalize hG : Hp.set _ g5 _ = D5; have lD5 := le_of_set hG hg5; have vg5 := at_of_set hG; clear hG)
  have hj_D5 := hj_D4.le lD5
  have hr_D5 := hr_D4.le lD5
  have hl_D5 := hl_D4.le lD5
  have hp_D5 := hp_D4.le lD5
  have hb_D5 := hb_D4.le lD5
  clear hj_D4 hr_D4 hl_D4 hp_D4 hb_D4
  have tD5 := Hp.le_trans tD4 lD5
  have sl5 : SlI D5 (.slice (some ⟨g5, 0, none⟩) 2 2) [2, 1] := sli_new (xs := [2, 1]) vg5 rfl
  clear lD5 tD4 hg5 vg5
  refine (likeInts_spec _ D5 bv _ [2, 1] [2, 1] hb_D5 sl5 (by decide) (by decide)).runs.mono ?_
  rintro _ HQ ⟨rfl, hHQ⟩
  rw [hHQ]
  clear hHQ HQ
  rw [decide_eq_true rfl]
  clear sl5
  ((try (refine @Hid.out _ ?_; refine zX (And.intro y20_87 @build_rides2) ?_)); (try (refine hK _ _ ?_; clear hK K; (try simp only [nq, ↓reduceIte, Nat.reduceEqDiff]))); refine @Hid.out _ ?_; refine zA (And.intro y20_87 @build_rides2) ?_; (repeat (refine inC ?_; intro hc)); try (refine inK ?_; intro K hK))
  (refine wpX_ret ?_; (try simp only [nq, ↓reduceIte, Nat.reduceEqDiff]); rw [bodyX_ret, results_one Tryz.results20 (by decide)]; simp only [upd_get, Nat.reduceEqDiff, ↓reduceIte])
  exact ⟨by trivial, tD5⟩
end Go.Proofs.YtofmadjgbcopdaaGreatDoor
end
