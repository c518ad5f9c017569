/- Texts Drv Fine Range Iter Plans Mono Count Like Late Planned Fork. -/
import Derived.Test.YtofmadjgbcopdaaGreatDoorJ05
import Derived.Conc.Own2
set_option linter.defProp false
set_option linter.unusedSimpArgs false
set_option linter.unusedVariables false
set_option maxRecDepth 100000
set_option maxHeartbeats 2000000
section
namespace Go.Proofs.YtofmadjgbcopdaaGreatDoor
open Go Go.X
def y75_44 := And.intro @callF116 (And.intro (fun H => ex_alloc (H := H) (P := Tryz.prog) (h := Tryz.zeroValue145)) (And.intro (fun H => storeAt_agg (H := H) Tryz.sizeOf145) (And.intro (fun H => len_slice (H := H) Tryz.underlying22) (And.intro (fun H => indexAt_slice (H := H) Tryz.underlying22 Tryz.sizeOf3) (And.intro (fun H => loadAt_one (H := H) Tryz.underlying3 rfl) (And.intro (fun H => ex_alloc (H := H) (P := Tryz.prog) (h := Tryz.zeroValue61)) (And.intro (fun H => loadAt_aggE (H := H) Tryz.underlying145 rfl Tryz.sizeOf145) (And.intro @callF117 (And.intro (fun H => storeAt_agg (H := H) Tryz.sizeOf61) (And.intro (fun H => loadAt_aggE (H := H) Tryz.underlying61 rfl Tryz.sizeOf61) (fun H => buildSlice_agg1 (H := H) Tryz.underlying45 Tryz.sizeOf61 Tryz.zeroValue61 rfl (by decide) (by decide))))))))))))
theorem z0_44 {p q : Prop} (g : q) (h : Hid q -> p := by
 intro g
 repeat' (first
 | (refine wpX_stmtL rfl ?_; intro Kz hKz; simp -implicitDefEqProofs (disch := first | omega | (simp only [qd] <;> omega)) only [xq, ↓xp, qc, Nat.reduceAdd, List.range, List.range.loop, fine, Nat.reduceEqDiff, ↓reduceIte, yielded, reduceCtorEq, Nat.reduceLT, Nat.reduceMul, Nat.reduceSub, one, Nat.reduceLeDiff, runX_cons, y75_44, aq, ↓ap, qe0, qe1, qe2, *, -g, -hKz, storL_at hne2 vbb5']; try (refine hKz _ _ ?_; clear hKz Kz))
 | (refine wpX_lastL rfl ?_; intro Kz hKz; simp -implicitDefEqProofs (disch := first | omega | (simp only [qd] <;> omega)) only [xq, ↓xp, qc, Nat.reduceAdd, List.range, List.range.loop, fine, Nat.reduceEqDiff, ↓reduceIte, yielded, reduceCtorEq, Nat.reduceLT, Nat.reduceMul, Nat.reduceSub, one, Nat.reduceLeDiff, runX_cons, y75_44, aq, ↓ap, qe0, qe1, qe2, *, -g, -hKz, storL_at hne2 vbb5']; try (refine hKz _ _ ?_; clear hKz Kz; (try simp only [nq, ↓reduceIte, Nat.reduceEqDiff])))
 | (refine wpX_skip ?_; (try simp only [nq, ↓reduceIte, Nat.reduceEqDiff]))
 | (refine wpX_label ?_; (try simp only [nq, ↓reduceIte, Nat.reduceEqDiff]))
 | (refine wpX_exit ?_; (try simp only [nq, ↓reduceIte, Nat.reduceEqDiff]))
 | (refine wpX_goto ?_; (try simp only [nq, ↓reduceIte, Nat.reduceEqDiff]))
 | (refine wpX_condK (by simp only [act_eval, upd_get, Nat.reduceEqDiff, Nat.reduceLT, ↓reduceIte, *, -g]; rfl) ?_ ?_ <;> (intro hcz; first | (exfalso; simp -implicitDefEqProofs (disch := omega) only [*, -g, bq, reduceCtorEq] at hcz; done) | (simp only [dq, qe3, qe4, qe5, qe6] at hcz) | skip))
 | (refine wpX_scope0 ?_)
 | (refine wpX_block ?_)
 | (refine wpX_seq ?_))
 (try (revert Kz; refine unK ?_)); (repeat (revert hcz; refine unC ?_))
 exact Hid.out g) : Hid p := ⟨h ⟨g⟩⟩
theorem x1_44 {p q : Prop} (g : q) (h : Hid q -> p := by
 intro g
 simp -implicitDefEqProofs (disch := first | omega | (simp only [qd] <;> omega)) only [xq, ↓xp, qc, Nat.reduceAdd, List.range, List.range.loop, fine, Nat.reduceEqDiff, ↓reduceIte, yielded, reduceCtorEq, Nat.reduceLT, Nat.reduceMul, Nat.reduceSub, one, Nat.reduceLeDiff, runX_cons, y75_44, aq, ↓ap, qe0, qe1, qe2, *, -g, -hK, storL_at hne2 vbb5']
 exact Hid.out g) : Hid p := ⟨h ⟨g⟩⟩
def dS (n : HN) (js : List Int) (mi : Int) (pl : List Nat) : Nat -> List Int × Nat × List RideV
 | 0 => (List.replicate 4 (-1048576), 0, [])
 | k + 1 =>
  let s := dS n js mi pl k
  let r := rideF n js s.1 s.2.1 (pl.getD k 0) mi
  (s.1.set (pickB s.1 n.barrows.toNat) r.back, s.2.1 + pl.getD k 0, s.2.2 ++ [r])
theorem dS_ok (n : HN) (js : List Int) (mi : Int) (pl : List Nat) (hx : ∀ x ∈ n.xs, 0 <= x /\ x <= 99) (n0 : 0 <= n.notice) (b1 : 1 <= n.barrows) (b4 : n.barrows <= 4) (h1 : 1 <= mi) (h2 : mi <= 20) : ∀ k, k <= pl.length ->
  (dS n js mi pl k).1.length = 4 /\ (∀ x ∈ (dS n js mi pl k).1, -1048576 <= x /\ x <= 100 + 20 * k) /\ (dS n js mi pl k).2.1 = (pl.take k).sum /\ (dS n js mi pl k).2.2.length = k
 | 0, _ => by simp [dS]
 | k + 1, hk => by
  obtain ⟨i1, i2, i3, i4⟩ := dS_ok n js mi pl hx n0 b1 b4 h1 h2 k (by omega)
  have hpl := pickB_lt (dS n js mi pl k).1 n.barrows.toNat (by omega)
  have hg : pl.getD k 0 = pl[k]'(by omega) := by simp [List.getD, List.getElem?_eq_getElem (show k < pl.length by omega)]
  have hB : -1048576 <= (dS n js mi pl k).1.getD (pickB (dS n js mi pl k).1 n.barrows.toNat) 0 /\ (dS n js mi pl k).1.getD (pickB (dS n js mi pl k).1 n.barrows.toNat) 0 <= 100 + 20 * k := by
   simp [List.getD, List.getElem?_eq_getElem (show pickB (dS n js mi pl k).1 n.barrows.toNat < (dS n js mi pl k).1.length by omega)]
   exact i2 _ (List.getElem_mem _)
  have hdue : ∀ j, n.due js j <= 99 := fun j => by
   unfold HN.due
   by_cases hl : (js.getD j 0).toNat < n.xs.length
   ·simp [List.getD, List.getElem?_eq_getElem (show (js[j]?.getD 0).toNat < n.xs.length by simpa [List.getD] using hl)]
    exact (hx _ (List.getElem_mem _)).2
   ·simp [List.getD, List.getElem?_eq_none (show n.xs.length <= (js[j]?.getD 0).toNat by simpa [List.getD] using (by omega : n.xs.length <= (js.getD j 0).toNat))]
  refine ⟨by simp [dS, i1], fun x hx' => ?_, ?_, by simp [dS, i4]⟩
  ·simp only [dS] at hx'
   rcases List.mem_or_eq_of_mem_set hx' with h | h
   ·have := i2 x h; omega
   ·subst h
    simp only [rideF]
    have := hdue ((dS n js mi pl k).2.1 + pl.getD k 0 - 1)
    rw [Int.max_def]
    split <;> omega
  ·simp only [dS, i3, hg]
   rw [List.take_add_one, List.getElem?_eq_getElem (show k < pl.length by omega), List.sum_append]
   rfl
def rcells (rs : List RideV) : List Value := rs.flatMap fun r => [.int .i64 r.barrow, .int .i64 r.out, .int .i64 r.back]
theorem rcells_app (rs : List RideV) (r : RideV) : rcells (rs ++ [r]) = rcells rs ++ [.int .i64 r.barrow, .int .i64 r.out, .int .i64 r.back] := by simp [rcells]
theorem over_all {l vs : List Value} (h : vs.length = l.length) : over l.toArray 0 vs = vs.toArray := by
 rw [over_list _ _ _ (by omega), List.take_zero, List.nil_append, List.drop_of_length_le (by omega), List.append_nil]
theorem rowZ_keep {t : Option Nat} {H₀ H H' : Hp} {v : Value} {e : TypeId} {sz n : Nat} {cs : List Value} (h : RowZ (Lex t) H₀ H v e sz n cs) (hk : ∀ x, rowB v = some x -> ∀ u, H x = some u -> H' x = some u) (hl : Lex t H₀ H') : RowZ (Lex t) H₀ H' v e sz n cs := by
 refine ⟨hl, h.2.imp id ?_⟩
 rintro ⟨b, c, cap, h0, hb, rfl, h3⟩
 exact ⟨b, c, cap, h0, hk b rfl _ hb, rfl, h3⟩
theorem rowZ_at {t : Option Nat} {H₀ H : Hp} {v : Value} {e : TypeId} {sz n : Nat} {cs : List Value} (h : RowZ (Lex t) H₀ H v e sz n cs) {x : Nat} (hx : rowB v = some x) : H₀ x = none /\ ∃ c, H x = some (true, .cells c e (0, 0)) := by
 rcases h.2 with ⟨rfl, _⟩ | ⟨b, c, cap, h0, hb, rfl, _⟩
 ·cases hx
 ·simp only [rowB, Option.some.injEq] at hx
  subst hx
  exact ⟨h0, _, hb⟩
theorem rowZ_len {t : Option Nat} {H₀ H : Hp} {v : Value} {e : TypeId} {sz n : Nat} {cs : List Value} (h : RowZ (Lex t) H₀ H v e sz n cs) : ∃ a cap, v = .slice a n cap := by
 rcases h.2 with ⟨rfl, rfl, _⟩ | ⟨b, c, cap, h0, hb, rfl, _⟩
 ·exact ⟨_, _, rfl⟩
 ·exact ⟨_, _, rfl⟩
theorem drive_spec (main : Md) (H : Hp) (hb : Nat) (n : HN) (v : HV) (jv : Value) (js : List Int) (hh : HaulAt H hb n v jv js) (pv : Value) (pl : List Nat) (hp : SlI H pv (pl.map fun m : Nat => (m : Int))) (hp1 : ∀ m ∈ pl, 1 <= m) (hps : pl.sum <= js.length) (hpl : pl.length <= 1000) (mi : Int) (hm1 : 1 <= mi) (hm2 : mi <= 20) :
  FnX Tryz.prog main 75 #[.pointer (some ⟨hb, 0, none⟩), pv, .int .i64 mi] H fun e H' => ∃ rv, e = .returned rv /\ RowZ (Lex none) H H' rv 61 3 pl.length (rcells (dS n js mi pl pl.length).2.2) := by
 have hpS := hp
 obtain ⟨pa, pc, rfl, hpc, _⟩ := hp
 have hjl := hh.jl
 simp only [List.length_map] at hpc
 simp only [List.length_map]
 refine FnX_start Tryz.func75 rfl Tryz.ntmps75 (by simp) ?_
 (refine @unH _ ?_; refine zA y75_44 ?_; (repeat (refine inC ?_; intro hc)); try (refine inK ?_; intro K hK))
 refine (resting_spec main H).runs.mono ?_
 rintro _ H1 ⟨rfl, lH1⟩
 have hr4 : ints (List.replicate 4 (-1048576)) = [.int .i64 (-1048576), .int .i64 (-1048576), .int .i64 (-1048576), .int .i64 (-1048576)] := rfl
 rw [hr4]
 ((try (refine @unH _ ?_; refine zX y75_44 ?_)); (try (refine hK _ _ ?_; clear hK K; (try simp only [nq, ↓reduceIte, Nat.reduceEqDiff]))); refine @unH _ ?_; refine zA y75_44 ?_; (repeat (refine inC ?_; intro hc)); try (refine inK ?_; intro K hK))
 (intro bb hbb; generalize hG : Hp.set _ bb _ = H2; have lH2 := le_of_set hG hbb; have vbb := at_of_set hG; clear hG)
 have hh2 := hh.le (Hp.le_trans lH1 lH2)
 have hp2 := hpS.le (Hp.le_trans lH1 lH2)
 have h0bb : H bb = none := Hp.le_none lH1 hbb
 ((try (refine @unH _ ?_; refine zX y75_44 ?_)); (try (refine hK _ _ ?_; clear hK K; (try simp only [nq, ↓reduceIte, Nat.reduceEqDiff]))); refine @unH _ ?_; refine zA y75_44 ?_; (repeat (refine inC ?_; intro hc)); try (refine inK ?_; intro K hK))
 have hdok := dS_ok n js mi pl hh.xb hh.n0 hh.b1 hh.b4 hm1 hm2
 have lx2 : Lex none H H2 := Lex.of (Hp.le_trans lH1 lH2)
 refine wpX_loop (fun w a' H' => ∃ e k rv, w = pl.length - k /\ k <= pl.length /\ a' = act 38 e [] /\ e 0 = .pointer (some ⟨hb, 0, none⟩) /\ e 2 = .int .i64 mi /\ e 7 = rv /\ e 8 = .pointer (some ⟨bb, 0, none⟩) /\ e 9 = .int .i64 ((dS n js mi pl k).2.1 : Nat) /\ e 14 = .slice pa pl.length pc /\ e 15 = .int .i64 pl.length /\ e 16 = .int .i64 (k : Nat) /\
  RowZ (Lex none) H H' rv 61 3 k (rcells (dS n js mi pl k).2.2) /\ H' bb = some (true, .cells (ints (dS n js mi pl k).1).toArray 145 (0, 0))) (n := pl.length) ?_ ?_
 ·exact ⟨_, 0, .slice none 0 0, rfl, by omega, rfl, rfl, rfl, rfl, rfl, rfl, rfl, rfl, rfl, ⟨lx2, .inl ⟨rfl, rfl, rfl⟩⟩, vbb⟩
 ·clear lx2 hh2 hp2 vbb lH1 lH2 hbb
  rintro w a' H3 ⟨e, k, rv, rfl, hk, rfl, e0, e2, e7, e8, e9, e14, e15, e16, hrow, vbb⟩
  have hh3 := hh.le hrow.1.toLe
  have hp3 := hpS.le hrow.1.toLe
  by_cases hlt : k < pl.length
  ·obtain ⟨i1, i2, i3, i4⟩ := hdok k hk
   have hdef : dS n js mi pl (k + 1) = ((dS n js mi pl k).1.set (pickB (dS n js mi pl k).1 n.barrows.toNat) (rideF n js (dS n js mi pl k).1 (dS n js mi pl k).2.1 (pl.getD k 0) mi).back, (dS n js mi pl k).2.1 + pl.getD k 0, (dS n js mi pl k).2.2 ++ [rideF n js (dS n js mi pl k).1 (dS n js mi pl k).2.1 (pl.getD k 0) mi]) := rfl
   have hg : pl.getD k 0 = pl[k] := by simp [List.getD, List.getElem?_eq_getElem hlt]
   have hsum : (pl.take (k + 1)).sum <= pl.sum := by
    have h9 : pl.sum = (pl.take (k + 1)).sum + (pl.drop (k + 1)).sum := by rw [<- List.sum_append, List.take_append_drop]
    omega
   rw [List.take_add_one, List.getElem?_eq_getElem hlt, List.sum_append] at hsum
   have hs1 : [pl[k]].sum = pl[k] := by simp
   have hsum' : (pl.take k).sum + pl[k] <= pl.sum := by rw [<- hs1]; exact hsum
   have hmk := hp1 _ (List.getElem_mem hlt)
   obtain ⟨b, o, cap', p, c, fr, hve, _, hb', hx⟩ := hp3.cons (fun h => absurd (congrArg List.length h) (by simp only [List.length_nil, List.length_map]; omega))
   cases hve
   have hxk := hx k (pl[k] : Nat) (by rw [List.getElem?_map, List.getElem?_eq_getElem hlt]; rfl)
   rw [hg] at hdef
   generalize pl[k] = mk at hdef hsum' hmk hxk
   generalize hD1 : dS n js mi pl (k + 1) = D1 at hdef
   generalize dS n js mi pl k = D at hdef e9 hrow vbb i1 i2 i3 i4
   obtain ⟨bs, f, rs⟩ := D
   simp only [] at hdef e9 hrow vbb i1 i2 i3 i4
   replace i3 : f <= (pl.take k).sum /\ (pl.take k).sum <= f := by omega
   clear hsum hs1 hg hx
   have hli : (ints bs).length = 4 := by rw [ints_len]; exact i1
   have htk4 : (ints bs).take 4 = ints bs := List.take_of_length_le (by omega)
   (refine @unH _ ?_; refine zA y75_44 ?_; (repeat (refine inC ?_; intro hc)); try (refine inK ?_; intro K hK))
   (intro cb hcb; generalize hG : Hp.set _ cb _ = H4; have lH4 := le_of_set hG hcb; have vcb := at_of_set hG; clear hG)
   have vbb4 := lH4 _ _ vbb
   have hh4 := hh3.le lH4
   have ncb : cb ≠ bb := (ne_new vbb hcb).symm
   have ncb' := ncb.symm
   have hrow4 := rowZ_keep hrow (fun x _ u hu => lH4 _ _ hu) (hrow.1.le lH4)
   have ncr : rowB rv ≠ some cb := fun h9 => by obtain ⟨_, c9, h9'⟩ := rowZ_at hrow h9; rw [hcb] at h9'; cases h9'
   have nbr : rowB rv ≠ some bb := fun h9 => by obtain ⟨_, c9, h9'⟩ := rowZ_at hrow h9; rw [vbb] at h9'; cases h9'
   have h0cb : H cb = none := hrow.1.gone hcb
   clear hh3 hp3 hb' hxk vbb hrow hcb
   ((try (refine @unH _ ?_; refine zX y75_44 ?_)); (try (refine hK _ _ ?_; clear hK K; (try simp only [nq, ↓reduceIte, Nat.reduceEqDiff]))); refine @unH _ ?_; refine zA y75_44 ?_; (repeat (refine inC ?_; intro hc)); try (refine inK ?_; intro K hK))
   refine (ride_spec main H4 hb n v jv js hh4 bs i1 (fun x hx => by have := i2 x hx; omega) f mk hmk (by omega) mi hm1 hm2).runs.mono ?_
   rintro _ H5 ⟨rfl, lH5⟩
   generalize hR : rideF n js bs f mk mi = R at *
   have hbl : (bs.set (pickB bs n.barrows.toNat) R.back).length = 4 := by rw [List.length_set]; exact i1
   generalize bs.set (pickB bs n.barrows.toNat) R.back = bs2 at *
   have vcb5 := lH5 _ _ vcb
   have vbb5 := lH5 _ _ vbb4
   have hrow5 := rowZ_keep hrow4 (fun x _ u hu => lH5 _ _ hu) (hrow4.1.le lH5)
   clear vcb vbb4 hrow4 hh4 hR lH5 lH4
   have hli2 : (ints bs2).length = 4 := by rw [ints_len]; exact hbl
   have hne2 : ints bs2 ≠ [] := fun h => by rw [h] at hli2; cases hli2
   have hone : (ints bs2).all one = true := List.all_eq_true.2 (ints_one _)
   have hov : over (ints bs).toArray 0 (ints bs2) = (ints bs2).toArray := over_all (by rw [hli, hli2])
   have vbb5' : (H5.set cb (.cells #[.int .i64 R.barrow, .int .i64 R.out, .int .i64 R.back] 61 (0, 0))) bb = _ := (set_ne ncb').trans vbb5
   simp only [RideV.agg]
   ((try (refine @unH _ ?_; refine x1_44 ?_)); (try (refine hK _ _ ?_; clear hK K; (try simp only [nq, ↓reduceIte, Nat.reduceEqDiff]))); refine @unH _ ?_; refine z0_44 ?_; (repeat (refine inC ?_; intro hc)); try (refine inK ?_; intro K hK))
   intro g hg
   replace hg : ((H5.set cb (.cells #[.int .i64 R.barrow, .int .i64 R.out, .int .i64 R.back] 61 (0, 0))).set bb (.cells (ints bs2).toArray 145 (0, 0))) g = none := hg
   have vbb6 : ((H5.set cb (.cells #[.int .i64 R.barrow, .int .i64 R.out, .int .i64 R.back] 61 (0, 0))).set bb (.cells (ints bs2).toArray 145 (0, 0))) bb = some (true, .cells (ints bs2).toArray 145 (0, 0)) := set_at
   have lx6 : Lex none H ((H5.set cb (.cells #[.int .i64 R.barrow, .int .i64 R.out, .int .i64 R.back] 61 (0, 0))).set bb (.cells (ints bs2).toArray 145 (0, 0))) := (hrow5.1.own h0cb).own h0bb
   have hrow6 := rowZ_keep hrow5 (fun x hx u hu => by rw [set_ne (fun h9 => nbr (by rw [<- h9]; exact hx)), set_ne (fun h9 => ncr (by rw [<- h9]; exact hx))]; exact hu) lx6
   generalize (H5.set cb (.cells #[.int .i64 R.barrow, .int .i64 R.out, .int .i64 R.back] 61 (0, 0))).set bb (.cells (ints bs2).toArray 145 (0, 0)) = H6 at *
   refine append_rowZ Tryz.underlying45 Tryz.sizeOf61 Tryz.zeroValue61 rfl Tryz.typeInfo61 (by decide) (by decide) hrow6 (ws := [.int .i64 R.barrow, .int .i64 R.out, .int .i64 R.back]) rfl hg (by simp [one]) (by omega) _ _ _ _ (fun rv' H7 hrow7 hkeep hnew => ?_)
   have vbb7 := hkeep bb _ vbb6 nbr
   rw [<- rcells_app] at hrow7
   clear hrow6 hrow5 lx6 vbb6 hkeep hnew hov hone hne2 vbb5' vbb5 vcb5
   ((try (refine @unH _ ?_; refine zX y75_44 ?_)); (try (refine hK _ _ ?_; clear hK K; (try simp only [nq, ↓reduceIte, Nat.reduceEqDiff]))); refine @unH _ ?_; refine zA y75_44 ?_; (repeat (refine inC ?_; intro hc)); try (refine inK ?_; intro K hK))
   refine ⟨_, by omega, _, k + 1, rv', rfl, hlt, rfl, e0, e2, rfl, e8, ?_, e14, e15, rfl, ?_, ?_⟩
   ·rw [hD1, hdef]; rfl
   ·rw [hD1, hdef]; exact hrow7
   ·rw [hD1, hdef]; exact vbb7
  ·obtain rfl : k = pl.length := by omega
   (refine @unH _ ?_; refine zA y75_44 ?_; (repeat (refine inC ?_; intro hc)); try (refine inK ?_; intro K hK))
   (refine @unH _ ?_; refine z9 Tryz.results75 ?_)
   exact ⟨rv, rfl, hrow⟩
end Go.Proofs.YtofmadjgbcopdaaGreatDoor
end
section
namespace Go.Proofs.YtofmadjgbcopdaaGreatDoor
open Go Go.X
def y100_45 := And.intro @callF75 (And.intro (fun H => len_slice (H := H) Tryz.underlying45) (And.intro (fun H => indexAt_slice (H := H) Tryz.underlying45 Tryz.sizeOf61) (And.intro (fun H => loadAt_aggE (H := H) Tryz.underlying61 rfl Tryz.sizeOf61) (And.intro (fun H => ex_alloc (H := H) (P := Tryz.prog) (h := Tryz.zeroValue61)) (And.intro (fun H => storeAt_agg (H := H) Tryz.sizeOf61) (And.intro (fun H => indexAt_slice (H := H) Tryz.underlying22 Tryz.sizeOf3) (And.intro (fun H => loadAt_one (H := H) Tryz.underlying3 rfl) (And.intro @callF119 (And.intro (fun H st => assert_ok (H := H) (st := st) Tryz.underlying199 rfl Tryz.zeroValue199) (fun H st => assert_ok (H := H) (st := st) Tryz.underlying200 rfl Tryz.zeroValue200))))))))))
def y119_45 := And.intro (fun H => fieldAt_eq (H := H) Tryz.underlying61 (i := 2) rfl (off := 2) rfl Tryz.sizeOf3) (And.intro (fun H => loadAt_one (H := H) Tryz.underlying3 rfl) (And.intro (fun H => fieldAt_eq (H := H) Tryz.underlying85 (i := 0) rfl (off := 0) rfl Tryz.sizeOf29) (And.intro (fun H => fieldAt_eq (H := H) Tryz.underlying29 (i := 3) rfl (off := 6) rfl Tryz.sizeOf22) (And.intro (fun H => loadAt_one (H := H) Tryz.underlying22 rfl) (And.intro (fun H => fieldAt_eq (H := H) Tryz.underlying85 (i := 1) rfl (off := 12) rfl Tryz.sizeOf22) (And.intro (fun H => indexAt_slice (H := H) Tryz.underlying22 Tryz.sizeOf3) (And.intro (fun H => makeI (H := H) Tryz.underlying199 rfl) (And.intro @bld_200__0 (fun H => makeI (H := H) Tryz.underlying200 rfl)))))))))
def outV (late : Int) : Value := if 0 < late then .iface 199 (.int .i64 late) else .iface 200 (.agg #[])
theorem HaulAt.due_at {H : Hp} {hb : Nat} {n : HN} {v : HV} {jv : Value} {js : List Int} (hh : HaulAt H hb n v jv js) {k : Nat} (hk : k < js.length) : ∃ (jb jo jc : Nat) (jp : Bool) (jcs : Array Value) (jfr : Nat × Nat) (xb xo xc : Nat) (xpp : Bool) (xcs : Array Value) (xfr : Nat × Nat),
  jv = .slice (some ⟨jb, jo, none⟩) js.length jc /\ H jb = some (jp, .cells jcs 3 jfr) /\ jcs[jo + k]? = some (.int .i64 (js.getD k 0)) /\ v.xv = .slice (some ⟨xb, xo, none⟩) n.xs.length xc /\ H xb = some (xpp, .cells xcs 3 xfr) /\ xcs[xo + (js.getD k 0).toNat]? = some (.int .i64 (n.due js k)) /\
  0 <= js.getD k 0 /\ js.getD k 0 < n.xs.length /\ 0 <= n.due js k /\ n.due js k <= 99 := by
 have hjk : js.getD k 0 = js[k] := by simp [List.getD, List.getElem?_eq_getElem hk]
 have hjr := hh.jb _ (List.getElem_mem hk)
 rw [<- hjk] at hjr
 have hdue : n.due js k = n.xs[(js.getD k 0).toNat]'(by omega) := by simp [HN.due, List.getD, List.getElem?_eq_getElem (show (js[k]?.getD 0).toNat < n.xs.length by simpa [List.getD] using (by omega : (js.getD k 0).toNat < n.xs.length))]
 have hxr := hh.xb _ (List.getElem_mem (show (js.getD k 0).toNat < n.xs.length by omega))
 rw [<- hdue] at hxr
 obtain ⟨jb, jo, jc, jp, jcs, jfr, hje, _, vjb, hjx⟩ := hh.j.cons (fun h => absurd (congrArg List.length h) (by simp only [List.length_nil]; omega))
 obtain ⟨xb, xo, xc, xpp, xcs, xfr, hxe, _, vxb, hxx⟩ := hh.x.cons (fun h => absurd (congrArg List.length h) (by simp only [List.length_nil]; omega))
 exact ⟨jb, jo, jc, jp, jcs, jfr, xb, xo, xc, xpp, xcs, xfr, hje, vjb, by rw [hjk]; exact hjx _ _ (List.getElem?_eq_getElem _), hxe, vxb, by rw [hdue]; exact hxx _ _ (List.getElem?_eq_getElem _), hjr.1, hjr.2, hxr.1, hxr.2⟩
theorem outcome_spec (main : Md) (H : Hp) (hb : Nat) (n : HN) (v : HV) (jv : Value) (js : List Int) (hh : HaulAt H hb n v jv js) (k : Nat) (hk : k < js.length) (r : RideV) (hr : -10000000 <= r.back /\ r.back <= 10000000) :
  FnX Tryz.prog main 119 #[.pointer (some ⟨hb, 0, none⟩), .int .i64 k, r.agg] H fun e H' => e = .returned (outV (r.back - n.due js k)) /\ H.le H' := by
 obtain ⟨jb, jo, jc, jp, jcs, jfr, xb, xo, xc, xpp, xcs, xfr, rfl, vjb, hj1, hxe, vxb, hx1, j0, j1, d0, d99⟩ := hh.due_at hk
 obtain ⟨sv, cv, tv, xv⟩ := v
 simp only [] at hxe
 subst hxe
 obtain ⟨hoq, hho⟩ := hh.o
 simp only [HN.obj] at hho
 simp only [RideV.agg]
 refine FnX_start Tryz.func119 rfl Tryz.ntmps119 (by simp) ?_
 generalize n.due js k = due at *
 generalize js.getD k 0 = jk at *
 obtain ⟨rb, ro, rk⟩ := r
 simp only [] at hr ⊢
 (refine @unH _ ?_; refine zA y119_45 ?_; (repeat (refine inC ?_; intro hc)); try (refine inK ?_; intro K hK))
 (intro b1 hb1; generalize hG : Hp.set _ b1 _ = H1; have lH1 := le_of_set hG hb1; have vb1 := at_of_set hG; clear hG)
 have vhb1 := lH1 _ _ hho
 have vjb1 := lH1 _ _ vjb
 have vxb1 := lH1 _ _ vxb
 clear hho vjb vxb
 ((try (refine @unH _ ?_; refine zX y119_45 ?_)); (try (refine hK _ _ ?_; clear hK K; (try simp only [nq, ↓reduceIte, Nat.reduceEqDiff]))); refine @unH _ ?_; refine zA y119_45 ?_; (repeat (refine inC ?_; intro hc)); try (refine inK ?_; intro K hK))
 (refine wpX_dst1 18 [(true, 0), (true, 1), (true, 2), (true, 3), (true, 4), (true, 5), (true, 6), (true, 7), (true, 8), (true, 9), (true, 10), (true, 11), (true, 12), (true, 13), (true, 14), (true, 15), (true, 16), (true, 17)] (by kernel_rfl) (by kernel_rfl) (by simp) (by kernel_rfl) ?_; intro K hK; (iterate 18 (refine @unH _ ?_; refine z3 y119_45 ?_)); refine plan_nil (hK _ _ ?_); clear hK K; (try simp only [nq, ↓reduceIte, Nat.reduceEqDiff]))
 repeat' (first
 | (refine wpX_stmtL rfl ?_; intro K hK; simp -implicitDefEqProofs (disch := first | omega | (simp only [qd] <;> omega)) only [xq, ↓xp, qc, Nat.reduceAdd, List.range, List.range.loop, fine, Nat.reduceEqDiff, ↓reduceIte, yielded, reduceCtorEq, Nat.reduceLT, Nat.reduceMul, Nat.reduceSub, one, Nat.reduceLeDiff, runX_cons, y119_45, aq, ↓ap, qe0, qe1, qe2, *, -hK]; try (refine hK _ _ ?_; clear hK K))
 | (refine wpX_lastL rfl ?_; intro K hK; simp -implicitDefEqProofs (disch := first | omega | (simp only [qd] <;> omega)) only [xq, ↓xp, qc, Nat.reduceAdd, List.range, List.range.loop, fine, Nat.reduceEqDiff, ↓reduceIte, yielded, reduceCtorEq, Nat.reduceLT, Nat.reduceMul, Nat.reduceSub, one, Nat.reduceLeDiff, runX_cons, y119_45, aq, ↓ap, qe0, qe1, qe2, *, -hK]; try (refine hK _ _ ?_; clear hK K; (try simp only [nq, ↓reduceIte, Nat.reduceEqDiff])))
 | (refine wpX_skip ?_; (try simp only [nq, ↓reduceIte, Nat.reduceEqDiff]))
 | (refine wpX_label ?_; (try simp only [nq, ↓reduceIte, Nat.reduceEqDiff]))
 | (refine wpX_exit ?_; (try simp only [nq, ↓reduceIte, Nat.reduceEqDiff]))
 | (refine wpX_goto ?_; (try simp only [nq, ↓reduceIte, Nat.reduceEqDiff]))
 | (refine wpX_condK (by simp only [act_eval, upd_get, Nat.reduceEqDiff, Nat.reduceLT, ↓reduceIte, *]; rfl) ?_ ?_ <;> (intro hc; first | (exfalso; simp -implicitDefEqProofs (disch := omega) only [*, bq, reduceCtorEq] at hc; done) | (simp only [dq, qe3, qe4, qe5, qe6] at hc) | skip))
 | (refine wpX_scope0 ?_)
 | (refine wpX_block ?_)
 | (refine wpX_seq ?_))
 ·(refine @unH _ ?_; refine z9 Tryz.results119 ?_)
  exact ⟨by rw [outV, if_pos hc], lH1⟩
 ·(refine @unH _ ?_; refine z9 Tryz.results119 ?_)
  exact ⟨by rw [outV, if_neg (by omega)], lH1⟩
theorem rcells_get : ∀ (rs : List RideV) (i : Nat) (r : RideV), rs[i]? = some r -> (rcells rs)[i * 3]? = some (.int .i64 r.barrow) /\ (rcells rs)[i * 3 + 1]? = some (.int .i64 r.out) /\ (rcells rs)[i * 3 + 2]? = some (.int .i64 r.back)
 | [], i, r, h => by simp at h
 | q :: rs, 0, r, h => by
  simp at h
  subst h
  simp [rcells]
 | q :: rs, i + 1, r, h => by
  obtain ⟨h1, h2, h3⟩ := rcells_get rs i r (by simpa using h)
  have e : rcells (q :: rs) = [.int .i64 q.barrow, .int .i64 q.out, .int .i64 q.back] ++ rcells rs := rfl
  rw [e]
  refine ⟨?_, ?_, ?_⟩
  ·rw [List.getElem?_append_right (by simp; omega)]
   simpa [show (i + 1) * 3 - 3 = i * 3 by omega] using h1
  ·rw [List.getElem?_append_right (by simp; omega)]
   simpa [show (i + 1) * 3 + 1 - 3 = i * 3 + 1 by omega] using h2
  ·rw [List.getElem?_append_right (by simp; omega)]
   simpa [show (i + 1) * 3 + 2 - 3 = i * 3 + 2 by omega] using h3
theorem extract3 {c : Array Value} {k : Nat} {x y z : Value} (h1 : c[k]? = some x) (h2 : c[k + 1]? = some y) (h3 : c[k + 2]? = some z) : c.extract k (k + 3) = #[x, y, z] := by
 have hk : k + 2 < c.size := (Array.getElem?_eq_some_iff.1 h3).1
 apply Array.ext_getElem?
 intro i
 rw [Array.getElem?_extract]
 rcases i with _ | _ | _ | i
 ·simp; exact ⟨by omega, by simpa using h1⟩
 ·simp; exact ⟨by omega, by simpa using h2⟩
 ·simp; exact ⟨by omega, by simpa using h3⟩
 ·simp; intro h; omega
def fineP (n : HN) (js : List Int) (mi : Int) (pl : List Nat) : Prop := ∀ i r, (dS n js mi pl pl.length).2.2[i]? = some r -> ∀ j, j < pl.getD i 0 -> r.back - n.due js ((pl.take i).sum + j) <= 0
theorem fine_spec (main : Md) (H : Hp) (hb : Nat) (n : HN) (v : HV) (jv : Value) (js : List Int) (hh : HaulAt H hb n v jv js) (pv : Value) (pl : List Nat) (hp : SlI H pv (pl.map fun m : Nat => (m : Int))) (hp1 : ∀ m ∈ pl, 1 <= m) (hps : pl.sum <= js.length) (hpl : pl.length <= 1000) (mi : Int) (hm1 : 1 <= mi) (hm2 : mi <= 20)
  (hbk : ∀ r ∈ (dS n js mi pl pl.length).2.2, -10000000 <= r.back /\ r.back <= 10000000) :
  FnX Tryz.prog main 100 #[.pointer (some ⟨hb, 0, none⟩), pv, .int .i64 mi] H fun e H' => ∃ b, e = .returned (.bool b) /\ (b = true ↔ fineP n js mi pl) /\ H.le H' := by
 have hpS := hp
 obtain ⟨pa, pc, rfl, hpc, _⟩ := hp
 have hjl := hh.jl
 have hdok := dS_ok n js mi pl hh.xb hh.n0 hh.b1 hh.b4 hm1 hm2 pl.length (Nat.le_refl _)
 simp only [List.length_map] at hpc
 simp only [List.length_map]
 have hdr := drive_spec main H hb n v jv js hh _ pl hpS hp1 hps hpl mi hm1 hm2
 simp only [List.length_map] at hdr
 have hlen := hdok.2.2.2
 generalize hRS : (dS n js mi pl pl.length).2.2 = rs at hbk hdr hlen
 unfold fineP
 rw [hRS]
 clear hRS hdok
 refine FnX_start Tryz.func100 rfl Tryz.ntmps100 (by simp) ?_
 (refine @unH _ ?_; refine zA y100_45 ?_; (repeat (refine inC ?_; intro hc)); try (refine inK ?_; intro K hK))
 refine hdr.runs.mono ?_
 rintro _ H1 ⟨rv, rfl, hrow⟩
 have hh1 := hh.le hrow.1.toLe
 have hp1' := hpS.le hrow.1.toLe
 obtain ⟨ra, rc, rfl⟩ := rowZ_len hrow
 ((try (refine @unH _ ?_; refine zX y100_45 ?_)); (try (refine hK _ _ ?_; clear hK K; (try simp only [nq, ↓reduceIte, Nat.reduceEqDiff]))); refine @unH _ ?_; refine zA y100_45 ?_; (repeat (refine inC ?_; intro hc)); try (refine inK ?_; intro K hK))
 refine wpX_loop (fun w a' H' => ∃ e i, w = pl.length - i /\ i <= pl.length /\ (∀ i' r, i' < i -> rs[i']? = some r -> ∀ j, j < pl.getD i' 0 -> r.back - n.due js ((pl.take i').sum + j) <= 0) /\ a' = act 40 e [] /\ e 0 = .pointer (some ⟨hb, 0, none⟩) /\ e 1 = .slice pa pl.length pc /\ e 7 = .int .i64 ((pl.take i).sum : Nat) /\ e 13 = .slice ra pl.length rc /\ e 14 = .int .i64 pl.length /\ e 15 = .int .i64 (i : Nat) /\ H1.le H') (n := pl.length) ?_ ?_
 ·exact ⟨_, 0, rfl, by omega, fun i' r h => by omega, rfl, rfl, rfl, rfl, rfl, rfl, rfl, Hp.le_refl _⟩
 ·rintro w a' H2 ⟨e, i, rfl, hi, hdone, rfl, e0, e1, e7, e13, e14, e15, lH2⟩
  by_cases hlt : i < pl.length
  ·have hlr : i < rs.length := by omega
   have hri : rs[i]? = some rs[i] := List.getElem?_eq_getElem hlr
   have hrb := hbk _ (List.getElem_mem hlr)
   generalize rs[i] = r at hri hrb
   obtain ⟨g1, g2, g3⟩ := rcells_get rs i r hri
   have hh2 := hh1.le lH2
   have hp2 := hp1'.le lH2
   have hrow2 := hrow.2
   rcases hrow2 with ⟨h9, h8, _⟩ | ⟨b, c, cap, _, vb, hve, hcs, hcap, hcl, hget⟩
   ·omega
   ·cases hve
    have vb2 := lH2 _ _ vb
    have hex := extract3 (hget _ _ g1) (hget _ _ g2) (hget _ _ g3)
    have hsz : i * 3 + 3 <= c.size := by omega
    obtain ⟨b3, o3, cap3, p3, c3, fr3, hve, _, vb3, hx⟩ := hp2.cons (fun h => absurd (congrArg List.length h) (by simp only [List.length_nil, List.length_map]; omega))
    cases hve
    have hxi := hx i (pl[i] : Nat) (by rw [List.getElem?_map, List.getElem?_eq_getElem hlt]; rfl)
    have hg : pl.getD i 0 = pl[i] := by simp [List.getD, List.getElem?_eq_getElem hlt]
    have hsum : (pl.take (i + 1)).sum <= pl.sum := by
     have h9 : pl.sum = (pl.take (i + 1)).sum + (pl.drop (i + 1)).sum := by rw [<- List.sum_append, List.take_append_drop]
     omega
    have hs2 : (pl.take (i + 1)).sum = (pl.take i).sum + pl[i] := by
     rw [List.take_add_one, List.getElem?_eq_getElem hlt, List.sum_append]
     simp
    rw [<- hg] at hxi hs2
    generalize hsi1 : (pl.take (i + 1)).sum = S1 at hsum hs2
    generalize hsi : (pl.take i).sum = S0 at hs2 e7
    generalize hpi : pl.getD i 0 = mi' at hxi hs2
    clear hx hg g1 g2 g3 hget hcs hcl hp2 vb
    replace hs2 : S1 <= S0 + mi' /\ S0 + mi' <= S1 := by omega
    have hi3 : 0 + i * 3 = i * 3 := by omega
    (refine @unH _ ?_; refine zA y100_45 ?_; (repeat (refine inC ?_; intro hc)); try (refine inK ?_; intro K hK))
    (intro cb hcb; generalize hG : Hp.set _ cb _ = H3; have lH3 := le_of_set hG hcb; have vcb := at_of_set hG; clear hG)
    have vb33 := lH3 _ _ vb3
    have hh3 := hh2.le lH3
    clear vb3 vb2 hh2
    ((try (refine @unH _ ?_; refine zX y100_45 ?_)); (try (refine hK _ _ ?_; clear hK K; (try simp only [nq, ↓reduceIte, Nat.reduceEqDiff]))); refine @unH _ ?_; refine zA y100_45 ?_; (repeat (refine inC ?_; intro hc)); try (refine inK ?_; intro K hK))
    refine wpX_loop (fun w a' H' => ∃ e j, w = mi' - j /\ j <= mi' /\ (∀ j', j' < j -> r.back - n.due js (S0 + j') <= 0) /\ a' = act 40 e [] /\ e 0 = .pointer (some ⟨hb, 0, none⟩) /\ e 1 = .slice (some ⟨b3, o3, none⟩) pl.length pc /\ e 7 = .int .i64 ((S0 + j : Nat) : Int) /\ e 9 = .pointer (some ⟨cb, 0, none⟩) /\ e 13 = .slice (some ⟨b, 0, none⟩) pl.length rc /\ e 14 = .int .i64 pl.length /\ e 15 = .int .i64 (i : Nat) /\ e 23 = .int .i64 (mi' : Nat) /\ e 24 = .int .i64 (j : Nat) /\ H3.le H') (n := mi') ?_ ?_
    ·exact ⟨_, 0, rfl, by omega, fun j' h => by omega, rfl, e0, e1, e7, rfl, e13, e14, e15, rfl, rfl, Hp.le_refl _⟩
    ·clear e0 e1 e7 e13 e14 e15
     rename_i eold
     clear eold
     rintro w a' H4 ⟨e, j, rfl, hj, hjd, rfl, e0, e1, e7, e9, e13, e14, e15, e23, e24, lH4⟩
     have vcb4 := lH4 _ _ vcb
     have hh4 := hh3.le lH4
     by_cases hltj : j < mi'
     ·(refine @unH _ ?_; refine zA y100_45 ?_; (repeat (refine inC ?_; intro hc)); try (refine inK ?_; intro K hK))
      refine (outcome_spec main H4 hb n v jv js hh4 (S0 + j) (by omega) r hrb).runs.mono ?_
      rintro _ H5 ⟨rfl, lH5⟩
      by_cases hlate : 0 < r.back - n.due js (S0 + j)
      ·rw [show outV (r.back - n.due js (S0 + j)) = .iface 199 (.int .i64 (r.back - n.due js (S0 + j))) from if_pos hlate]
       ((try (refine @unH _ ?_; refine zX y100_45 ?_)); (try (refine hK _ _ ?_; clear hK K; (try simp only [nq, ↓reduceIte, Nat.reduceEqDiff]))); refine @unH _ ?_; refine zA y100_45 ?_; (repeat (refine inC ?_; intro hc)); try (refine inK ?_; intro K hK))
       (refine @unH _ ?_; refine z9 Tryz.results100 ?_)
       refine ⟨false, rfl, ⟨(fun h => by cases h), fun h => absurd (h i r hri j (by rw [hpi]; exact hltj)) (by rw [hsi]; omega)⟩, ?_⟩
       exact Hp.le_trans hrow.1.toLe (Hp.le_trans lH2 (Hp.le_trans lH3 (Hp.le_trans lH4 lH5)))
      ·rw [show outV (r.back - n.due js (S0 + j)) = .iface 200 (.agg #[]) from if_neg hlate]
       ((try (refine @unH _ ?_; refine zX y100_45 ?_)); (try (refine hK _ _ ?_; clear hK K; (try simp only [nq, ↓reduceIte, Nat.reduceEqDiff]))); refine @unH _ ?_; refine zA y100_45 ?_; (repeat (refine inC ?_; intro hc)); try (refine inK ?_; intro K hK))
       refine ⟨_, by omega, _, j + 1, rfl, hltj, ?_, rfl, e0, e1, ?_, e9, e13, e14, e15, e23, rfl, Hp.le_trans lH4 lH5⟩
       ·intro j' hj'
        by_cases he : j' = j
        ·subst he; omega
        ·exact hjd j' (by omega)
       ·show Value.int .i64 _ = Value.int .i64 _
        congr 1
     ·obtain rfl : j = mi' := by omega
      (refine @unH _ ?_; refine zA y100_45 ?_; (repeat (refine inC ?_; intro hc)); try (refine inK ?_; intro K hK))
      refine ⟨_, by omega, _, i + 1, rfl, hlt, ?_, rfl, e0, e1, ?_, e13, e14, rfl, Hp.le_trans lH2 (Hp.le_trans lH3 lH4)⟩
      ·intro i' r' hi' hr' j' hj'
       by_cases he : i' = i
       ·subst he
        rw [hri] at hr'
        cases hr'
        rw [hsi]
        exact hjd j' (by rw [<- hpi]; exact hj')
       ·exact hdone i' r' (by omega) hr' j' hj'
      ·rw [hsi1]
       show _ = Value.int .i64 _
       rw [show S1 = S0 + j by omega]
       exact e7
  ·obtain rfl : i = pl.length := by omega
   (refine @unH _ ?_; refine zA y100_45 ?_; (repeat (refine inC ?_; intro hc)); try (refine inK ?_; intro K hK))
   (refine @unH _ ?_; refine z9 Tryz.results100 ?_)
   exact ⟨true, rfl, ⟨fun _ i r hr j hj => hdone i r (by have := (List.getElem?_eq_some_iff.1 hr).1; omega) hr j hj, fun _ => rfl⟩, Hp.le_trans hrow.1.toLe lH2⟩
end Go.Proofs.YtofmadjgbcopdaaGreatDoor
end
section
namespace Go.X
open Go
open Go.Conc (G base)
section
variable {P : Program} {main : Md} {Q : Exit -> Act -> Hp -> Prop} {a : Act} {H : Hp}
def yieldK (q : Option (Bool × Obj)) (l : Nat) (args : Array Value) (H : Hp) (K : Next -> Hp -> Prop) : Prop := match q with
 | some (_, .loop r) => args.size = r.params.size /\ K (.round l r.fn ((r.params.zip args).foldl (fun tmps (x : Tmp × Value) => tmps.setIfInBounds x.1 x.2) r.tmps) r.assign r.body) H
 | _ => False
theorem yieldK_some {p : Bool} {r : Loop} {l : Nat} {args : Array Value} {K : Next -> Hp -> Prop} : yieldK (some (p, .loop r)) l args H K = (args.size = r.params.size /\ K (.round l r.fn ((r.params.zip args).foldl (fun tmps (x : Tmp × Value) => tmps.setIfInBounds x.1 x.2) r.tmps) r.assign r.body) H) := rfl
theorem wpS_yield {l : Nat} {args : Array Value} {K : Next -> Hp -> Prop} {E : Value -> Hp -> Prop} (h : yieldK (H l) l args H K) : wpS P (Instr.yield l args) H K E := by
 unfold yieldK at h
 split at h
 ·rename_i p r hl
  unfold Instr.yield Instr.getLoop
  rw [wpS_bind', wpS_bind']
  refine ⟨p, _, hl, rfl, rfl, ?_⟩
  rw [wpS_purec]
  simp only [wpS_pure, ne_eq, h.1, not_true, if_false]
  exact h.2
 ·exact h.elim
theorem callK_yield {l : Nat} {args : Array Value} {K : Next -> Hp -> Prop} {E : Value -> Hp -> Prop} (h : yieldK (H l) l args H K) : callK P (.func (.yield l) #[] #[]) args H K E := by
 unfold callK
 rw [wpS_bind']
 simp only [Deferred.ofValue, wpS_pure, invoke, Array.empty_append]
 exact wpS_yield h
def rnd (l : Nat) (R : Ending -> Hp -> Prop) : Exit -> Act -> Hp -> Prop
 | .normal, a, H => a.defers = [] /\ ∃ r, H l = some (true, .loop r) /\ R (.returned (.bool true)) (H.set l (.loop { r with state := .ready, pending := none }))
 | .exit id, a, H => a.defers = [] /\ ∃ r, H l = some (true, .loop r) /\ R (.returned (.bool false)) (H.set l (.loop { r with state := .done, pending := some (.exit id) }))
 | .ret, a, H => a.defers = [] /\ ∃ r, H l = some (true, .loop r) /\ R (.returned (.bool false)) (H.set l (.loop { r with state := .done, pending := some .ret }))
 | _, _, _ => False
theorem wpS_endRound {l : Nat} {r : Loop} (h : H l = some (true, .loop r)) (jump : Option Code) (K : Value -> Hp -> Prop) (E : Value -> Hp -> Prop) (hk : K (.bool jump.isNone) (H.set l (.loop { r with state := if jump.isNone then .ready else .done, pending := jump }))) :
  wpS P (Instr.endRound l jump) H K E := by
 unfold Instr.endRound Instr.getLoop
 rw [wpS_bind', wpS_bind']
 refine ⟨true, _, h, rfl, rfl, ?_⟩
 rw [wpS_purec]
 simp only [wpS_pure, wpS_bind']
 exact ⟨_, h, rfl, rfl, hk⟩
theorem wpS_beginRound {l : Nat} {r : Loop} (h : H l = some (true, .loop r)) (hr : r.state = .ready) (K : Unit -> Hp -> Prop) (E : Value -> Hp -> Prop) (hk : K () (H.set l (.loop { r with state := .busy }))) :
  wpS P (Instr.beginRound l) H K E := by
 unfold Instr.beginRound Instr.getLoop
 rw [wpS_bind', wpS_bind']
 refine ⟨true, _, h, rfl, rfl, ?_⟩
 rw [wpS_purec]
 simp only [wpS_pure, wpS_bind']
 refine ⟨_, h, rfl, rfl, ?_⟩
 rw [hr]
 exact hk
theorem leave_round {b c : Frame} {cs : List Frame} {Stop : Goroutine -> Hp -> Prop} {l : Nat} {r : Loop} {jump : Option Code} {a : Act} {todo : List Item} (hb : b.kind = .normal) (hl : b.roundOf = some l) (h : H l = some (true, .loop r))
  (hs : ∀ w, stepG P main (G (fat b a todo) (c :: cs)) w = (let (x, es) := (Instr.endRound l jump).runT P w #[]
   GStep.after (seen P b.fn es) <| match x with
   | .ok v w => doReturn P main (fat b a todo) (c :: cs) none v w
   | .halt _ w => .ended (.stuck "range over a function: no such loop" ((fat b a todo).pos P)) w))
  (hk : WPG P main Stop (G (c.finish (.bool jump.isNone)) cs) (H.set l (.loop { r with state := if jump.isNone then .ready else .done, pending := jump }))) : WPG P main Stop (G (fat b a todo) (c :: cs)) H := by
 refine WPG.tree (s := Instr.endRound l jump) (K := fun v H' => v = .bool jump.isNone /\ H' = H.set l (.loop { r with state := if jump.isNone then .ready else .done, pending := jump })) (E := fun _ _ => False) rfl (wpS_endRound h jump _ _ ⟨rfl, rfl⟩)
  (fun g' H' => g' = G (c.finish (.bool jump.isNone)) cs /\ H' = H.set l (.loop { r with state := if jump.isNone then .ready else .done, pending := jump })) (fun w w' H' es v hr hm hk' => ?_) (fun _ _ _ _ _ _ _ he => he.elim) ?_
 ·obtain ⟨rfl, rfl⟩ := hk'
  refine ⟨_, seen P b.fn es, ?_, fun e => mem_seen, rfl, rfl⟩
  rw [hs, hr]
  simp [doReturn, fat, hb, GStep.after, G]
 ·rintro g' H' ⟨rfl, rfl⟩
  exact hk
theorem round_runs {l : Nat} {fn : FuncId} {tmps : Array Value} {asg body : Code} {R : Ending -> Hp -> Prop}
  (h : wpX P main (some l) asg (thn (fun a H1 => ∃ r, H1 l = some (true, .loop r) /\ r.state = .ready /\ wpX P main (some l) body (rnd l R) a (H1.set l (.loop { r with state := .busy }))) fun _ _ _ => False) { tmps := tmps, defers := [] } H) :
  Runs P main (Frame.round l fn tmps asg body .normal) H R := by
 intro c cs Stop hv hp
 have he : Frame.round l fn tmps asg body .normal = fat { base fn with roundOf := some l } { tmps := tmps, defers := [] } [.code asg, .beginRound, .code body] := by
  simp [Frame.round, fat, base]
 rw [he]
 refine h { base fn with roundOf := some l } [.beginRound, .code body] (c :: cs) Stop (by simp [base]) rfl fun e a1 H1 q => ?_
 cases e with
 | normal =>
  obtain ⟨r, hl, hr, q⟩ := q
  refine WPG.tree (s := (do Instr.beginRound l; pure .skip : Sem Next)) (K := fun v H' => v = .skip /\ H' = H1.set l (.loop { r with state := .busy })) (E := fun _ _ => False) rfl (by rw [wpS_bind']; exact wpS_beginRound hl hr _ _ ⟨rfl, rfl⟩)
   (fun g' H' => g' = G (fat { base fn with roundOf := some l } a1 [.code body]) (c :: cs) /\ H' = H1.set l (.loop { r with state := .busy })) (fun w w' H' es v hr' hm hk' => ?_) (fun _ _ _ _ _ _ _ he => he.elim) ?_
  ·obtain ⟨rfl, rfl⟩ := hk'
   refine ⟨_, seen P fn es, ?_, fun e => mem_seen, rfl, rfl⟩
   simp [stepG, stepG.exec, stepG.apply, fat, G, base, hr', GStep.after, Frame.finish, -Sem.runT_eq, -bind_pure_comp]
  ·rintro g' H' ⟨rfl, rfl⟩
   refine q { base fn with roundOf := some l } [] (c :: cs) Stop (by simp [base]) rfl fun e a2 H2 q2 => ?_
   cases e with
   | normal =>
    obtain ⟨_, r2, hl2, q2⟩ := q2
    refine leave_round (jump := none) rfl rfl hl2 (fun w => ?_) (hv _ _ q2)
    simp [stepG, stepG.exec, fat, G, base]
    rfl
   | exit id =>
    obtain ⟨_, r2, hl2, q2⟩ := q2
    intro k' hk'
    refine leave_round (jump := some (.exit id)) rfl rfl hl2 (fun w => ?_) (hv _ _ q2)
    simp [exitTo] at hk'
    simp [stepG, stepG.exec, fat, G, base, hk']
    rfl
   | ret =>
    obtain ⟨_, r2, hl2, q2⟩ := q2
    intro k'
    refine leave_round (jump := some .ret) rfl rfl hl2 (fun w => ?_) (hv _ _ q2)
    simp [stepG, stepG.exec, fat, G, base]
    rfl
   | goto l => exact q2.elim
   | panic ch => exact q2.elim
   | outgrown => exact q2.elim
 | exit id => exact q.elim
 | goto l => exact q.elim
 | ret => exact q.elim
 | panic ch => exact q.elim
 | outgrown => exact q.elim
def coll (r : Nat) : Deferred := { target := .collected r, args := #[] }
def behind (l r : Nat) (a : Act) (Q : Exit -> Act -> Hp -> Prop) : Ending -> Hp -> Prop
 | .returned _, H => ∃ q, H l = some (true, .loop q) /\ q.state ≠ .busy /\ (match q.pending with
  | none => Q .normal { a with defers := coll r :: a.defers } (H.set l (.loop { q with state := .exhausted }))
  | some (.exit id) => Q (.exit id) { a with defers := coll r :: a.defers } (H.set l (.loop { q with state := .exhausted }))
  | some .ret => Q .ret { a with defers := coll r :: a.defers } (H.set l (.loop { q with state := .exhausted }))
  | _ => False)
 | .panicked ch, H => Q (.panic ch) { a with defers := coll r :: a.defers } H
 | .outgrown, _ => False
theorem wpS_endLoop {l : Nat} {r : Loop} (h : H l = some (true, .loop r)) (hr : r.state ≠ .busy) (K : Option Code -> Hp -> Prop) (E : Value -> Hp -> Prop) (hk : K r.pending (H.set l (.loop { r with state := .exhausted }))) :
  wpS P (Instr.endLoop l) H K E := by
 unfold Instr.endLoop Instr.getLoop
 rw [wpS_bind', wpS_bind']
 refine ⟨true, _, h, rfl, rfl, ?_⟩
 rw [wpS_purec]
 have hb : (r.state == .busy) = false := by cases hs : r.state <;> first | rfl | exact absurd hs hr
 simp only [wpS_pure, hb, Bool.false_eq_true, if_false, wpS_bind']
 exact ⟨_, h, rfl, rfl, hk⟩
theorem wpX_rangeFunc {f : Operand} {params : Array Tmp} {asg body : Code} {g : FuncId} {fi cap : Array Value} (hf : a.eval f = .func (.func g) fi cap)
  (hcall : ∀ (args : Array Value) (H : Hp) (K : Next -> Hp -> Prop) (E : Value -> Hp -> Prop), wpS P (callFunc g args) H K E = K (.enter g args) H)
  (h : ∀ fn r l, H r = none -> (H.set r (.deferred (some []))) l = none -> Runs P main (Frame.enter P g (fi ++ #[.func (.yield l) #[] #[]] ++ cap) .normal)
   ((H.set r (.deferred (some []))).set l (.loop { state := .ready, pending := none, fn := fn, tmps := a.tmps, params := params, assign := asg, body := body, defers := r })) (behind l r a Q)) :
  wpX P main none (.rangeFunc f params asg body) Q a H := by
 intro b k cs Stop hk hl hc
 refine .step (fun g' H' => WPG P main Stop g' H') rfl (fun w hw => ?_) fun _ _ h => h
 have h1 : wpS P (Instr.enterLoop b.fn a.tmps params asg body none) H (fun x H' => ∃ r l, x = (l, [coll r]) /\ H r = none /\ (H.set r (.deferred (some []))) l = none /\
   H' = (H.set r (.deferred (some []))).set l (.loop { state := .ready, pending := none, fn := b.fn, tmps := a.tmps, params := params, assign := asg, body := body, defers := r })) (fun _ _ => False) := by
  unfold Instr.enterLoop
  simp only [wpS_bind', newObj, wpS, wpS_pure]
  intro r hr l hl
  exact ⟨r, l, rfl, hr, hl, rfl⟩
 obtain ⟨es, w', H', hm, x, hx, hd⟩ := wpS_sound _ w hw h1
 rcases hd with ⟨x, rfl, r, l, rfl, hr, hlr, rfl⟩ | ⟨v, _, hv⟩
 ·have hx0 : (Instr.enterLoop b.fn a.tmps params asg body none).runT P w #[] = (.ok (l, [coll r]) w', es) := by rw [hx #[]]; simp
  have h2 : wpS P (do let d <- resolve a.eval { callee := .value f, args := #[.const (.func (.yield l) #[] #[])], argTypes := #[] } 0; invoke d.target d.args) ((H.set r (.deferred (some []))).set l (.loop { state := .ready, pending := none, fn := b.fn, tmps := a.tmps, params := params, assign := asg, body := body, defers := r }))
    (fun x H' => x = .enter g (fi ++ #[.func (.yield l) #[] #[]] ++ cap) /\ H' = (H.set r (.deferred (some []))).set l (.loop { state := .ready, pending := none, fn := b.fn, tmps := a.tmps, params := params, assign := asg, body := body, defers := r })) (fun _ _ => False) := by
   rw [wpS_bind']
   simp only [resolve, hf, Deferred.ofValue, wpS_pure, invoke, List.map_toArray, List.map_cons, List.map_nil, eval_const]
   rw [hcall]
   exact ⟨rfl, rfl⟩
  obtain ⟨es2, w2, H2, hm2, x2, hx2, hd2⟩ := wpS_sound _ w' hm.sat h2
  rcases hd2 with ⟨x2, rfl, rfl, rfl⟩ | ⟨v, _, hv⟩
  ·have hx20 : (do let d <- resolve a.eval { callee := .value f, args := #[.const (.func (.yield l) #[] #[])], argTypes := #[] } 0; invoke d.target d.args : Sem Next).runT P w' #[] = (.ok (.enter g (fi ++ #[.func (.yield l) #[] #[]] ++ cap)) w2, es2) := by rw [hx2 #[]]; simp
   refine ⟨G (Frame.enter P g (fi ++ #[.func (.yield l) #[] #[]] ++ cap) .normal) (fat b { a with defers := coll r :: a.defers } (.inRangeFunc l :: k) :: cs), w2, seen P b.fn es ++ (if b.kind == .early then #[] else seen P b.fn es2), ((H.set r (.deferred (some []))).set l (.loop { state := .ready, pending := none, fn := b.fn, tmps := a.tmps, params := params, assign := asg, body := body, defers := r })), ?_, (hm.seen b.fn).trans ?_, ?_⟩
   ·have hk' : (b.kind == CallKind.early) = false := by simpa using hk
    have hev : ∀ fr : Frame, fr.tmps = a.tmps -> fr.eval = a.eval := fun fr h9 => by
     funext x
     cases x <;> simp [Frame.eval, Act.eval, h9]
    simp [stepG, stepG.exec, stepG.apply, fat, G, hl, hx0, hev, hx20, hk', GStep.after, -Sem.runT_eq, -bind_pure_comp]
   ·have hk' : (b.kind == CallKind.early) = false := by simpa using hk
    rw [hk']
    exact hm2.seen b.fn
   ·refine h b.fn r l hr hlr _ cs Stop (fun v H3 hq => ?_) (fun ch H3 hq => ?_)
    ·obtain ⟨q, hq1, hq2, hq3⟩ := hq
     have hfin : (fat b { a with defers := coll r :: a.defers } (.inRangeFunc l :: k)).finish v = fat b { a with defers := coll r :: a.defers } (.endRangeFunc l :: k) := rfl
     rw [hfin]
     refine WPG.tree (s := Instr.endLoop l) (K := fun x H' => x = q.pending /\ H' = H3.set l (.loop { q with state := .exhausted })) (E := fun _ _ => False) rfl (wpS_endLoop hq1 hq2 _ _ ⟨rfl, rfl⟩)
      (fun g' H' => g' = G (fat b { a with defers := coll r :: a.defers } ((q.pending.map Item.code).toList ++ k)) cs /\ H' = H3.set l (.loop { q with state := .exhausted })) (fun w w' H' es v hr' hm hk' => ?_) (fun _ _ _ _ _ _ _ he => he.elim) ?_
     ·obtain ⟨rfl, rfl⟩ := hk'
      refine ⟨_, seen P b.fn es, ?_, fun e => mem_seen, rfl, rfl⟩
      simp [stepG, stepG.exec, fat, G, hr', GStep.after, -Sem.runT_eq]
     ·rintro g' H' ⟨rfl, rfl⟩
      cases hp : q.pending with
      | none =>
       rw [hp] at hq3
       exact hc _ _ _ hq3
      | some j =>
       rw [hp] at hq3
       cases j with
       | exit id => exact hc _ _ _ hq3 k rfl
       | ret => exact hc _ _ _ hq3 k
       | _ => exact hq3.elim
    ·exact hc (.panic ch) _ _ hq _
  ·exact hv.elim
 ·exact hv.elim
theorem wpS_take {r : Nat} {ds : List Deferred} (h : H r = some (true, .deferred (some ds))) (K : List Deferred -> Hp -> Prop) (E : Value -> Hp -> Prop) (hk : K ds (H.set r (.deferred none))) : wpS P (Instr.takeDeferred r) H K E := by
 unfold Instr.takeDeferred
 rw [wpS_bind']
 refine ⟨true, _, h, rfl, rfl, ?_⟩
 rw [wpS_purec]
 simp only [wpS_bind', wpS_pure]
 exact ⟨_, h, rfl, rfl, hk⟩
theorem DefX_coll {r : Nat} {R : FrameMode -> Hp -> Prop} (h : H r = some (true, .deferred (some []))) (hk : R .returning (H.set r (.deferred none))) : DefX P main .returning (coll r) H R := by
 intro c cs Stop hm hR
 refine WPG.tree (s := Instr.takeDeferred r) (K := fun x H' => x = [] /\ H' = H.set r (.deferred none)) (E := fun _ _ => False) rfl (wpS_take h _ _ ⟨rfl, rfl⟩)
  (fun g' H' => g' = G c cs /\ H' = H.set r (.deferred none)) (fun w w' H' es v hr' hm' hk' => ?_) (fun _ _ _ _ _ _ _ he => he.elim) ?_
 ·obtain ⟨rfl, rfl⟩ := hk'
  refine ⟨_, seen P c.fn es, ?_, fun e => mem_seen, rfl, rfl⟩
  simp [stepG, unwind, G, hm, coll, hr', GStep.after, -Sem.runT_eq]
  cases c; simp_all
 ·rintro g' H' ⟨rfl, rfl⟩
  have := hR _ _ hk
  rwa [<- hm] at this
theorem bodyX_coll {fn : Func} {R : Ending -> Hp -> Prop} {n : Nat} {e : Nat -> Value} {r : Nat} (h : H r = some (true, .deferred (some [])))
  (hk : wpS P (results fn (act n e [coll r]).tmps) (H.set r (.deferred none)) (fun v H' => R (.returned v) H') fun _ _ => False) : bodyX P main fn R .ret (act n e [coll r]) H :=
 DefX_coll h hk
def bodyD (P : Program) (fn : Func) (R : Hp -> Prop) : Exit -> Act -> Hp -> Prop
 | .normal, a, H | .ret, a, H => a.defers = [] /\ wpS P (results fn a.tmps) H (fun _ H' => R H') fun _ _ => False
 | _, _, _ => False
theorem DefX_call {f : FuncId} {fn : Func} {c : Code} {args cap : Array Value} {R : FrameMode -> Hp -> Prop} (hf : P.funcs[f]? = some fn) (hb : fn.body = some c)
  (hcall : ∀ (args : Array Value) (H : Hp) (K : Next -> Hp -> Prop) (E : Value -> Hp -> Prop), wpS P (callFunc f args) H K E = K (.enter f args) H)
  (h : wpX P main none c (bodyD P fn (R .returning)) { tmps := (args ++ cap) ++ Array.replicate (fn.ntmps - (args ++ cap).size) undef, defers := [] } H) : DefX P main .returning { target := .fn (.func f) cap, args := args } H R := by
 intro fr cs Stop hm hR
 have h2 : wpS P (invoke (.fn (.func f) cap) args) H (fun x H' => x = .enter f (args ++ cap) /\ H' = H) (fun _ _ => False) := by
  simp only [invoke]
  rw [hcall]
  exact ⟨rfl, rfl⟩
 refine WPG.tree (s := invoke (.fn (.func f) cap) args) rfl h2 (fun g' H' => g' = G (Frame.enter P f (args ++ cap) .deferred) (fr :: cs) /\ H' = H) (fun w w' H' es v hr' hm' hk' => ?_) (fun _ _ _ _ _ _ _ he => he.elim) ?_
 ·obtain ⟨rfl, rfl⟩ := hk'
  refine ⟨_, seen P fr.fn es, ?_, fun e => mem_seen, rfl, rfl⟩
  simp [stepG, unwind, callDeferred, G, hm, hr', GStep.after, -Sem.runT_eq]
  cases fr; simp_all
 ·rintro g' H' ⟨rfl, rfl⟩
  have he : Frame.enter P f (args ++ cap) .deferred = fat { base f with kind := .deferred } { tmps := (args ++ cap) ++ Array.replicate (fn.ntmps - (args ++ cap).size) undef, defers := [] } [.code c] := by
   simp [Frame.enter, fat, hf, hb, base]; rfl
  rw [he]
  have hret : ∀ (a' : Act) (H' : Hp) (k' : List Item), a'.defers = [] -> wpS P (results fn a'.tmps) H' (fun _ H' => R .returning H') (fun _ _ => False) -> WPG P main Stop (G { fat { base f with kind := .deferred } a' k' with mode := .returning } (fr :: cs)) H' := fun a' H' k' hd hq => by
   refine WPG.tree rfl hq (fun g' H' => g' = G fr cs /\ R .returning H') (fun w w' H' es v hr' hm' hk' => ?_) (fun _ _ _ _ _ _ _ he => he.elim) ?_
   ·refine ⟨_, seen P f es, ?_, fun e => mem_seen, rfl, hk'⟩
    simp [stepG, unwind, doReturn, fat, G, base, hd, hf, hr', hm, GStep.after, -Sem.runT_eq]
   ·rintro g' H' ⟨rfl, hq⟩
    have := hR _ _ hq
    rwa [<- hm] at this
  refine h { base f with kind := .deferred } [] (fr :: cs) Stop (by simp [base]) rfl fun e a' H' q => ?_
  cases e with
  | normal => exact .ctl (g' := G { fat { base f with kind := .deferred } a' [] with mode := .returning } (fr :: cs)) rfl (fun w => by simp [G, stepG, stepG.exec, fat, base]; rfl) (hret a' H' _ q.1 q.2)
  | ret => exact fun k' => .ctl (g' := G { fat { base f with kind := .deferred } a' (.code .ret :: k') with mode := .returning } (fr :: cs)) rfl (fun w => by simp [G, stepG, stepG.exec, fat, base]; rfl) (hret a' H' _ q.1 q.2)
  | panic ch => exact q.elim
  | exit id => exact q.elim
  | goto l => exact q.elim
  | outgrown => exact q.elim
end
end Go.X
end
section
namespace Go.X
open Go
theorem cells_nilFunc : Value.nilFunc.cells = #[.nilFunc] := rfl
theorem cells_func (f : Fn) (a b : Array Value) : (Value.func f a b).cells = #[.func f a b] := rfl
def CallV (P : Program) (main : Md) (v : Value) (args : Array Value) (H : Hp) (R : Ending -> Hp -> Prop) : Prop :=
 ∀ (K : Next -> Hp -> Prop) (E : Value -> Hp -> Prop), (∀ f ar H', Runs P main (Frame.enter P f ar .normal) H' R -> K (.enter f ar) H') ->
  (∀ l f tmps ar body H', Runs P main (Frame.round l f tmps ar body .normal) H' R -> K (.round l f tmps ar body) H') -> callK P v args H K E
theorem CallV.mono {P : Program} {main : Md} {v : Value} {args : Array Value} {H : Hp} {R R' : Ending -> Hp -> Prop} (h : CallV P main v args H R) (hr : ∀ e H', R e H' -> R' e H') : CallV P main v args H R' :=
 fun K E h1 h2 => h K E (fun f ar H' x => h1 f ar H' (x.mono hr)) fun l f tmps ar body H' x => h2 l f tmps ar body H' (x.mono hr)
theorem CallV.use {P : Program} {main : Md} {lp : Option Nat} {v : Value} {args : Array Value} {H : Hp} {R : Ending -> Hp -> Prop} {o : Oper} {a : Act} {next : Act -> Hp -> Prop} {Q : Exit -> Act -> Hp -> Prop} {E : Value -> Hp -> Prop}
  (h : CallV P main v args H R) (hk : ∀ e H', R e H' -> onEnd next Q o.dst a e H') : callK P v args H (uponX P main lp o a next Q) E := by
 refine h _ _ (fun f ar H' hr => ?_) (fun l f tmps ar body H' hr => ?_)
 ·rw [uponX_enterK]
  exact hr.mono hk
 ·have hx : uponX P main lp o a next Q (.round l f tmps ar body) H' = Runs P main (Frame.round l f tmps ar body .normal) H' (onEnd next Q o.dst a) := by
   unfold uponX
   congr 1
  rw [hx]
  exact hr.mono hk
def deferK (P : Program) (v : Value) (args : Array Value) (H : Hp) (K : Next -> Hp -> Prop) (E : Value -> Hp -> Prop) : Prop := wpS P (Deferred.ofValue v args) H (fun x H' => K (.defer x) H') E
theorem ex_deferV {P : Program} {H : Hp} (a : Act) (d : Option Tmp) (ty : TypeId) (pos : String) (af : Array Edge) (g : Option (Nat × Bool)) (K : Next -> Hp -> Prop) (E : Value -> Hp -> Prop) {t : Tmp} {args : Array Operand} {ats : Array TypeId} :
 wpS P (execOp a.eval ⟨d, .defer ⟨.value (.tmp t), args, ats⟩, ty, pos, af, g⟩) H K E = deferK P (a.eval (.tmp t)) (args.map a.eval) H K E := ex_defer _ _ _ _ _ _ _ _ _
theorem deferK_func {P : Program} {H : Hp} (f : FuncId) (cap args : Array Value) (K : Next -> Hp -> Prop) (E : Value -> Hp -> Prop) : deferK P (.func (.func f) #[] cap) args H K E = K (.defer { target := .fn (.func f) cap, args := args }) H := by
 simp [deferK, Deferred.ofValue, wpS_pure]
@[congr] theorem deferK_congr {P : Program} {c c' : Value} {args args' : Array Value} {K : Next -> Hp -> Prop} {E : Value -> Hp -> Prop} {H H' : Hp} (hc : c = c') (ha : args = args') (hH : H = H') : deferK P c args H K E = deferK P c' args' H' K E := by subst hc ha hH; rfl
theorem uponX_deferK {P : Program} {main : Md} {o : Oper} {n : Nat} {e : Nat -> Value} {ds : List Deferred} {H : Hp} {K : Act -> Hp -> Prop} {Q : Exit -> Act -> Hp -> Prop} (d : Deferred) : uponX P main none o (act n e ds) K Q (.defer d) H = K ((act n e (d :: ds)).put o.dst undef) H := by
 simp [uponX]; rfl
structure ClientS (P : Program) (main : Md) (y : Value) (arg : Hp -> Value -> List Int -> Prop) (A : List Int -> Prop) (T : (Nat -> Prop) -> Bool -> List (List Int) -> Hp -> Prop) : Prop where
 keep : ∀ S t L H H', T S t L H -> (∀ b x, S b -> H b = some x -> H' b = some x) -> T S t L H'
 ex : ∀ S t L H b, T S t L H -> S b -> H b ≠ none
 call : ∀ S L H v l, T S true L H -> arg H v l -> A l -> CallV P main y #[v] H fun e H' => ∃ t S', e = .returned (.bool t) /\ T S' t (L ++ [l]) H' /\ (∀ b, S' b -> S b ∨ H b = none) /\ ∀ b x, ¬ S b -> H b = some x -> H' b = some x
end Go.X
namespace Go.Proofs.YtofmadjgbcopdaaGreatDoor
open Go Go.X
def y139_47 := And.intro (fun H => ex_alloc (H := H) (P := Tryz.prog) (h := Tryz.zeroValue22)) (And.intro (fun H => ex_alloc (H := H) (P := Tryz.prog) (h := Tryz.zeroValue114)) (And.intro (fun H => ex_alloc (H := H) (P := Tryz.prog) (h := Tryz.zeroValue198)) (And.intro (fun H => storeAt_func (H := H) Tryz.sizeOf198) (And.intro (fun H => storeAt_nilFunc (H := H) Tryz.sizeOf198) (And.intro (fun H => storeAt_func (H := H) Tryz.sizeOf114) (And.intro (fun H => storeAt_nilFunc (H := H) Tryz.sizeOf114) (And.intro (fun H => loadAt_one (H := H) Tryz.underlying114 rfl) (And.intro (fun H => loadAt_one (H := H) Tryz.underlying81 rfl) (And.intro (fun H => fieldAt_eq (H := H) Tryz.underlying85 (i := 1) rfl (off := 12) rfl Tryz.sizeOf22) (And.intro (fun H => loadAt_one (H := H) Tryz.underlying22 rfl) (fun H => len_slice (H := H) Tryz.underlying22)))))))))))
def y140_47 := And.intro (fun H => loadAt_one (H := H) Tryz.underlying22 rfl) (And.intro @lit_22_1_0_0 (And.intro (fun H => storeAt_slice (H := H) Tryz.sizeOf22) (fun H => loadAt_one (H := H) Tryz.underlying114 rfl)))
def y141_47 := And.intro (fun H => loadAt_one (H := H) Tryz.underlying22 rfl) (And.intro (fun H => len_slice (H := H) Tryz.underlying22) (And.intro (fun H => slice_hi (H := H) Tryz.underlying22 Tryz.sizeOf3) (And.intro (fun H => slice_lo (H := H) Tryz.underlying22 Tryz.sizeOf3) (And.intro (fun H => slice_lohi (H := H) Tryz.underlying22 Tryz.sizeOf3) (fun H => storeAt_slice (H := H) Tryz.sizeOf22)))))
def y142_47 := And.intro (fun H => loadAt_one (H := H) Tryz.underlying56 rfl) (And.intro (fun H => loadAt_one (H := H) Tryz.underlying22 rfl) (And.intro (fun H => loadAt_one (H := H) Tryz.underlying81 rfl) (And.intro (fun H => fieldAt_eq (H := H) Tryz.underlying85 (i := 0) rfl (off := 0) rfl Tryz.sizeOf29) (And.intro (fun H => fieldAt_eq (H := H) Tryz.underlying29 (i := 5) rfl (off := 8) rfl Tryz.sizeOf3) (And.intro (fun H => loadAt_one (H := H) Tryz.underlying3 rfl) (And.intro @min_int (fun H => loadAt_one (H := H) Tryz.underlying198 rfl)))))))
def OwnR (e : TypeId) (H : Hp) (v : Value) (cs : List Value) : Prop :=
 (v = .slice none 0 0 /\ cs = []) ∨
 ∃ (b : Nat) (c : Array Value) (cap : Nat), H b = some (true, .cells c e (0, 0)) /\ v = .slice (some ⟨b, 0, none⟩) cs.length cap /\ c.size = cap /\ cs.length <= cap /\ ∀ (i : Nat) (u : Value), cs[i]? = some u -> c[i]? = some u
theorem OwnR.row {H : Hp} {v : Value} {e : TypeId} {cs : List Value} (h : OwnR e H v cs) : RowX none (fun x => if rowB v = some x then none else H x) H v e cs := by
 refine ⟨fun x u hx => ⟨u, ?_, fun _ => rfl⟩, ?_⟩
 ·by_cases hb : rowB v = some x
  ·simp only [hb, if_true] at hx; cases hx
  ·simpa only [hb, if_false] using hx
 ·rcases h with h | ⟨b, c, cap, h1, h2, h3, h4, h5⟩
  ·exact .inl h
  ·exact .inr ⟨b, c, cap, by rw [h2]; simp [rowB], h1, h2, h3, h4, h5⟩
theorem ownR_of {t : Option Nat} {H₀ H : Hp} {v : Value} {e : TypeId} {cs : List Value} (h : RowX t H₀ H v e cs) : OwnR e H v cs := by
 rcases h.2 with h | ⟨b, c, cap, _, h1, h2, h3, h4, h5⟩
 ·exact .inl h
 ·exact .inr ⟨b, c, cap, h1, h2, h3, h4, h5⟩
theorem OwnR.ints {H : Hp} {v : Value} {xs : List Int} (h : OwnR 3 H v (ints xs)) : SlI H v xs := h.row.ints
theorem OwnR.move {H H' : Hp} {v : Value} {e : TypeId} {cs : List Value} (h : OwnR e H v cs) (hk : ∀ b x, rowB v = some b -> H b = some x -> H' b = some x) : OwnR e H' v cs := by
 rcases h with h | ⟨b, c, cap, h1, h2, h3, h4, h5⟩
 ·exact .inl h
 ·exact .inr ⟨b, c, cap, hk b _ (by rw [h2]; rfl) h1, h2, h3, h4, h5⟩
theorem OwnR.cut {H : Hp} {v : Value} {e : TypeId} {cs : List Value} {u : Value} (h : OwnR e H v (cs ++ [u])) : ∃ b cap, v = .slice (some ⟨b, 0, none⟩) (cs.length + 1) cap /\ cs.length + 1 <= cap /\ OwnR e H (.slice (some ⟨b, 0, none⟩) cs.length cap) cs := by
 rcases h with ⟨_, h⟩ | ⟨b, c, cap, h1, h2, h3, h4, h5⟩
 ·simp at h
 ·simp only [List.length_append, List.length_cons, List.length_nil] at h2 h4
  refine ⟨b, cap, h2, by omega, .inr ⟨b, c, cap, h1, rfl, h3, by omega, fun i u hi => h5 i u ?_⟩⟩
  rw [List.getElem?_append_left (List.getElem?_eq_some_iff.1 hi).1]
  exact hi
theorem OwnR.at {H : Hp} {v : Value} {e : TypeId} {cs : List Value} (h : OwnR e H v cs) {b : Nat} (hb : rowB v = some b) : ∃ c, H b = some (true, .cells c e (0, 0)) := by
 rcases h with ⟨rfl, _⟩ | ⟨b', c, cap, h1, rfl, h3, h4, h5⟩
 ·cases hb
 ·cases hb
  exact ⟨c, h1⟩
def comps (m : Nat) : Nat -> List (List Int)
 | 0 => [[]]
 | n + 1 => (List.range (min (n + 1) m)).flatMap fun i => (comps m (n - i)).map fun l => (i + 1 : Int) :: l
decreasing_by omega
theorem comps_pos (m n : Nat) (h : 0 < n) : comps m n = (List.range (min n m)).flatMap fun i => (comps m (n - (i + 1))).map fun l => (i + 1 : Int) :: l := by
 obtain ⟨k, rfl⟩ : ∃ k, n = k + 1 := ⟨n - 1, by omega⟩
 rw [comps]
 congr 1
 funext i
 rw [show k + 1 - (i + 1) = k - i by omega]
structure Plans (S : Nat -> Prop) (T : (Nat -> Prop) -> Bool -> List (List Int) -> Hp -> Prop) (y : Value) (yb tb gb ob thisb : Nat) (t : Bool) (L : List (List Int)) (p : List Int) (H : Hp) : Prop where
 cl : T S t L H
 vy : H yb = some (true, .cells #[y] 56 (0, 0))
 vg : H gb = some (true, .cells #[.func (.func 142) #[] #[.pointer (some ⟨yb, 0, none⟩), .pointer (some ⟨tb, 0, none⟩), .pointer (some ⟨thisb, 0, none⟩), .pointer (some ⟨ob, 0, none⟩)]] 114 (0, 0))
 vo : H ob = some (true, .cells #[.func (.func 140) #[] #[.pointer (some ⟨tb, 0, none⟩), .pointer (some ⟨gb, 0, none⟩)]] 198 (0, 0))
 vt : ∃ v, H tb = some (true, .cells #[v] 22 (0, 0)) /\ OwnR 3 H v (ints p) /\ ∀ b, rowB v = some b -> ¬ S b
 ny : ¬ S yb
 ng : ¬ S gb
 no : ¬ S ob
 nt : ¬ S tb
theorem Plans.put {P : Program} {main : Md} {S : Nat -> Prop} {A : List Int -> Prop} {arg : Hp -> Value -> List Int -> Prop} {T : (Nat -> Prop) -> Bool -> List (List Int) -> Hp -> Prop} {y : Value} {yb tb gb ob thisb : Nat} (hC : ClientS P main y arg A T) {H0 H : Hp} {t : Bool} {L : List (List Int)} {p p0 : List Int} {v : Value}
  (hP : Plans S T y yb tb gb ob thisb t L p0 H0) (hk : ∀ b x, H0 b = some x -> (S b ∨ ∀ c, x ≠ (true, .cells c 3 (0, 0))) -> H b = some x) (hv : OwnR 3 H v (ints p)) (hS : ∀ b, rowB v = some b -> ¬ S b) : Plans S T y yb tb gb ob thisb t L p (H.set tb (.cells #[v] 22 (0, 0))) := by
 obtain ⟨v0, vt, _⟩ := hP.vt
 have vt1 := hk _ _ vt (.inr fun c e => by cases e)
 have vy := hk _ _ hP.vy (.inr fun c e => by cases e)
 have vg := hk _ _ hP.vg (.inr fun c e => by cases e)
 have vo := hk _ _ hP.vo (.inr fun c e => by cases e)
 refine ⟨?_, ?_, ?_, ?_, ⟨v, set_at, hv.move fun b x hb hx => ?_, hS⟩, hP.ny, hP.ng, hP.no, hP.nt⟩
 ·refine hC.keep _ _ _ H0 _ hP.cl fun b x hb hx => ?_
  rw [set_ne (fun e : b = tb => hP.nt (by rw [<- e]; exact hb))]
  exact hk b x hx (.inl hb)
 ·rw [set_ne (fun e => by rw [e, vt1] at vy; cases vy)]; exact vy
 ·rw [set_ne (fun e => by rw [e, vt1] at vg; cases vg)]; exact vg
 ·rw [set_ne (fun e => by rw [e, vt1] at vo; cases vo)]; exact vo
 ·obtain ⟨c, hc⟩ := hv.at hb
  rw [set_ne (fun e => by rw [e, vt1] at hc; cases hc)]
  exact hx
theorem off_spec (main : Md) (H : Hp) (tb : Nat) (v : Value) (xs : List Int) (x : Int) (hv : H tb = some (true, .cells #[v] 22 (0, 0))) (ho : OwnR 3 H v (ints (xs ++ [x]))) (hl : xs.length <= 1000000) (R : FrameMode -> Hp -> Prop)
  (h : ∀ v', OwnR 3 H v' (ints xs) -> rowB v' = rowB v -> R .returning (H.set tb (.cells #[v'] 22 (0, 0)))) :
  DefX Tryz.prog main .returning { target := .fn (.func 141) #[.pointer (some ⟨tb, 0, none⟩)], args := #[] } H R := by
 rw [ints_app] at ho
 obtain ⟨b, cap, hv', hc, ho'⟩ := OwnR.cut (u := .int .i64 x) ho
 rw [ints_len] at hv' hc ho'
 subst hv'
 refine DefX_call Tryz.func141 rfl (fun _ _ => callF141 _) ?_
 rw [Tryz.ntmps141]
 rw [show ((#[] : Array Value) ++ #[.pointer (some ⟨tb, 0, none⟩)]) = [Value.pointer (some ⟨tb, 0, none⟩)].toArray from rfl, enter_act (by simp)]
 have hR := h _ ho' rfl
 (refine @unH _ ?_; refine zA y141_47 ?_; (repeat (refine inC ?_; intro hc)); try (refine inK ?_; intro K hK))
 refine ⟨rfl, ?_⟩
 rw [results_zero Tryz.results141, show ((xs.length + 1 : Nat) - 1 : Int).toNat = xs.length by omega]
 exact hR
theorem take_spec (main : Md) {S : Nat -> Prop} {A : List Int -> Prop} {T : (Nat -> Prop) -> Bool -> List (List Int) -> Hp -> Prop} {y : Value} {yb tb gb ob thisb : Nat} (hC : ClientS Tryz.prog main y (fun H v xs => SlI H v xs) A T)
  (n left : Nat) (hn : n <= left) (hl : left <= 1000) (p : List Int) (hp : p.length <= 1000) (L : List (List Int)) (X : List (List Int)) (H : Hp) (hP : Plans S T y yb tb gb ob thisb true L p H)
  (ih : ∀ H', Plans S T y yb tb gb ob thisb true L (p ++ [(n : Int)]) H' -> FnX Tryz.prog main 142 #[.int .i64 (left - n : Nat), .pointer (some ⟨yb, 0, none⟩), .pointer (some ⟨tb, 0, none⟩), .pointer (some ⟨thisb, 0, none⟩), .pointer (some ⟨ob, 0, none⟩)] H' fun e H'' => ∃ t L' S', e = .returned (.bool t) /\ Plans S' T y yb tb gb ob thisb t L' (p ++ [(n : Int)]) H'' /\ (t = true -> L' = L ++ X) /\ L' <+: L ++ X) :
  FnX Tryz.prog main 140 #[.int .i64 n, .int .i64 left, .pointer (some ⟨tb, 0, none⟩), .pointer (some ⟨gb, 0, none⟩)] H fun e H' => ∃ t L' S', e = .returned (.bool t) /\ Plans S' T y yb tb gb ob thisb t L' p H' /\ (t = true -> L' = L ++ X) /\ L' <+: L ++ X := by
 obtain ⟨v, vt, hv, hvS⟩ := hP.vt
 have vy := hP.vy
 have vg := hP.vg
 have vo := hP.vo
 obtain ⟨va, vc, rfl⟩ := hv.row.len
 have hpl : (ints p).length <= 1000000 := by rw [ints_len]; omega
 refine FnX_start Tryz.func140 rfl Tryz.ntmps140 (by simp) ?_
 (refine @unH _ ?_; refine zA (And.intro y140_47 (And.intro @ex_deferV (And.intro @deferK_func @uponX_deferK))) ?_; (repeat (refine inC ?_; intro hc)); try (refine inK ?_; intro K hK))
 intro g hg
 have ngt : tb ≠ g := ne_new vt hg
 ((try (refine @unH _ ?_; refine zX (And.intro y140_47 (And.intro @ex_deferV (And.intro @deferK_func @uponX_deferK))) ?_)); (try (refine hK _ _ ?_; clear hK K; (try simp only [nq, ↓reduceIte, Nat.reduceEqDiff]))); refine @unH _ ?_; refine zA (And.intro y140_47 (And.intro @ex_deferV (And.intro @deferK_func @uponX_deferK))) ?_; (repeat (refine inC ?_; intro hc)); try (refine inK ?_; intro K hK))
 refine append_row2 Tryz.underlying22 Tryz.sizeOf3 Tryz.zeroValue3 rfl Tryz.typeInfo3 (by decide) (by decide) hv.row hg rfl hpl _ _ _ _ (fun v2 H2 hv2 hkeep hnew => ?_)
 have hk2 : ∀ b x, H b = some x -> (S b ∨ ∀ c, x ≠ (true, .cells c 3 (0, 0))) -> H2 b = some x := fun b x hx h => hkeep b x hx fun e => by
  rcases h with h | h
  ·exact hvS b e h
  ·obtain ⟨c, hc⟩ := hv.at e
   rw [hx] at hc
   exact h c (Option.some.inj hc)
 have hown2 : OwnR 3 H2 v2 (ints (p ++ [(n : Int)])) := by rw [ints_app]; exact ownR_of hv2
 have hS2 : ∀ b, rowB v2 = some b -> ¬ S b := fun b hb hs => by
  rcases hnew b hb with h | h
  ·exact hvS b h hs
  ·exact hC.ex _ _ _ _ b hP.cl hs h
 have hP2 := Plans.put hC hP hk2 hown2 hS2
 have vt2 := hk2 _ _ vt (.inr fun c e => by cases e)
 obtain ⟨wa, wc, rfl⟩ := hv2.len
 have vg2 := hk2 _ _ vg (.inr fun c e => by cases e)
 have ngb : gb ≠ tb := fun e => by rw [e, vt2] at vg2; cases vg2
 clear hv2 hkeep hnew hown2 hS2 hk2 hP vt vy vg vo hv hvS
 generalize (ints p ++ [Value.int .i64 (n : Int)]).length = n2 at *
 have hr := ih _ hP2
 rw [Int.ofNat_sub hn] at hr
 ((try (refine @unH _ ?_; refine zX (And.intro y140_47 (And.intro @ex_deferV (And.intro @deferK_func @uponX_deferK))) ?_)); (try (refine hK _ _ ?_; clear hK K; (try simp only [nq, ↓reduceIte, Nat.reduceEqDiff]))); refine @unH _ ?_; refine zA (And.intro y140_47 (And.intro @ex_deferV (And.intro @deferK_func @uponX_deferK))) ?_; (repeat (refine inC ?_; intro hc)); try (refine inK ?_; intro K hK))
 rw [callF142, uponX_enterK]
 simp only [Array.empty_append, List.append_toArray, List.cons_append, List.nil_append]
 refine hr.runs.mono ?_
 rintro _ H4 ⟨t, L', S', rfl, hP4, hL⟩
 clear hr ih vg2 vt2 hP2 ngt hg
 ((try (refine @unH _ ?_; refine zX (And.intro y140_47 (And.intro @ex_deferV (And.intro @deferK_func @uponX_deferK))) ?_)); (try (refine hK _ _ ?_; clear hK K; (try simp only [nq, ↓reduceIte, Nat.reduceEqDiff]))); refine @unH _ ?_; refine zA (And.intro y140_47 (And.intro @ex_deferV (And.intro @deferK_func @uponX_deferK))) ?_; (repeat (refine inC ?_; intro hc)); try (refine inK ?_; intro K hK))
 refine wpX_ret ?_
 (try simp only [nq, ↓reduceIte, Nat.reduceEqDiff])
 obtain ⟨v4, vt4, hv4, hS4⟩ := hP4.vt
 refine off_spec main H4 tb v4 p n vt4 hv4 (by omega) _ fun v5 hv5 hb5 => ?_
 show wpS _ (results _ _) _ _ _
 rw [results_one Tryz.results140 (by decide)]
 refine ⟨t, L', S', rfl, ?_, hL⟩
 exact Plans.put hC hP4 (fun b x hx _ => hx) hv5 fun b hb => hS4 b (by rw [<- hb5]; exact hb)
def begun (m left : Nat) (p : List Int) (i : Nat) : List (List Int) := ((List.range i).flatMap fun j => (comps m (left - (j + 1))).map fun l => (j + 1 : Int) :: l).map (p ++ ·)
theorem begun_succ (m left : Nat) (p : List Int) (i : Nat) : begun m left p (i + 1) = begun m left p i ++ (comps m (left - (i + 1))).map ((p ++ [((i + 1 : Nat) : Int)]) ++ ·) := by
 simp [begun, List.range_succ, List.flatMap_append, List.map_map, Function.comp_def]
theorem begun_mono (m left : Nat) (p : List Int) {i j : Nat} (h : i <= j) : begun m left p i <+: begun m left p j := by
 obtain ⟨k, rfl⟩ := Nat.exists_eq_add_of_le h
 clear h
 induction k with
 | zero => exact List.prefix_refl _
 | succ k ih => rw [<- Nat.add_assoc, begun_succ]; exact ih.trans (List.prefix_append _ _)
theorem begun_all (m left : Nat) (p : List Int) (h : 0 < left) : begun m left p (min left m) = (comps m left).map (p ++ ·) := by
 rw [comps_pos m left h, begun]
theorem comps_mem (m left i : Nat) (h : i < min left m) {l : List Int} (hl : l ∈ comps m (left - (i + 1))) : ((i + 1 : Nat) : Int) :: l ∈ comps m left := by
 rw [comps_pos m left (by omega), List.mem_flatMap]
 exact ⟨i, List.mem_range.2 h, List.mem_map.2 ⟨l, hl, by simp⟩⟩
theorem grow_spec (main : Md) {A : List Int -> Prop} {T : (Nat -> Prop) -> Bool -> List (List Int) -> Hp -> Prop} {yf : Fn} {yi yc : Array Value} {yb tb gb ob thisb : Nat} (m : Nat) (hm : m <= 1000) (hC : ClientS Tryz.prog main (.func yf yi yc) (fun H v xs => SlI H v xs) A T)
  (hthis : ∀ S L H, T S true L H -> ∃ hb n v jv, H thisb = some (true, .cells #[.pointer (some ⟨hb, 0, none⟩)] 81 (0, 0)) /\ H hb = some (true, HN.obj n v jv) /\ n.load = m) (left : Nat) :
  ∀ (hl : left <= 1000) (p : List Int) (hp : p.length + left <= 1000) (L : List (List Int)) (S : Nat -> Prop) (H : Hp) (hP : Plans S T (.func yf yi yc) yb tb gb ob thisb true L p H) (hA : ∀ l ∈ comps m left, A (p ++ l)),
  FnX Tryz.prog main 142 #[.int .i64 left, .pointer (some ⟨yb, 0, none⟩), .pointer (some ⟨tb, 0, none⟩), .pointer (some ⟨thisb, 0, none⟩), .pointer (some ⟨ob, 0, none⟩)] H fun e H' => ∃ t L' S', e = .returned (.bool t) /\ Plans S' T (.func yf yi yc) yb tb gb ob thisb t L' p H' /\ (t = true -> L' = L ++ (comps m left).map (p ++ ·)) /\ L' <+: L ++ (comps m left).map (p ++ ·) := by
 induction left using Nat.strongRecOn with
 | _ left ih =>
 intro hl p hp L S H hP hA
 obtain ⟨v, vt, hv, hvS⟩ := hP.vt
 have vy := hP.vy
 have vo := hP.vo
 obtain ⟨hb, n, hv', jv, vth, vhb, hload⟩ := hthis _ _ _ hP.cl
 simp only [HN.obj] at vhb
 obtain ⟨va, vc, rfl⟩ := hv.row.len
 by_cases h0 : left = 0
 ·subst h0
  refine FnX_start Tryz.func142 rfl Tryz.ntmps142 (by simp) ?_
  (refine @unH _ ?_; refine zA y142_47 ?_; (repeat (refine inC ?_; intro hc)); try (refine inK ?_; intro K hK))
  ·have hcall := hC.call S L H _ p hP.cl hv.ints (by simpa [comps] using hA)
   refine CallV.use hcall ?_
   clear hcall
   rintro _ H2 ⟨t, S', rfl, hT, hS', hk⟩
   have hne : ∀ b x, ¬ S b -> H b = some x -> ¬ S' b := fun b x h1 h2 h3 => (hS' b h3).elim h1 fun h4 => by rw [h2] at h4; cases h4
   have hP2 : Plans S' T (.func yf yi yc) yb tb gb ob thisb t (L ++ [p]) p H2 := ⟨hT, hk _ _ hP.ny vy, hk _ _ hP.ng hP.vg, hk _ _ hP.no vo, ⟨_, hk _ _ hP.nt vt, hv.move fun b x hb hx => hk _ _ (hvS b hb) hx, fun b hb => by obtain ⟨c, hc⟩ := hv.at hb; exact hne b _ (hvS b hb) hc⟩, hne _ _ hP.ny vy, hne _ _ hP.ng hP.vg, hne _ _ hP.no vo, hne _ _ hP.nt vt⟩
   clear vy vo vt vth vhb hk hv hne hS'
   ((try (refine @unH _ ?_; refine zX y142_47 ?_)); (try (refine hK _ _ ?_; clear hK K; (try simp only [nq, ↓reduceIte, Nat.reduceEqDiff]))); refine @unH _ ?_; refine zA y142_47 ?_; (repeat (refine inC ?_; intro hc)); try (refine inK ?_; intro K hK))
   (refine @unH _ ?_; refine z9 Tryz.results142 ?_)
   exact ⟨t, _, S', rfl, hP2, fun _ => by simp [comps], by simp [comps]⟩
 ·refine FnX_start Tryz.func142 rfl Tryz.ntmps142 (by simp) ?_
  (refine @unH _ ?_; refine zA y142_47 ?_; (repeat (refine inC ?_; intro hc)); try (refine inK ?_; intro K hK))
  have hmin : (if (m : Int) < (left : Int) then (m : Int) else (left : Int)) = (min left m : Nat) := by split <;> omega
  rw [hmin]
  clear hmin vy vo vt vth vhb hload hv hvS
  refine wpX_loop (fun w a' H' => ∃ e i S, w = min left m - i /\ i <= min left m /\ a' = act 30 e [] /\ e 0 = .int .i64 left /\ e 4 = .pointer (some ⟨ob, 0, none⟩) /\ e 19 = .int .i64 (min left m : Nat) /\ e 20 = .int .i64 (i : Nat) /\ Plans S T (.func yf yi yc) yb tb gb ob thisb true (L ++ begun m left p i) p H') (n := min left m) ?_ ?_
  ·exact ⟨_, 0, S, by omega, by omega, rfl, rfl, rfl, rfl, rfl, by simpa [begun] using hP⟩
  ·clear hP
   rintro w a' H2 ⟨e, i, S, rfl, hi, rfl, e0, e4, e19, e20, hP2⟩
   have vo := hP2.vo
   have hmm : min left m <= left := by omega
   have hmin := begun_all m left p (by omega)
   have hmem := fun l => comps_mem m left i (l := l)
   generalize min left m = k at *
   by_cases hlt : i < k
   ·have ht := take_spec main hC (i + 1) left (by omega) hl p (by omega) (L ++ begun m left p i) ((comps m (left - (i + 1))).map ((p ++ [((i + 1 : Nat) : Int)]) ++ ·)) H2 hP2 (fun H3 hP3 => ih (left - (i + 1)) (by omega) (by omega) _ (by simp; omega) _ S H3 hP3 (fun l hl => by
      rw [List.append_assoc]
      exact hA _ (hmem l hlt hl)))
    rw [List.append_assoc, <- begun_succ] at ht
    (refine @unH _ ?_; refine zA y142_47 ?_; (repeat (refine inC ?_; intro hc)); try (refine inK ?_; intro K hK))
    rw [callF140, uponX_enterK]
    simp only [Array.empty_append, List.append_toArray, List.cons_append, List.nil_append]
    rw [show (i : Int) + 1 = ((i + 1 : Nat) : Int) by omega]
    refine ht.runs.mono ?_
    clear ht ih hA hmem hthis vo hP2
    rintro _ H3 ⟨t, L', S', rfl, hP3, hL, hpre⟩
    have hpre2 : L' <+: L ++ (comps m left).map (p ++ ·) := by
     rw [<- hmin]
     exact hpre.trans ((List.prefix_append_right_inj _).2 (begun_mono m left p (show i + 1 <= k by omega)))
    clear hpre hmin
    cases t with
    | false =>
     clear hL
     ((try (refine @unH _ ?_; refine zX y142_47 ?_)); (try (refine hK _ _ ?_; clear hK K; (try simp only [nq, ↓reduceIte, Nat.reduceEqDiff]))); refine @unH _ ?_; refine zA y142_47 ?_; (repeat (refine inC ?_; intro hc)); try (refine inK ?_; intro K hK))
     (refine @unH _ ?_; refine z9 Tryz.results142 ?_)
     exact ⟨false, L', S', rfl, hP3, (fun h => by cases h), hpre2⟩
    | true =>
     replace hL := hL rfl
     subst hL
     ((try (refine @unH _ ?_; refine zX y142_47 ?_)); (try (refine hK _ _ ?_; clear hK K; (try simp only [nq, ↓reduceIte, Nat.reduceEqDiff]))); refine @unH _ ?_; refine zA y142_47 ?_; (repeat (refine inC ?_; intro hc)); try (refine inK ?_; intro K hK))
     exact ⟨_, by omega, _, i + 1, S', rfl, hlt, rfl, e0, e4, e19, rfl, hP3⟩
   ·obtain rfl : i = k := by omega
    (refine @unH _ ?_; refine zA y142_47 ?_; (repeat (refine inC ?_; intro hc)); try (refine inK ?_; intro K hK))
    (refine @unH _ ?_; refine z9 Tryz.results142 ?_)
    exact ⟨true, _, S, rfl, hP2, fun _ => by rw [hmin], by rw [hmin]; exact List.prefix_refl _⟩
theorem plansOfS_spec (main : Md) {S : Nat -> Prop} {A : List Int -> Prop} {T : (Nat -> Prop) -> Bool -> List (List Int) -> Hp -> Prop} {yf : Fn} {yi yc : Array Value} {thisb : Nat} (m N : Nat) (hm : m <= 1000) (hN : N <= 1000) (hC : ClientS Tryz.prog main (.func yf yi yc) (fun H v xs => SlI H v xs) A T)
  (hthis : ∀ S L H, T S true L H -> ∃ hb n v ja jc, H thisb = some (true, .cells #[.pointer (some ⟨hb, 0, none⟩)] 81 (0, 0)) /\ H hb = some (true, HN.obj n v (.slice ja N jc)) /\ n.load = m)
  (H : Hp) (hT : T S true [] H) (hA : ∀ l ∈ comps m N, A l) :
  FnX Tryz.prog main 139 #[.func yf yi yc, .pointer (some ⟨thisb, 0, none⟩)] H fun e H' => ∃ t L' v S', e = .returned v /\ T S' t L' H' /\ (t = true -> L' = comps m N) /\ L' <+: comps m N := by
 refine FnX_start Tryz.func139 rfl Tryz.ntmps139 (by simp) ?_
 (refine @unH _ ?_; refine zA (And.intro y139_47 (And.intro @cells_func @cells_nilFunc)) ?_; (repeat (refine inC ?_; intro hc)); try (refine inK ?_; intro K hK))
 (intro yb hyb; generalize hG : Hp.set _ yb _ = H1; have lH1 := le_of_set hG hyb; have vyb := at_of_set hG; clear hG)
 have ny : ¬ S yb := fun h => hC.ex _ _ _ _ _ hT h hyb
 replace hT := hC.keep _ _ _ _ _ hT fun b x _ hx => lH1 _ _ hx
 clear hyb lH1
 ((try (refine @unH _ ?_; refine zX (And.intro y139_47 (And.intro @cells_func @cells_nilFunc)) ?_)); (try (refine hK _ _ ?_; clear hK K; (try simp only [nq, ↓reduceIte, Nat.reduceEqDiff]))); refine @unH _ ?_; refine zA (And.intro y139_47 (And.intro @cells_func @cells_nilFunc)) ?_; (repeat (refine inC ?_; intro hc)); try (refine inK ?_; intro K hK))
 (intro tb htb; generalize hG : Hp.set _ tb _ = H2; have lH2 := le_of_set hG htb; have vtb := at_of_set hG; clear hG)
 have nt : ¬ S tb := fun h => hC.ex _ _ _ _ _ hT h htb
 have vyb2 := lH2 _ _ vyb
 replace hT := hC.keep _ _ _ _ _ hT fun b x _ hx => lH2 _ _ hx
 clear htb lH2 vyb
 ((try (refine @unH _ ?_; refine zX (And.intro y139_47 (And.intro @cells_func @cells_nilFunc)) ?_)); (try (refine hK _ _ ?_; clear hK K; (try simp only [nq, ↓reduceIte, Nat.reduceEqDiff]))); refine @unH _ ?_; refine zA (And.intro y139_47 (And.intro @cells_func @cells_nilFunc)) ?_; (repeat (refine inC ?_; intro hc)); try (refine inK ?_; intro K hK))
 (intro gb hgb; generalize hG : Hp.set _ gb _ = H3; have lH3 := le_of_set hG hgb; have vgb := at_of_set hG; clear hG)
 have ng : ¬ S gb := fun h => hC.ex _ _ _ _ _ hT h hgb
 have vyb3 := lH3 _ _ vyb2
 have vtb3 := lH3 _ _ vtb
 replace hT := hC.keep _ _ _ _ _ hT fun b x _ hx => lH3 _ _ hx
 clear hgb lH3 vyb2 vtb
 ((try (refine @unH _ ?_; refine zX (And.intro y139_47 (And.intro @cells_func @cells_nilFunc)) ?_)); (try (refine hK _ _ ?_; clear hK K; (try simp only [nq, ↓reduceIte, Nat.reduceEqDiff]))); refine @unH _ ?_; refine zA (And.intro y139_47 (And.intro @cells_func @cells_nilFunc)) ?_; (repeat (refine inC ?_; intro hc)); try (refine inK ?_; intro K hK))
 intro ob hob
 have no : ¬ S ob := fun h => hC.ex _ _ _ _ _ hT h hob
 have ngo : gb ≠ ob := ne_new vgb hob
 ((try (refine @unH _ ?_; refine zX (And.intro y139_47 (And.intro @cells_func @cells_nilFunc)) ?_)); (try (refine hK _ _ ?_; clear hK K; (try simp only [nq, ↓reduceIte, Nat.reduceEqDiff]))); refine @unH _ ?_; refine zA (And.intro y139_47 (And.intro @cells_func @cells_nilFunc)) ?_; (repeat (refine inC ?_; intro hc)); try (refine inK ?_; intro K hK))
 generalize hG : Hp.set H3 ob _ = H4
 have lH4 := le_of_set hG hob
 have vob := at_of_set hG
 clear hG
 have vyb4 := lH4 _ _ vyb3
 have vtb4 := lH4 _ _ vtb3
 have vgb4 := lH4 _ _ vgb
 replace hT := hC.keep _ _ _ _ _ hT fun b x _ hx => lH4 _ _ hx
 clear hob lH4 vyb3 vtb3 vgb
 ((try (refine @unH _ ?_; refine zX (And.intro y139_47 (And.intro @cells_func @cells_nilFunc)) ?_)); (try (refine hK _ _ ?_; clear hK K; (try simp only [nq, ↓reduceIte, Nat.reduceEqDiff]))); refine @unH _ ?_; refine zA (And.intro y139_47 (And.intro @cells_func @cells_nilFunc)) ?_; (repeat (refine inC ?_; intro hc)); try (refine inK ?_; intro K hK))
 have ngy : yb ≠ gb := fun e => by rw [e, vgb4] at vyb4; cases vyb4
 have ngt : tb ≠ gb := fun e => by rw [e, vgb4] at vtb4; cases vtb4
 generalize hG : Hp.set H4 gb _ = H5
 have hP : Plans S T (.func yf yi yc) yb tb gb ob thisb true [] [] H5 := by
  subst hG
  refine ⟨hC.keep _ _ _ _ _ hT fun b x hb hx => ?_, ?_, set_at, ?_, ⟨.slice none 0 0, ?_, .inl ⟨rfl, rfl⟩, fun b hb => by cases hb⟩, ny, ng, no, nt⟩
  ·rw [set_ne (fun e : b = gb => ng (by rw [<- e]; exact hb))]; exact hx
  ·rw [set_ne ngy]; exact vyb4
  ·rw [set_ne (fun e => ngo e.symm)]; exact vob
  ·rw [set_ne ngt]; exact vtb4
 clear hG vyb4 vtb4 vgb4 vob hT ngy ngt ngo
 obtain ⟨hb, n, v, ja, jc, vth, vhb, hload⟩ := hthis _ _ _ hP.cl
 simp only [HN.obj] at vhb
 have vgb := hP.vg
 have hg := grow_spec main m hm hC (fun S L H hT => by obtain ⟨hb, n, v, ja, jc, h⟩ := hthis S L H hT; exact ⟨hb, n, v, _, h⟩) N hN [] (by simpa using hN) [] S H5 hP (by simpa using hA)
 clear hload hP
 (refine wpX_dst1 6 [(true, 0), (true, 1), (true, 2), (true, 3), (true, 4), (true, 5), (false, 6)] (by kernel_rfl) (by kernel_rfl) (by simp) (by kernel_rfl) ?_; intro K hK; (iterate 6 (refine @unH _ ?_; refine z3 y139_47 ?_)); refine plan_tail ?_; (refine @unH _ ?_; refine zX y139_47 ?_); try (refine hK _ _ ?_; clear hK K; (try simp only [nq, ↓reduceIte, Nat.reduceEqDiff])))
 rw [callF142, uponX_enterK]
 simp only [Array.empty_append, List.append_toArray, List.cons_append, List.nil_append]
 refine hg.runs.mono ?_
 clear hg hA
 rintro _ H6 ⟨t, L', S', rfl, hP6, hL, hpre⟩
 ((try (refine @unH _ ?_; refine zX y139_47 ?_)); (try (refine hK _ _ ?_; clear hK K; (try simp only [nq, ↓reduceIte, Nat.reduceEqDiff]))); refine @unH _ ?_; refine zA y139_47 ?_; (repeat (refine inC ?_; intro hc)); try (refine inK ?_; intro K hK))
 (refine @unH _ ?_; refine zD Tryz.results139 ?_)
 exact ⟨t, L', _, S', rfl, hP6.cl, fun h => by simpa using hL h, by simpa using hpre⟩
theorem plans_spec (main : Md) (H : Hp) (hb : Nat) :
  FnX Tryz.prog main 99 #[.pointer (some ⟨hb, 0, none⟩)] H fun e H' => ∃ thisb, e = .returned (.func (.func 139) #[] #[.pointer (some ⟨thisb, 0, none⟩)]) /\ H' thisb = some (true, .cells #[.pointer (some ⟨hb, 0, none⟩)] 81 (0, 0)) /\ H.le H' := by
 refine FnX_start Tryz.func99 rfl Tryz.ntmps99 (by simp) ?_
 (refine @unH _ ?_; refine zA trivial ?_; (repeat (refine inC ?_; intro hc)); try (refine inK ?_; intro K hK))
 (intro thisb hthisb; generalize hG : Hp.set _ thisb _ = H1; have lH1 := le_of_set hG hthisb; have vthisb := at_of_set hG; clear hG)
 ((try (refine @unH _ ?_; refine zX trivial ?_)); (try (refine hK _ _ ?_; clear hK K; (try simp only [nq, ↓reduceIte, Nat.reduceEqDiff]))); refine @unH _ ?_; refine zA trivial ?_; (repeat (refine inC ?_; intro hc)); try (refine inK ?_; intro K hK))
 (refine @unH _ ?_; refine z9 Tryz.results99 ?_)
 exact ⟨thisb, rfl, vthisb, lH1⟩
end Go.Proofs.YtofmadjgbcopdaaGreatDoor
end
section
namespace Go.Proofs.YtofmadjgbcopdaaGreatDoor
open Go Go.X
def bs0 : List Int := List.replicate 4 (-1048576)
def nextB (n : HN) (bs : List Int) (r : RideV) : List Int := bs.set (pickB bs n.barrows.toNat) r.back
def ridesG (n : HN) (js : List Int) (mi : Int) : List Nat -> List Int -> Nat -> List RideV
 | [], _, _ => []
 | m :: pl, bs, f => rideF n js bs f m mi :: ridesG n js mi pl (nextB n bs (rideF n js bs f m mi)) (f + m)
def lateR (n : HN) (js : List Int) (r : RideV) (m f : Nat) : List Int := (List.range m).map fun j => max 0 (r.back - n.due js (f + j))
def lateG (n : HN) (js : List Int) (mi : Int) : List Nat -> List Int -> Nat -> List Int
 | [], _, _ => []
 | m :: pl, bs, f => lateR n js (rideF n js bs f m mi) m f ++ lateG n js mi pl (nextB n bs (rideF n js bs f m mi)) (f + m)
def fineB (n : HN) (js : List Int) (mi : Int) (pl : List Nat) : Bool := (lateG n js mi pl bs0 0).all (· == 0)
def lateD (n : HN) (js : List Int) (mi : Int) (pl : List Nat) : Nat -> List Int
 | 0 => []
 | k + 1 => lateD n js mi pl k ++ lateR n js (rideF n js (dS n js mi pl k).1 (dS n js mi pl k).2.1 (pl.getD k 0) mi) (pl.getD k 0) (dS n js mi pl k).2.1
theorem dS_succ (n : HN) (js : List Int) (mi : Int) (pl : List Nat) (k : Nat) : dS n js mi pl (k + 1) = (nextB n (dS n js mi pl k).1 (rideF n js (dS n js mi pl k).1 (dS n js mi pl k).2.1 (pl.getD k 0) mi), (dS n js mi pl k).2.1 + pl.getD k 0,
 (dS n js mi pl k).2.2 ++ [rideF n js (dS n js mi pl k).1 (dS n js mi pl k).2.1 (pl.getD k 0) mi]) := rfl
theorem drop_at' {pl : List Nat} {k : Nat} (h : k < pl.length) : pl.drop k = pl.getD k 0 :: pl.drop (k + 1) := by
 rw [List.drop_eq_getElem_cons h]
 simp [List.getD, List.getElem?_eq_getElem h]
theorem dS_rides (n : HN) (js : List Int) (mi : Int) (pl : List Nat) : ∀ k, k <= pl.length -> (dS n js mi pl k).2.2 ++ ridesG n js mi (pl.drop k) (dS n js mi pl k).1 (dS n js mi pl k).2.1 = ridesG n js mi pl bs0 0
 | 0, _ => rfl
 | k + 1, h => by
  rw [<- dS_rides n js mi pl k (by omega), dS_succ, drop_at' (show k < pl.length by omega), ridesG]
  simp
theorem lateD_G (n : HN) (js : List Int) (mi : Int) (pl : List Nat) : ∀ k, k <= pl.length -> lateD n js mi pl k ++ lateG n js mi (pl.drop k) (dS n js mi pl k).1 (dS n js mi pl k).2.1 = lateG n js mi pl bs0 0
 | 0, _ => rfl
 | k + 1, h => by
  rw [<- lateD_G n js mi pl k (by omega), dS_succ, lateD, drop_at' (show k < pl.length by omega), lateG]
  simp
theorem dS_all (n : HN) (js : List Int) (mi : Int) (pl : List Nat) : (dS n js mi pl pl.length).2.2 = ridesG n js mi pl bs0 0 := by
 have := dS_rides n js mi pl pl.length (Nat.le_refl _)
 simpa [ridesG] using this
theorem lateD_all (n : HN) (js : List Int) (mi : Int) (pl : List Nat) : lateD n js mi pl pl.length = lateG n js mi pl bs0 0 := by
 have := lateD_G n js mi pl pl.length (Nat.le_refl _)
 simpa [lateG] using this
theorem dS_get (n : HN) (js : List Int) (mi : Int) (pl : List Nat) : ∀ k i, i < k -> (dS n js mi pl k).2.2.length = k -> (∀ j, j < k -> (dS n js mi pl j).2.2.length = j) ->
  (dS n js mi pl k).2.2[i]? = some (rideF n js (dS n js mi pl i).1 (dS n js mi pl i).2.1 (pl.getD i 0) mi)
 | k + 1, i, h, hl, hlj => by
  rw [dS_succ]
  have hk := hlj k (by omega)
  by_cases hi : i = k
  ·subst hi
   rw [List.getElem?_append_right (by omega)]
   simp [hk]
  ·rw [List.getElem?_append_left (by omega)]
   exact dS_get n js mi pl k i (by omega) hk fun j hj => hlj j (by omega)
theorem lateG_length (n : HN) (js : List Int) (mi : Int) : ∀ (pl : List Nat) (bs : List Int) (f : Nat), (lateG n js mi pl bs f).length = pl.sum
 | [], _, _ => rfl
 | m :: pl, bs, f => by simp [lateG, lateR, lateG_length n js mi pl]
theorem lateD_length (n : HN) (js : List Int) (mi : Int) (pl : List Nat) : ∀ k, k <= pl.length -> (lateD n js mi pl k).length = (pl.take k).sum
 | 0, _ => rfl
 | k + 1, h => by
  rw [lateD, List.length_append, lateD_length n js mi pl k (by omega), List.take_add_one, List.getElem?_eq_getElem (show k < pl.length by omega), List.sum_append]
  simp [lateR, List.getD, List.getElem?_eq_getElem (show k < pl.length by omega)]
theorem lateD_mem (n : HN) (js : List Int) (mi : Int) (pl : List Nat) (x : Int) : ∀ k, x ∈ lateD n js mi pl k ↔ ∃ i, i < k /\ ∃ j, j < pl.getD i 0 /\ x = max 0 ((rideF n js (dS n js mi pl i).1 (dS n js mi pl i).2.1 (pl.getD i 0) mi).back - n.due js ((dS n js mi pl i).2.1 + j))
 | 0 => by simp [lateD]
 | k + 1 => by
  rw [lateD, List.mem_append, lateD_mem n js mi pl x k]
  constructor
  ·rintro (⟨i, h, h'⟩ | h)
   ·exact ⟨i, by omega, h'⟩
   ·rw [lateR, List.mem_map] at h
    obtain ⟨j, hj, rfl⟩ := h
    exact ⟨k, by omega, j, List.mem_range.1 hj, rfl⟩
  ·rintro ⟨i, h, j, hj, rfl⟩
   by_cases hi : i = k
   ·subst hi
    exact .inr (List.mem_map.2 ⟨j, List.mem_range.2 hj, rfl⟩)
   ·exact .inl ⟨i, by omega, j, hj, rfl⟩
theorem fineB_iff (n : HN) (js : List Int) (mi : Int) (pl : List Nat) (hl : ∀ k, k <= pl.length -> (dS n js mi pl k).2.1 = (pl.take k).sum /\ (dS n js mi pl k).2.2.length = k) : fineB n js mi pl = true ↔ fineP n js mi pl := by
 unfold fineB fineP
 rw [<- lateD_all, List.all_eq_true]
 constructor
 ·intro h i r hr j hj
  have hi : i < pl.length := by
   have := (List.getElem?_eq_some_iff.1 hr).1
   rw [(hl _ (Nat.le_refl _)).2] at this
   exact this
  rw [dS_get n js mi pl pl.length i hi (hl _ (Nat.le_refl _)).2 fun j hj => (hl j (by omega)).2] at hr
  cases hr
  have := h _ ((lateD_mem n js mi pl _ pl.length).2 ⟨i, hi, j, hj, rfl⟩)
  rw [(hl i (by omega)).1] at this ⊢
  simp only [beq_iff_eq] at this
  omega
 ·intro h x hx
  obtain ⟨i, hi, j, hj, rfl⟩ := (lateD_mem n js mi pl x pl.length).1 hx
  have := h i _ (dS_get n js mi pl pl.length i hi (hl _ (Nat.le_refl _)).2 fun j hj => (hl j (by omega)).2) j hj
  rw [(hl i (by omega)).1] at this ⊢
  simp only [beq_iff_eq]
  omega
def goodF (n : HN) (js : List Int) (mi : Int) (load : Nat) : Nat -> List Int -> Nat -> Bool
 | 0, _, _ => true
 | k + 1, bs, f => if js.length <= f then true else (List.range (min (js.length - f) load)).any fun i => decide ((rideF n js bs f (i + 1) mi).back - n.due js f <= 0) && goodF n js mi load k (nextB n bs (rideF n js bs f (i + 1) mi)) (f + (i + 1))
theorem dS_back (n : HN) (js : List Int) (mi : Int) (pl : List Nat) (hx : ∀ x ∈ n.xs, 0 <= x /\ x <= 99) (n0 : 0 <= n.notice) (b1 : 1 <= n.barrows) (b4 : n.barrows <= 4) (h1 : 1 <= mi) (h2 : mi <= 20) : ∀ k, k <= pl.length -> ∀ r ∈ (dS n js mi pl k).2.2, -1048576 <= r.back /\ r.back <= 100 + 20 * k
 | 0, _, r, hr => by simp [dS] at hr
 | k + 1, hk, r, hr => by
  have h3 := dS_ok n js mi pl hx n0 b1 b4 h1 h2 k (by omega)
  have h4 := dS_ok n js mi pl hx n0 b1 b4 h1 h2 (k + 1) hk
  have hpl := pickB_lt (dS n js mi pl k).1 n.barrows.toNat (by omega)
  rw [dS] at hr
  simp only [List.mem_append, List.mem_singleton] at hr
  rcases hr with hr | rfl
  ·have := dS_back n js mi pl hx n0 b1 b4 h1 h2 k (by omega) r hr
   omega
  ·refine h4.2.1 _ ?_
   rw [dS]
   exact List.mem_of_getElem? (i := pickB (dS n js mi pl k).1 n.barrows.toNat) (List.getElem?_set_self (by have := h3.1; omega))
theorem comps_parts (m : Nat) (N : Nat) : ∀ l ∈ comps m N, ∃ pl : List Nat, l = pl.map (fun x : Nat => (x : Int)) /\ (∀ x ∈ pl, 1 <= x) /\ pl.sum = N := by
 induction N using Nat.strongRecOn with
 | _ N ih =>
 intro l hl
 by_cases h0 : N = 0
 ·subst h0
  rw [comps, List.mem_singleton] at hl
  exact ⟨[], by simp [hl], by simp, rfl⟩
 ·rw [comps_pos m N (by omega), List.mem_flatMap] at hl
  obtain ⟨i, hi, hl⟩ := hl
  rw [List.mem_range] at hi
  rw [List.mem_map] at hl
  obtain ⟨l', hl', rfl⟩ := hl
  obtain ⟨pl, rfl, h1, h2⟩ := ih (N - (i + 1)) (by omega) l' hl'
  exact ⟨(i + 1) :: pl, by simp, by simpa using h1, by simp [h2]; omega⟩
theorem comps_parts_le (m : Nat) (N : Nat) : ∀ l ∈ comps m N, ∀ x ∈ l, x <= m := by
 induction N using Nat.strongRecOn with
 | _ N ih =>
 intro l hl
 by_cases h0 : N = 0
 ·subst h0
  rw [comps, List.mem_singleton] at hl
  simp [hl]
 ·rw [comps_pos m N (by omega), List.mem_flatMap] at hl
  obtain ⟨i, hi, hl⟩ := hl
  rw [List.mem_range] at hi
  rw [List.mem_map] at hl
  obtain ⟨l', hl', rfl⟩ := hl
  intro x hx
  rcases List.mem_cons.1 hx with rfl | hx
  ·omega
  ·exact ih (N - (i + 1)) (by omega) l' hl' x hx
theorem parts_len : ∀ (pl : List Nat), (∀ x ∈ pl, 1 <= x) -> pl.length <= pl.sum
 | [], _ => by simp
 | x :: pl, h => by
  have := parts_len pl (fun y hy => h y (by simp [hy]))
  have := h x (by simp)
  simp
  omega
def natsOf (xs : List Int) : List Nat := xs.map Int.toNat
theorem natsOf_map (pl : List Nat) : natsOf (pl.map (fun x : Nat => (x : Int))) = pl := by simp [natsOf, Function.comp_def]
def fineI (n : HN) (js : List Int) (mi : Int) (xs : List Int) : Bool := fineB n js mi (natsOf xs)
theorem fineI_map (n : HN) (js : List Int) (mi : Int) (pl : List Nat) : fineI n js mi (pl.map (fun x : Nat => (x : Int))) = fineB n js mi pl := by rw [fineI, natsOf_map]
def worst (l : List Int) : Int := l.foldl max 0
end Go.Proofs.YtofmadjgbcopdaaGreatDoor
end
section
namespace Go.Proofs.YtofmadjgbcopdaaGreatDoor
open Go Go.X
theorem pickB_min (bs : List Int) : ∀ B i, i < B -> bs.getD (pickB bs B) 0 <= bs.getD i 0
 | B + 1, i, h => by
  unfold pickB
  by_cases hB : B = 0
  ·subst hB
   rw [if_pos rfl]
   obtain rfl : i = 0 := by omega
   exact Int.le_refl _
  ·rw [if_neg hB]
   split
   ·rename_i h1
    by_cases hi : i = B
    ·subst hi; exact Int.le_refl _
    ·have := pickB_min bs B i (by omega)
     omega
   ·rename_i h1
    by_cases hi : i = B
    ·subst hi; omega
    ·exact pickB_min bs B i (by omega)
def cntB (bs : List Int) (B : Nat) (t : Int) : Nat := (List.range B).countP fun i => decide (bs.getD i 0 <= t)
theorem cntB_succ (bs : List Int) (B : Nat) (t : Int) : cntB bs (B + 1) t = cntB bs B t + (if bs.getD B 0 <= t then 1 else 0) := by
 simp [cntB, List.range_succ, List.countP_append, List.countP_cons]
theorem cntB_set (bs : List Int) (p : Nat) (v t : Int) (hp : p < bs.length) : ∀ B, cntB (bs.set p v) B t + (if p < B /\ bs.getD p 0 <= t then 1 else 0) = cntB bs B t + (if p < B /\ v <= t then 1 else 0)
 | 0 => by simp [cntB]
 | B + 1 => by
  rw [cntB_succ, cntB_succ]
  have ih := cntB_set bs p v t hp B
  by_cases hpB : p = B
  ·subst hpB
   have e : (bs.set p v).getD p 0 = v := by simp [List.getD, hp]
   rw [e]
   simp only [Nat.lt_irrefl, false_and, if_false, Nat.add_zero, Nat.lt_succ_self, true_and] at ih ⊢
   omega
  ·have e : (bs.set p v).getD B 0 = bs.getD B 0 := by simp [List.getD, List.getElem?_set_ne hpB]
   rw [e]
   have e2 : (p < B + 1) ↔ p < B := by omega
   simp only [e2]
   omega
theorem cntB_pos {bs : List Int} {B : Nat} {t : Int} {i : Nat} (hi : i < B) (h : bs.getD i 0 <= t) : 1 <= cntB bs B t := by
 unfold cntB
 exact List.countP_pos_iff.2 ⟨i, List.mem_range.2 hi, decide_eq_true h⟩
theorem cntB_min {bs : List Int} {B : Nat} {t : Int} (h : 1 <= cntB bs B t) : bs.getD (pickB bs B) 0 <= t := by
 unfold cntB at h
 obtain ⟨i, hi, h1⟩ := List.countP_pos_iff.1 h
 have := pickB_min bs B i (List.mem_range.1 hi)
 have := of_decide_eq_true h1
 omega
def DomB (bs : List Int) (B : Nat) (bs' : List Int) (B' : Nat) : Prop := ∀ t, cntB bs B t <= cntB bs' B' t
theorem DomB.min {bs bs' : List Int} {B B' : Nat} (h : DomB bs B bs' B') (hB : 0 < B) : bs'.getD (pickB bs' B') 0 <= bs.getD (pickB bs B) 0 :=
 cntB_min (Nat.le_trans (cntB_pos (pickB_lt bs B hB) (Int.le_refl _)) (h _))
theorem DomB.step {bs bs' : List Int} {B B' : Nat} {v v' : Int} (h : DomB bs B bs' B') (hB : 0 < B) (hB' : 0 < B') (hl : B <= bs.length) (hl' : B' <= bs'.length)
  (hv : bs.getD (pickB bs B) 0 < v) (hv' : bs'.getD (pickB bs' B') 0 < v') (hvv : v' <= v) : DomB (bs.set (pickB bs B) v) B (bs'.set (pickB bs' B') v') B' := fun t => by
 have hp := pickB_lt bs B hB
 have hp' := pickB_lt bs' B' hB'
 have h1 := cntB_set bs (pickB bs B) v t (by omega) B
 have h2 := cntB_set bs' (pickB bs' B') v' t (by omega) B'
 have h3 := h t
 simp only [hp, hp', true_and] at h1 h2
 have hm := h.min hB
 by_cases c1 : bs.getD (pickB bs B) 0 <= t
 ·rw [if_pos c1] at h1
  rw [if_pos (by omega)] at h2
  by_cases c2 : v <= t
  ·rw [if_pos c2] at h1
   rw [if_pos (by omega)] at h2
   omega
  ·rw [if_neg c2] at h1
   omega
 ·rw [if_neg c1, if_neg (by omega)] at h1
  have : cntB bs B t = 0 := by
   rcases Nat.eq_zero_or_pos (cntB bs B t) with h0 | h0
   ·exact h0
   ·exact absurd (cntB_min h0) c1
  omega
theorem due_xs {n n' : HN} (h : n'.xs = n.xs) (js : List Int) (k : Nat) : n'.due js k = n.due js k := by simp [HN.due, h]
theorem late_mono {n n' : HN} (js : List Int) (mi mi' : Int) (hx : n'.xs = n.xs) (hn : n.notice <= n'.notice) (b1 : 1 <= n.barrows) (b4 : n.barrows <= 4) (b1' : 1 <= n'.barrows) (b4' : n'.barrows <= 4) (hm : mi' <= mi) (h1 : 1 <= mi') :
  ∀ (pl : List Nat) (bs bs' : List Int) (f : Nat), bs.length = 4 -> bs'.length = 4 -> DomB bs n.barrows.toNat bs' n'.barrows.toNat -> ∀ (i : Nat) (x y : Int), (lateG n' js mi' pl bs' f)[i]? = some x -> (lateG n js mi pl bs f)[i]? = some y -> x <= y
 | [], _, _, _, _, _, _, i, x, y, hx', _ => by simp [lateG] at hx'
 | m :: pl, bs, bs', f, hl, hl', hd, i, x, y, hx', hy' => by
  have hmin := hd.min (by omega)
  have hback : (rideF n' js bs' f m mi').back <= (rideF n js bs f m mi).back := by
   simp only [rideF, due_xs hx]
   omega
  have hv : bs.getD (pickB bs n.barrows.toNat) 0 < (rideF n js bs f m mi).back := by
   simp only [rideF]
   omega
  have hv' : bs'.getD (pickB bs' n'.barrows.toNat) 0 < (rideF n' js bs' f m mi').back := by
   simp only [rideF]
   omega
  have hd' := hd.step (by omega) (by omega) (by omega) (by omega) hv hv' hback
  rw [lateG] at hx' hy'
  have la : (lateR n' js (rideF n' js bs' f m mi') m f).length = m := by simp [lateR]
  have lb : (lateR n js (rideF n js bs f m mi) m f).length = m := by simp [lateR]
  by_cases hi : i < m
  ·rw [List.getElem?_append_left (by omega)] at hx' hy'
   simp only [lateR, List.getElem?_map, List.getElem?_range hi, Option.map_some, Option.some.injEq, due_xs hx] at hx' hy'
   omega
  ·rw [List.getElem?_append_right (by omega), la] at hx'
   rw [List.getElem?_append_right (by omega), lb] at hy'
   exact late_mono js mi mi' hx hn b1 b4 b1' b4' hm h1 pl _ _ _ (by simp [nextB, hl]) (by simp [nextB, hl']) hd' (i - m) x y hx' hy'
theorem cntB_mono (bs : List Int) (t : Int) : ∀ B B', B <= B' -> cntB bs B t <= cntB bs B' t
 | B, B', h => by
  obtain ⟨k, rfl⟩ := Nat.exists_eq_add_of_le h
  clear h
  induction k with
  | zero => exact Nat.le_refl _
  | succ k ih => rw [<- Nat.add_assoc, cntB_succ]; omega
end Go.Proofs.YtofmadjgbcopdaaGreatDoor
end
section
namespace Go.Proofs.YtofmadjgbcopdaaGreatDoor
open Go Go.X
theorem comps_ones (m : Nat) (hm : 1 <= m) : ∀ N, (List.replicate N 1).map (fun x : Nat => (x : Int)) ∈ comps m N
 | 0 => by simp [comps]
 | N + 1 => by
  have := comps_mem m (N + 1) 0 (by omega) (l := (List.replicate N 1).map (fun x : Nat => (x : Int))) (by simpa using comps_ones m hm N)
  simpa [List.replicate_succ] using this
theorem wpX_forget {P : Program} {main : Md} {lp : Option Nat} {c : Code} {Q : Exit -> Act -> Hp -> Prop} {n : Nat} {e : Nat -> Value} {ds : List Deferred} {H : Hp} (p : (Nat -> Value) -> Prop) (hp : p e) (h : ∀ e, p e -> wpX P main lp c Q (act n e ds) H) : wpX P main lp c Q (act n e ds) H := h e hp
theorem wpX_range1 {P : Program} {main : Md} {Q : Exit -> Act -> Hp -> Prop} {n : Nat} {e : Nat -> Value} {ds : List Deferred} {H : Hp} {f : Operand} {t : Nat} {asg body : Code} {g : FuncId} {fi cap : Array Value} (hf : (act n e ds).eval f = .func (.func g) fi cap) (ht : t < n)
  (hcall : ∀ (args : Array Value) (H : Hp) (K : Next -> Hp -> Prop) (E : Value -> Hp -> Prop), wpS P (callFunc g args) H K E = K (.enter g args) H)
  (h : ∀ r l lo, H r = none -> (H.set r (.deferred (some []))) l = none -> lo.state = .ready -> lo.pending = none ->
   (∀ H v R, H l = some (true, .loop lo) -> wpX P main (some l) asg (thn (fun a H1 => H1 l = some (true, .loop lo) /\ wpX P main (some l) body (rnd l R) a (H1.set l (.loop { lo with state := .busy }))) fun _ _ _ => False) (act n (upd e t v) []) H -> CallV P main (.func (.yield l) #[] #[]) #[v] H R) ->
   Runs P main (Frame.enter P g (fi ++ #[.func (.yield l) #[] #[]] ++ cap) .normal) ((H.set r (.deferred (some []))).set l (.loop lo)) (behind l r (act n e ds) Q)) :
  wpX P main none (.rangeFunc f #[t] asg body) Q (act n e ds) H := by
 refine wpX_rangeFunc hf hcall fun fn r l hr hl => ?_
 refine h r l _ hr hl rfl rfl fun H' v R hl' hw => ?_
 intro K E hK1 hK2
 refine callK_yield ?_
 rw [hl', yieldK_some]
 refine ⟨rfl, hK2 _ _ _ _ _ _ (round_runs ?_)⟩
 have he : (((#[t] : Array Tmp).zip #[v]).foldl (fun tmps (x : Tmp × Value) => tmps.setIfInBounds x.1 x.2) (act n e ds).tmps) = (act n (upd e t v) []).tmps := by
  have := congrArg Act.tmps (act_put (n := n) (e := e) (ds := ds) (v := v) ht)
  simpa [Act.put, act] using this
 have he2 : ({ tmps := ((#[t] : Array Tmp).zip #[v]).foldl (fun tmps (x : Tmp × Value) => tmps.setIfInBounds x.1 x.2) (act n e ds).tmps, defers := [] } : Act) = act n (upd e t v) [] := by
  rw [he]; rfl
 rw [he2]
 refine wpX_mono hw fun e' a' H'' q => ?_
 cases e' with
 | normal => exact ⟨_, q.1, rfl, q.2⟩
 | _ => exact q
theorem behind_none {n : Nat} {e : Nat -> Value} {ds : List Deferred} {l r : Nat} {Q : Exit -> Act -> Hp -> Prop} {v : Value} {H : Hp} {q : Loop} (h : H l = some (true, .loop q)) (h1 : q.state = .ready) (h2 : q.pending = none)
  (hk : Q .normal (act n e (coll r :: ds)) (H.set l (.loop { q with state := .exhausted }))) : behind l r (act n e ds) Q (.returned v) H := by
 refine ⟨q, h, by rw [h1]; simp, ?_⟩
 cases q
 simp only [] at h1 h2
 subst h1 h2
 exact hk
end Go.Proofs.YtofmadjgbcopdaaGreatDoor
end
section
namespace Go.Proofs.YtofmadjgbcopdaaGreatDoor
open Go Go.X
def y30_51 := And.intro (fun H => len_slice (H := H) Tryz.underlying22) (And.intro (fun H => indexAt_slice (H := H) Tryz.underlying22 Tryz.sizeOf3) (fun H => loadAt_one (H := H) Tryz.underlying3 rfl))
theorem SlI.get {H : Hp} {a : Option Addr} {n cap : Nat} {xs : List Int} (h : SlI H (.slice a n cap) xs) {i : Nat} {x : Int} (hx : xs[i]? = some x) : ∃ (b o : Nat) (p : Bool) (c : Array Value) (fr : Nat × Nat), a = some ⟨b, o, none⟩ /\ H b = some (p, .cells c 3 fr) /\ c[o + i]? = some (.int .i64 x) := by
 obtain ⟨a', cap', he, _, hg⟩ := h
 cases he
 exact hg i x hx
theorem likeInts_spec (m : Md) (H : Hp) (v w : Value) (xs ys : List Int) (hv : SlI H v xs) (hw : SlI H w ys) (hx : xs.length <= 1000000) (hy : ys.length <= 1000000) :
  FnX Tryz.prog m 30 #[v, w] H fun e H' => e = .returned (.bool (decide (xs = ys))) /\ H' = H := by
 have hv0 := hv
 have hw0 := hw
 obtain ⟨va, vc, rfl, hvc, _⟩ := id hv
 obtain ⟨wa, wc, rfl, hwc, _⟩ := id hw
 refine FnX_start Tryz.func30 rfl Tryz.ntmps30 (by simp) ?_
 by_cases hl : xs.length = ys.length
 ·have hll := hl
  replace hl : xs.length <= ys.length /\ ys.length <= xs.length := by omega
  clear hll
  (refine @unH _ ?_; refine zA y30_51 ?_; (repeat (refine inC ?_; intro hc)); try (refine inK ?_; intro K hK))
  refine wpX_loop (fun w a' H' => ∃ e j, w = xs.length - j /\ j <= xs.length /\ a' = act 26 e [] /\ e 0 = .slice va xs.length vc /\ e 1 = .slice wa ys.length wc /\ e 5 = .int .i64 (j : Nat) /\ H' = H /\ (∀ i, i < j -> xs[i]? = ys[i]?)) (n := xs.length) ?_ ?_
  ·exact ⟨_, 0, by omega, by omega, rfl, rfl, rfl, rfl, by trivial, fun i h => by omega⟩
  ·rintro w' a' H' ⟨e, j, rfl, hj, rfl, e0, e1, e5, hH, hd⟩
   rw [hH]; clear hH H'
   by_cases hlt : j < xs.length
   ·obtain ⟨b, o, p, c, fr, hva, hb, hcx⟩ := SlI.get hv0 (List.getElem?_eq_getElem hlt)
    have hlt2 : j < ys.length := by omega
    obtain ⟨b2, o2, p2, c2, fr2, hwa, hb2, hcy⟩ := SlI.get hw0 (List.getElem?_eq_getElem hlt2)
    have hxj := List.getElem?_eq_getElem hlt
    have hyj := List.getElem?_eq_getElem hlt2
    generalize xs[j] = x at *
    generalize ys[j] = y at *
    subst hva hwa
    have hcx' : c[o + (j : Int).toNat * 1]? = some (.int .i64 x) := by simpa using hcx
    have hcy' : c2[o2 + (j : Int).toNat * 1]? = some (.int .i64 y) := by simpa using hcy
    clear hv hw hv0 hw0
    by_cases hxy : x = y
    ·replace hxy : x <= y /\ y <= x := by omega
     have hd2 : ∀ i, i < j + 1 -> xs[i]? = ys[i]? := fun i hi => by
      by_cases he : i = j
      ·rw [he, hxj, hyj]; congr 1; omega
      ·exact hd i (by omega)
     clear hd hxj hyj
     (refine @unH _ ?_; refine zA y30_51 ?_; (repeat (refine inC ?_; intro hc)); try (refine inK ?_; intro K hK))
     (refine wpX_dst1 9 [(true, 0), (true, 1), (true, 2), (true, 3), (true, 4), (true, 5), (true, 6), (true, 7), (true, 8)] (by kernel_rfl) (by kernel_rfl) (by simp) (by kernel_rfl) ?_; intro K hK; (iterate 9 (refine @unH _ ?_; refine z3 y30_51 ?_)); refine plan_nil (hK _ _ ?_); clear hK K; (try simp only [nq, ↓reduceIte, Nat.reduceEqDiff]))
     (refine @unH _ ?_; refine zA y30_51 ?_; (repeat (refine inC ?_; intro hc)); try (refine inK ?_; intro K hK))
     exact ⟨_, by omega, _, j + 1, rfl, by omega, rfl, e0, e1, rfl, by trivial, hd2⟩
    ·have hne : xs ≠ ys := fun e => by rw [e, hyj] at hxj; exact hxy (Option.some.inj hxj).symm
     clear hd hxj hyj
     (refine @unH _ ?_; refine zA y30_51 ?_; (repeat (refine inC ?_; intro hc)); try (refine inK ?_; intro K hK))
     (refine wpX_dst1 9 [(true, 0), (true, 1), (true, 2), (true, 3), (true, 4), (true, 5), (true, 6), (true, 7), (true, 8)] (by kernel_rfl) (by kernel_rfl) (by simp) (by kernel_rfl) ?_; intro K hK; (iterate 9 (refine @unH _ ?_; refine z3 y30_51 ?_)); refine plan_nil (hK _ _ ?_); clear hK K; (try simp only [nq, ↓reduceIte, Nat.reduceEqDiff]))
     (refine @unH _ ?_; refine zA y30_51 ?_; (repeat (refine inC ?_; intro hc)); try (refine inK ?_; intro K hK))
     (refine @unH _ ?_; refine z9 Tryz.results30 ?_)
     rw [decide_eq_false hne]
     (refine ⟨?_, ?_⟩ <;> first | rfl | trivial | assumption)
   ·obtain rfl : j = xs.length := by omega
    (refine @unH _ ?_; refine zA y30_51 ?_; (repeat (refine inC ?_; intro hc)); try (refine inK ?_; intro K hK))
    (refine @unH _ ?_; refine z9 Tryz.results30 ?_)
    refine ⟨?_, by trivial⟩
    rw [decide_eq_true]
    exact List.ext_getElem? fun i => by
     by_cases hi : i < xs.length
     ·exact hd i hi
     ·rw [List.getElem?_eq_none (by omega), List.getElem?_eq_none (by omega)]
 ·have hne : xs ≠ ys := fun e => hl (by rw [e])
  (refine @unH _ ?_; refine zA y30_51 ?_; (repeat (refine inC ?_; intro hc)); try (refine inK ?_; intro K hK))
  (refine @unH _ ?_; refine z9 Tryz.results30 ?_)
  rw [decide_eq_false hne]
  (refine ⟨?_, ?_⟩ <;> first | rfl | trivial | assumption)
end Go.Proofs.YtofmadjgbcopdaaGreatDoor
end
section
namespace Go.Proofs.YtofmadjgbcopdaaGreatDoor
open Go Go.X
def y78_52 := And.intro @callF75 (And.intro (fun H => len_slice (H := H) Tryz.underlying45) (And.intro (fun H => indexAt_slice (H := H) Tryz.underlying45 Tryz.sizeOf61) (And.intro (fun H => loadAt_aggE (H := H) Tryz.underlying61 rfl Tryz.sizeOf61) (And.intro (fun H => ex_alloc (H := H) (P := Tryz.prog) (h := Tryz.zeroValue61)) (And.intro (fun H => storeAt_agg (H := H) Tryz.sizeOf61) (And.intro (fun H => indexAt_slice (H := H) Tryz.underlying22 Tryz.sizeOf3) (And.intro (fun H => loadAt_one (H := H) Tryz.underlying3 rfl) (And.intro (fun H => len_slice (H := H) Tryz.underlying22) (And.intro @callF119 (And.intro @meth_barrow_tardy (And.intro @nilm_barrow_tardy (And.intro @callF196 (And.intro @meth_barrow_timely (And.intro @nilm_barrow_timely (And.intro @callF197 @lit_22_1_0_0)))))))))))))))
theorem tardy_spec (m : Md) (H : Hp) (x : Int) : FnX Tryz.prog m 196 #[.int .i64 x] H fun e H' => e = .returned (.int .i64 x) /\ H' = H := by
 refine FnX_start Tryz.func196 rfl Tryz.ntmps196 (by simp) ?_
 (refine @unH _ ?_; refine zA trivial ?_; (repeat (refine inC ?_; intro hc)); try (refine inK ?_; intro K hK))
 (refine @unH _ ?_; refine z9 Tryz.results196 ?_)
 (refine ⟨?_, ?_⟩ <;> first | rfl | trivial | assumption)
theorem timely_spec (m : Md) (H : Hp) : FnX Tryz.prog m 197 #[.agg #[]] H fun e H' => e = .returned (.int .i64 0) /\ H.le H' := by
 refine FnX_start Tryz.func197 rfl Tryz.ntmps197 (by simp) ?_
 (refine @unH _ ?_; refine zA trivial ?_; (repeat (refine inC ?_; intro hc)); try (refine inK ?_; intro K hK))
 (intro b1 hb1; generalize hG : Hp.set _ b1 _ = H1; have lH1 := le_of_set hG hb1; have vb1 := at_of_set hG; clear hG)
 ((try (refine @unH _ ?_; refine zX trivial ?_)); (try (refine hK _ _ ?_; clear hK K; (try simp only [nq, ↓reduceIte, Nat.reduceEqDiff]))); refine @unH _ ?_; refine zA trivial ?_; (repeat (refine inC ?_; intro hc)); try (refine inK ?_; intro K hK))
 (refine @unH _ ?_; refine z9 Tryz.results197 ?_)
 exact ⟨by trivial, lH1⟩
theorem late_hspec (main : Md) (H : Hp) (hb : Nat) (n : HN) (v : HV) (jv : Value) (js : List Int) (hh : HaulAt H hb n v jv js) (pv : Value) (pl : List Nat) (hp : SlI H pv (pl.map fun m : Nat => (m : Int))) (hp1 : ∀ m ∈ pl, 1 <= m) (hps : pl.sum <= js.length) (hpl : pl.length <= 1000) (mi : Int) (hm1 : 1 <= mi) (hm2 : mi <= 20) :
  FnX Tryz.prog main 78 #[.pointer (some ⟨hb, 0, none⟩), pv, .int .i64 mi] H fun e H' => ∃ lv, e = .returned lv /\ RowX none H H' lv 3 (ints (lateG n js mi pl bs0 0)) := by
 have hpS := hp
 obtain ⟨pa, pc, rfl, hpc, _⟩ := hp
 have hjl := hh.jl
 simp only [List.length_map] at hpc
 simp only [List.length_map]
 have hdok := dS_ok n js mi pl hh.xb hh.n0 hh.b1 hh.b4 hm1 hm2
 have hbk := dS_back n js mi pl hh.xb hh.n0 hh.b1 hh.b4 hm1 hm2
 have hdr := drive_spec main H hb n v jv js hh _ pl hpS hp1 hps hpl mi hm1 hm2
 simp only [List.length_map] at hdr
 rw [<- lateD_all]
 have hlD := lateD_length n js mi pl
 have hsucc : ∀ k, lateD n js mi pl (k + 1) = lateD n js mi pl k ++ lateR n js (rideF n js (dS n js mi pl k).1 (dS n js mi pl k).2.1 (pl.getD k 0) mi) (pl.getD k 0) (dS n js mi pl k).2.1 := fun _ => rfl
 have hget := fun i (h : i < pl.length) => dS_get n js mi pl pl.length i h (hdok _ (Nat.le_refl _)).2.2.2 fun j hj => (hdok j (by omega)).2.2.2
 have hbk' := hbk pl.length (Nat.le_refl _)
 have hdf : ∀ k, k <= pl.length -> (dS n js mi pl k).2.1 = (pl.take k).sum := fun k hk => (hdok k hk).2.2.1
 have hlen := (hdok pl.length (Nat.le_refl _)).2.2.2
 generalize (dS n js mi pl pl.length).2.2 = rs at hbk' hdr hlen hget
 have hrk : ∀ k, k < pl.length -> lateD n js mi pl (k + 1) = lateD n js mi pl k ++ lateR n js (rs.getD k ⟨0, 0, 0⟩) (pl.getD k 0) (pl.take k).sum := fun k hk => by
  have := hget k hk
  rw [hsucc, show rs.getD k ⟨0, 0, 0⟩ = rs[k]?.getD ⟨0, 0, 0⟩ by simp [List.getD], this, hdf k (by omega)]
  rfl
 have hlz : lateD n js mi pl 0 = [] := rfl
 generalize lateD n js mi pl = LD at *
 clear hdok hbk hsucc hdf hget
 refine FnX_start Tryz.func78 rfl Tryz.ntmps78 (by simp) ?_
 (refine @unH _ ?_; refine zAi y78_52 ?_; (repeat (refine inC ?_; intro hc)); try (refine inK ?_; intro K hK))
 refine hdr.runs.mono ?_
 rintro _ H1 ⟨rv, rfl, hrow⟩
 have hh1 := hh.le hrow.1.toLe
 have hp1' := hpS.le hrow.1.toLe
 obtain ⟨ra, rc, rfl⟩ := rowZ_len hrow
 ((try (refine @unH _ ?_; refine zXi y78_52 ?_)); (try (refine hK _ _ ?_; clear hK K; (try simp only [nq, ↓reduceIte, Nat.reduceEqDiff]))); refine @unH _ ?_; refine zAi y78_52 ?_; (repeat (refine inC ?_; intro hc)); try (refine inK ?_; intro K hK))
 refine wpX_loop (fun w a' H' => ∃ e i lv, w = pl.length - i /\ i <= pl.length /\ a' = act 38 e [] /\ e 0 = .pointer (some ⟨hb, 0, none⟩) /\ e 1 = .slice pa pl.length pc /\ e 7 = lv /\ e 13 = .slice ra pl.length rc /\ e 14 = .int .i64 pl.length /\ e 15 = .int .i64 (i : Nat) /\ RowX none H1 H' lv 3 (ints (LD i))) (n := pl.length) ?_ ?_
 ·exact ⟨_, 0, .slice none 0 0, rfl, by omega, rfl, rfl, rfl, rfl, rfl, rfl, rfl, by rw [hlz]; exact RowX.nil⟩
 ·rintro w a' H2 ⟨e, i, lv, rfl, hi, rfl, e0, e1, e7, e13, e14, e15, hlv⟩
  have lH2 := hlv.1.toLe
  by_cases hlt : i < pl.length
  ·have hlr : i < rs.length := by omega
   have hri : rs[i]? = some (rs.getD i ⟨0, 0, 0⟩) := by simp [List.getD, List.getElem?_eq_getElem hlr]
   have hrb := hbk' _ (List.mem_of_getElem? hri)
   have hnext := hrk i hlt
   generalize rs.getD i ⟨0, 0, 0⟩ = r at hri hrb hnext
   obtain ⟨g1, g2, g3⟩ := rcells_get rs i r hri
   have hh2 := hh1.le lH2
   have hp2 := hp1'.le lH2
   have hrow2 := hrow.2
   rcases hrow2 with ⟨h9, h8, _⟩ | ⟨b, c, cap, _, vb, hve, hcs, hcap, hcl, hget⟩
   ·omega
   ·cases hve
    have vb2 := lH2 _ _ vb
    have hex := extract3 (hget _ _ g1) (hget _ _ g2) (hget _ _ g3)
    have hsz : i * 3 + 3 <= c.size := by omega
    obtain ⟨b3, o3, cap3, p3, c3, fr3, hve, _, vb3, hx⟩ := hp2.cons (fun h => absurd (congrArg List.length h) (by simp only [List.length_nil, List.length_map]; omega))
    cases hve
    have hxi := hx i (pl[i] : Nat) (by rw [List.getElem?_map, List.getElem?_eq_getElem hlt]; rfl)
    have hg : pl.getD i 0 = pl[i] := by simp [List.getD, List.getElem?_eq_getElem hlt]
    have hsum : (pl.take (i + 1)).sum <= pl.sum := by
     have h9 : pl.sum = (pl.take (i + 1)).sum + (pl.drop (i + 1)).sum := by rw [<- List.sum_append, List.take_append_drop]
     omega
    have hs2 : (pl.take (i + 1)).sum = (pl.take i).sum + pl[i] := by
     rw [List.take_add_one, List.getElem?_eq_getElem hlt, List.sum_append]
     simp
    rw [<- hg] at hxi hs2
    have hli := hlD i (by omega)
    generalize hsi1 : (pl.take (i + 1)).sum = S1 at hsum hs2
    generalize hsi : (pl.take i).sum = S0 at hs2 hli hnext
    generalize hpi : pl.getD i 0 = mi' at hxi hs2 hnext
    generalize hL0 : LD i = L0 at hlv hli hnext
    replace hli : L0.length <= S0 /\ S0 <= L0.length := by omega
    clear hx hg g1 g2 g3 hget hcs hcl hp2 vb
    replace hs2 : S1 <= S0 + mi' /\ S0 + mi' <= S1 := by omega
    have hi3 : 0 + i * 3 = i * 3 := by omega
    obtain ⟨la, lc, rfl⟩ := hlv.len
    (refine @unH _ ?_; refine zAi y78_52 ?_; (repeat (refine inC ?_; intro hc)); try (refine inK ?_; intro K hK))
    (intro cb hcb; generalize hG : Hp.set _ cb _ = H3; have lH3 := le_of_set hG hcb; have vcb := at_of_set hG; clear hG)
    have vb33 := lH3 _ _ vb3
    have hh3 := hh2.le lH3
    have hlv3 := hlv.le lH3
    have hcb1 : H1 cb = none := hlv.1.gone hcb
    clear vb3 vb2 hh2 hlv
    ((try (refine @unH _ ?_; refine zXi y78_52 ?_)); (try (refine hK _ _ ?_; clear hK K; (try simp only [nq, ↓reduceIte, Nat.reduceEqDiff]))); refine @unH _ ?_; refine zAi y78_52 ?_; (repeat (refine inC ?_; intro hc)); try (refine inK ?_; intro K hK))
    refine wpX_loop (fun w a' H' => ∃ e j lv, w = mi' - j /\ j <= mi' /\ a' = act 38 e [] /\ e 0 = .pointer (some ⟨hb, 0, none⟩) /\ e 1 = .slice (some ⟨b3, o3, none⟩) pl.length pc /\ e 7 = lv /\ e 9 = .pointer (some ⟨cb, 0, none⟩) /\ e 13 = .slice (some ⟨b, 0, none⟩) pl.length rc /\ e 14 = .int .i64 pl.length /\ e 15 = .int .i64 (i : Nat) /\ e 23 = .int .i64 (mi' : Nat) /\ e 24 = .int .i64 (j : Nat) /\
     H' cb = some (true, .cells #[.int .i64 r.barrow, .int .i64 r.out, .int .i64 r.back] 61 (0, 0)) /\ RowX none H1 H' lv 3 (ints (L0 ++ lateR n js r j S0))) (n := mi') ?_ ?_
    ·exact ⟨_, 0, .slice la (ints L0).length lc, rfl, by omega, rfl, e0, e1, e7, rfl, e13, e14, e15, rfl, rfl, vcb, by simpa [lateR] using hlv3⟩
    ·clear e0 e1 e7 e13 e14 e15 vcb hlv3 hh3
     rename_i eold
     clear eold
     rintro w a' H4 ⟨e, j, lv, rfl, hj, rfl, e0, e1, e7, e9, e13, e14, e15, e23, e24, vcb4, hlv4⟩
     have hh4 := hh1.le hlv4.1.toLe
     obtain ⟨la4, lc4, rfl⟩ := hlv4.len
     have hll : (ints (L0 ++ lateR n js r j S0)).length = L0.length + j := by rw [ints_len]; simp [lateR]
     have hstep : lateR n js r (j + 1) S0 = lateR n js r j S0 ++ [max 0 (r.back - n.due js (S0 + j))] := by simp [lateR, List.range_succ]
     by_cases hltj : j < mi'
     ·rw [hll] at e7
      have hout := outcome_spec main H4 hb n v jv js hh4 (S0 + j) (by omega) r (by omega)
      rw [show S0 + j = L0.length + j by omega] at hout
      (refine @unH _ ?_; refine zAi y78_52 ?_; (repeat (refine inC ?_; intro hc)); try (refine inK ?_; intro K hK))
      refine hout.runs.mono ?_
      rintro _ H5 ⟨rfl, lH5⟩
      have vcb5 := lH5 _ _ vcb4
      have hlv5 := hlv4.le lH5
      rw [show L0.length + j = S0 + j by omega]
      rw [hll, show L0.length + j = S0 + j by omega] at hlv5
      by_cases hlate : 0 < r.back - n.due js (S0 + j)
      ·rw [show outV (r.back - n.due js (S0 + j)) = .iface 199 (.int .i64 (r.back - n.due js (S0 + j))) from if_pos hlate]
       rw [show max 0 (r.back - n.due js (S0 + j)) = r.back - n.due js (S0 + j) by omega] at hstep
       generalize r.back - n.due js (S0 + j) = z at *
       ((try (refine @unH _ ?_; refine zXi y78_52 ?_)); (try (refine hK _ _ ?_; clear hK K; (try simp only [nq, ↓reduceIte, Nat.reduceEqDiff]))); refine @unH _ ?_; refine zAi y78_52 ?_; (repeat (refine inC ?_; intro hc)); try (refine inK ?_; intro K hK))
       refine (tardy_spec main H5 z).runs.mono ?_
       rintro _ H6 ⟨rfl, hH6⟩
       rw [hH6]; clear hH6 H6
       ((try (refine @unH _ ?_; refine zXi y78_52 ?_)); (try (refine hK _ _ ?_; clear hK K; (try simp only [nq, ↓reduceIte, Nat.reduceEqDiff]))); refine @unH _ ?_; refine zAi y78_52 ?_; (repeat (refine inC ?_; intro hc)); try (refine inK ?_; intro K hK))
       intro g hg
       refine append_i hlv5 hg (by simp [lateR]; omega) _ _ _ _ ?_
       intro v' H7 hr7 ho7
       have vcb7 := ho7.cells vcb5 (by decide)
       rw [List.append_assoc, <- hstep] at hr7
       ((try (refine @unH _ ?_; refine zXi y78_52 ?_)); (try (refine hK _ _ ?_; clear hK K; (try simp only [nq, ↓reduceIte, Nat.reduceEqDiff]))); refine @unH _ ?_; refine zAi y78_52 ?_; (repeat (refine inC ?_; intro hc)); try (refine inK ?_; intro K hK))
       exact ⟨_, by omega, _, j + 1, v', rfl, hltj, rfl, e0, e1, rfl, e9, e13, e14, e15, e23, rfl, vcb7, hr7⟩
      ·rw [show outV (r.back - n.due js (S0 + j)) = .iface 200 (.agg #[]) from if_neg hlate]
       rw [show max 0 (r.back - n.due js (S0 + j)) = 0 by omega] at hstep
       ((try (refine @unH _ ?_; refine zXi y78_52 ?_)); (try (refine hK _ _ ?_; clear hK K; (try simp only [nq, ↓reduceIte, Nat.reduceEqDiff]))); refine @unH _ ?_; refine zAi y78_52 ?_; (repeat (refine inC ?_; intro hc)); try (refine inK ?_; intro K hK))
       refine (timely_spec main H5).runs.mono ?_
       rintro _ H6 ⟨rfl, lH6⟩
       have vcb6 := lH6 _ _ vcb5
       have hlv6 := hlv5.le lH6
       clear vcb5 hlv5
       ((try (refine @unH _ ?_; refine zXi y78_52 ?_)); (try (refine hK _ _ ?_; clear hK K; (try simp only [nq, ↓reduceIte, Nat.reduceEqDiff]))); refine @unH _ ?_; refine zAi y78_52 ?_; (repeat (refine inC ?_; intro hc)); try (refine inK ?_; intro K hK))
       intro g hg
       refine append_i hlv6 hg (by simp [lateR]; omega) _ _ _ _ ?_
       intro v' H7 hr7 ho7
       have vcb7 := ho7.cells vcb6 (by decide)
       rw [List.append_assoc, <- hstep] at hr7
       ((try (refine @unH _ ?_; refine zXi y78_52 ?_)); (try (refine hK _ _ ?_; clear hK K; (try simp only [nq, ↓reduceIte, Nat.reduceEqDiff]))); refine @unH _ ?_; refine zAi y78_52 ?_; (repeat (refine inC ?_; intro hc)); try (refine inK ?_; intro K hK))
       exact ⟨_, by omega, _, j + 1, v', rfl, hltj, rfl, e0, e1, rfl, e9, e13, e14, e15, e23, rfl, vcb7, hr7⟩
     ·obtain rfl : j = mi' := by omega
      (refine @unH _ ?_; refine zAi y78_52 ?_; (repeat (refine inC ?_; intro hc)); try (refine inK ?_; intro K hK))
      exact ⟨_, by omega, _, i + 1, _, rfl, hlt, rfl, e0, e1, e7, e13, e14, rfl, by rw [hnext]; exact hlv4⟩
  ·obtain rfl : i = pl.length := by omega
   (refine @unH _ ?_; refine zAi y78_52 ?_; (repeat (refine inC ?_; intro hc)); try (refine inK ?_; intro K hK))
   (refine @unH _ ?_; refine z9 Tryz.results78 ?_)
   exact ⟨lv, rfl, hlv.base hrow.1⟩
end Go.Proofs.YtofmadjgbcopdaaGreatDoor
end
section
namespace Go.Proofs.YtofmadjgbcopdaaGreatDoor
open Go Go.X
def y32_53 := And.intro (fun H => loadAt_aggE (H := H) Tryz.underlying29 rfl Tryz.sizeOf29) (And.intro @callF74 @callF75)
def y34_53 := And.intro (fun H => loadAt_aggE (H := H) Tryz.underlying29 rfl Tryz.sizeOf29) (And.intro @callF74 @callF78)
def y74_53 := And.intro (fun H => loadAt_aggE (H := H) Tryz.underlying29 rfl Tryz.sizeOf29) (And.intro @callF68 (And.intro @callF115 (And.intro @callF114 @callF98)))
def y114_53 := And.intro (fun H => ex_alloc (H := H) (P := Tryz.prog) (h := Tryz.zeroValue208)) (And.intro (fun H => makeI (H := H) Tryz.underlying209 rfl) (And.intro @callF125 (And.intro (fun H => fieldAt_eq (H := H) Tryz.underlying208 (i := 0) rfl (off := 0) rfl Tryz.sizeOf39) (fun H => loadAt_one (H := H) Tryz.underlying39 rfl))))
def y115_53 := And.intro (fun H => len_slice (H := H) Tryz.underlying22) (And.intro (fun H => indexAt_slice (H := H) Tryz.underlying22 Tryz.sizeOf3) (And.intro (fun H => loadAt_one (H := H) Tryz.underlying3 rfl) (And.intro (fun H => fieldAt_eq (H := H) Tryz.underlying85 (i := 0) rfl (off := 0) rfl Tryz.sizeOf29) (And.intro (fun H => fieldAt_eq (H := H) Tryz.underlying29 (i := 5) rfl (off := 8) rfl Tryz.sizeOf3) (And.intro @callF71 (And.intro @bld_208_0_0 (And.intro (fun H => makeI (H := H) Tryz.underlying208 rfl) (And.intro (fun H => fieldAt_eq (H := H) Tryz.underlying85 (i := 1) rfl (off := 12) rfl Tryz.sizeOf22) (fun H => loadAt_one (H := H) Tryz.underlying22 rfl)))))))))
structure PlanOk (n : HN) (N : Nat) (pl : List Nat) : Prop where
 p1 : ∀ m ∈ pl, 1 <= m
 p2 : ∀ m ∈ pl, (m : Int) <= n.load
 ps : pl.sum = N
theorem sum_take_succ {pl : List Nat} {i : Nat} (h : i < pl.length) : (pl.take (i + 1)).sum = (pl.take i).sum + pl.getD i 0 /\ (pl.take (i + 1)).sum <= pl.sum := by
 constructor
 ·rw [List.take_add_one, List.getElem?_eq_getElem h, List.sum_append]
  simp [List.getD, List.getElem?_eq_getElem h]
 ·have : pl.sum = (pl.take (i + 1)).sum + (pl.drop (i + 1)).sum := by rw [<- List.sum_append, List.take_append_drop]
  omega
theorem hcheck_spec (main : Md) (H : Hp) (hb : Nat) (n : HN) (v : HV) (jv : Value) (q : Bool) (hhb : H hb = some (q, n.obj v jv)) (N : Nat) (hj : ∃ ja jc, jv = .slice ja N jc) (pv : Value) (pl : List Nat) (hp : SlI H pv (pl.map fun m : Nat => (m : Int))) (hok : PlanOk n N pl) (hN : N <= 1000) :
  FnX Tryz.prog main 115 #[.pointer (some ⟨hb, 0, none⟩), pv] H fun e H' => e = .returned .nilIface /\ H' = H := by
 have hpS := hp
 obtain ⟨pa, pc, rfl, hpc, _⟩ := hp
 obtain ⟨ja, jc, rfl⟩ := hj
 obtain ⟨p1, p2, ps⟩ := hok
 simp only [List.length_map] at hpc
 simp only [List.length_map]
 have hpl : pl.length <= 1000 := by have := parts_len pl p1; omega
 simp only [HN.obj] at hhb
 refine FnX_start Tryz.func115 rfl Tryz.ntmps115 (by simp) ?_
 (refine @unH _ ?_; refine zA y115_53 ?_; (repeat (refine inC ?_; intro hc)); try (refine inK ?_; intro K hK))
 refine wpX_loop (fun w a' H' => ∃ e i, w = pl.length - i /\ i <= pl.length /\ a' = act 37 e [] /\ e 0 = .pointer (some ⟨hb, 0, none⟩) /\ e 5 = .int .i64 ((pl.take i).sum : Nat) /\ e 8 = .slice pa pl.length pc /\ e 9 = .int .i64 pl.length /\ e 10 = .int .i64 (i : Nat) /\ H' = H) (n := pl.length) ?_ ?_
 ·exact ⟨_, 0, rfl, by omega, rfl, rfl, rfl, rfl, rfl, rfl, rfl⟩
 ·rintro w a' H2 ⟨e, i, rfl, hi, rfl, e0, e5, e8, e9, e10, hH⟩
  rw [hH]; clear hH H2
  by_cases hlt : i < pl.length
  ·obtain ⟨b3, o3, cap3, p3, c3, fr3, hve, _, vb3, hx⟩ := hpS.cons (fun h => absurd (congrArg List.length h) (by simp only [List.length_nil, List.length_map]; omega))
   cases hve
   have hxi := hx i (pl[i] : Nat) (by rw [List.getElem?_map, List.getElem?_eq_getElem hlt]; rfl)
   have hg : pl.getD i 0 = pl[i] := by simp [List.getD, List.getElem?_eq_getElem hlt]
   have hm1 := p1 _ (List.getElem_mem hlt)
   have hm2 := p2 _ (List.getElem_mem hlt)
   obtain ⟨hs1, hs2⟩ := sum_take_succ hlt
   rw [<- hg] at hxi hm1 hm2
   generalize hsi1 : (pl.take (i + 1)).sum = S1 at hs1 hs2
   generalize hsi : (pl.take i).sum = S0 at hs1 e5
   generalize pl.getD i 0 = mi' at hxi hs1 hm1 hm2
   clear hx hg
   replace hs1 : S1 <= S0 + mi' /\ S0 + mi' <= S1 := by omega
   (refine @unH _ ?_; refine zA y115_53 ?_; (repeat (refine inC ?_; intro hc)); try (refine inK ?_; intro K hK))
   refine (binside_spec main H mi' 1 n.load (by omega) hm2).runs.mono ?_; rintro _ HQ ⟨rfl, hHQ⟩; rw [hHQ]; clear hHQ HQ; ((try (refine @unH _ ?_; refine zX y115_53 ?_)); (try (refine hK _ _ ?_; clear hK K; (try simp only [nq, ↓reduceIte, Nat.reduceEqDiff]))); refine @unH _ ?_; refine zA y115_53 ?_; (repeat (refine inC ?_; intro hc)); try (refine inK ?_; intro K hK))
   refine ⟨_, by omega, _, i + 1, rfl, hlt, rfl, e0, ?_, e8, e9, rfl, by trivial⟩
   rw [hsi1]
   show Value.int _ _ = Value.int _ _
   congr 1
   omega
  ·obtain rfl : i = pl.length := by omega
   rw [List.take_length] at e5
   rw [ps] at e5
   (refine @unH _ ?_; refine zA y115_53 ?_; (repeat (refine inC ?_; intro hc)); try (refine inK ?_; intro K hK))
   (refine @unH _ ?_; refine z9 Tryz.results115 ?_)
   (refine ⟨?_, ?_⟩ <;> first | rfl | trivial | assumption)
theorem errno_nil (main : Md) (H : Hp) : FnX Tryz.prog main 114 #[.nilIface] H fun e H' => e = .returned (.int .i64 0) /\ H.le H' := by
 refine FnX_start Tryz.func114 rfl Tryz.ntmps114 (by simp) ?_
 (refine @unH _ ?_; refine zA y114_53 ?_; (repeat (refine inC ?_; intro hc)); try (refine inK ?_; intro K hK))
 (intro b1 hb1; generalize hG : Hp.set _ b1 _ = H1; have lH1 := le_of_set hG hb1; have vb1 := at_of_set hG; clear hG)
 ((try (refine @unH _ ?_; refine zX y114_53 ?_)); (try (refine hK _ _ ?_; clear hK K; (try simp only [nq, ↓reduceIte, Nat.reduceEqDiff]))); refine @unH _ ?_; refine zA y114_53 ?_; (repeat (refine inC ?_; intro hc)); try (refine inK ?_; intro K hK))
 refine (as_nil main H1 _).runs.mono ?_; rintro _ HQ ⟨rfl, hHQ⟩; rw [hHQ]; clear hHQ HQ; ((try (refine @unH _ ?_; refine zX y114_53 ?_)); (try (refine hK _ _ ?_; clear hK K; (try simp only [nq, ↓reduceIte, Nat.reduceEqDiff]))); refine @unH _ ?_; refine zA y114_53 ?_; (repeat (refine inC ?_; intro hc)); try (refine inK ?_; intro K hK))
 (refine @unH _ ?_; refine z9 Tryz.results114 ?_)
 exact ⟨by trivial, lH1⟩
theorem planned_spec (main : Md) (H : Hp) (n : HN) (v : HV) (hd : HaulIn H n v) (pv : Value) (pl : List Nat) (hp : SlI H pv (pl.map fun m : Nat => (m : Int))) (hok : PlanOk n n.jobs.length pl) (hN : n.jobs.length <= 1000) (mi : Int) (h1 : 1 <= mi) (h20 : mi <= 20) :
  FnX Tryz.prog main 74 #[n.agg v, pv, .int .i64 mi] H fun e H' => ∃ hb jv, e = .returned (.tuple #[.pointer (some ⟨hb, 0, none⟩), .int .i64 0]) /\ H.le H' /\ H' hb = some (true, n.obj v jv) /\ SlI H' jv n.jobs := by
 have hpS := hp
 obtain ⟨pa, pc, rfl, hpc, _⟩ := hp
 have hop := fun H' h' => bopen_spec main H' n v h'
 have hdr := fun H' h' => driving_spec main H' n v h' mi h1 h20
 simp only [HN.agg] at hop hdr ⊢
 refine FnX_start Tryz.func74 rfl Tryz.ntmps74 (by simp) ?_
 (refine @unH _ ?_; refine zA y74_53 ?_; (repeat (refine inC ?_; intro hc)); try (refine inK ?_; intro K hK))
 (intro ab hab; generalize hG : Hp.set _ ab _ = H1; have lH1 := le_of_set hG hab; have vab := at_of_set hG; clear hG)
 have hd1 := hd.le lH1
 ((try (refine @unH _ ?_; refine zX y74_53 ?_)); (try (refine hK _ _ ?_; clear hK K; (try simp only [nq, ↓reduceIte, Nat.reduceEqDiff]))); refine @unH _ ?_; refine zA y74_53 ?_; (repeat (refine inC ?_; intro hc)); try (refine inK ?_; intro K hK))
 refine (hop H1 hd1).runs.mono ?_
 rintro _ H2 ⟨hb, jv, rfl, lH2, vhb, hj⟩
 have hd2 := hd1.le lH2
 have vab2 := lH2 _ _ vab
 have hp2 := hpS.le (Hp.le_trans lH1 lH2)
 have hjs : ∃ ja jc, jv = .slice ja n.jobs.length jc := by obtain ⟨ja, jc, h, _⟩ := id hj; exact ⟨ja, jc, h⟩
 ((try (refine @unH _ ?_; refine zX y74_53 ?_)); (try (refine hK _ _ ?_; clear hK K; (try simp only [nq, ↓reduceIte, Nat.reduceEqDiff]))); refine @unH _ ?_; refine zA y74_53 ?_; (repeat (refine inC ?_; intro hc)); try (refine inK ?_; intro K hK))
 refine (hcheck_spec main H2 hb n v jv true vhb _ hjs _ pl hp2 hok hN).runs.mono ?_; rintro _ HQ ⟨rfl, hHQ⟩; rw [hHQ]; clear hHQ HQ; ((try (refine @unH _ ?_; refine zX y74_53 ?_)); (try (refine hK _ _ ?_; clear hK K; (try simp only [nq, ↓reduceIte, Nat.reduceEqDiff]))); refine @unH _ ?_; refine zA y74_53 ?_; (repeat (refine inC ?_; intro hc)); try (refine inK ?_; intro K hK))
 refine (errno_nil main H2).runs.mono ?_
 rintro _ H3 ⟨rfl, lH3⟩
 have hd3 := hd2.le lH3
 have vab3 := lH3 _ _ vab2
 clear vab vab2
 ((try (refine @unH _ ?_; refine zX y74_53 ?_)); (try (refine hK _ _ ?_; clear hK K; (try simp only [nq, ↓reduceIte, Nat.reduceEqDiff]))); refine @unH _ ?_; refine zA y74_53 ?_; (repeat (refine inC ?_; intro hc)); try (refine inK ?_; intro K hK))
 refine (hdr H3 hd3).runs.mono ?_
 rintro _ H4 ⟨hb4, jv4, rfl, lH4, vhb4, hj4⟩
 ((try (refine @unH _ ?_; refine zX y74_53 ?_)); (try (refine hK _ _ ?_; clear hK K; (try simp only [nq, ↓reduceIte, Nat.reduceEqDiff]))); refine @unH _ ?_; refine zA y74_53 ?_; (repeat (refine inC ?_; intro hc)); try (refine inK ?_; intro K hK))
 (refine @unH _ ?_; refine zB Tryz.results74 ?_)
 exact ⟨hb4, jv4, rfl, Hp.le_trans lH1 (Hp.le_trans lH2 (Hp.le_trans lH3 lH4)), vhb4, hj4⟩
theorem HaulIn.at {H H' : Hp} {n : HN} {v : HV} (h : HaulIn H n v) (hl : H.le H') {hb : Nat} {jv : Value} (ho : H' hb = some (true, n.obj v jv)) (hj : SlI H' jv n.jobs) (hjb : ∀ i ∈ n.jobs, 0 <= i /\ i < n.xs.length) (hjl : n.jobs.length <= 1000) : HaulAt H' hb n v jv n.jobs :=
 ⟨⟨_, ho⟩, h.times.le hl, hj, h.b1, h.b4, h.n0, h.n30, h.ok.2.2, hjb, hjl⟩
theorem Drive_spec (main : Md) (H : Hp) (n : HN) (v : HV) (hd : HaulIn H n v) (pv : Value) (pl : List Nat) (hp : SlI H pv (pl.map fun m : Nat => (m : Int))) (hok : PlanOk n n.jobs.length pl) (hN : n.jobs.length <= 8) (hjb : ∀ i ∈ n.jobs, 0 <= i /\ i < n.xs.length) (mi : Int) (h1 : 1 <= mi) (h20 : mi <= 20) :
  FnX Tryz.prog main 32 #[n.agg v, pv, .int .i64 mi] H fun e H' => ∃ H0 rv, e = .returned (.tuple #[rv, .int .i64 0]) /\ H.le H0 /\ RowZ (Lex none) H0 H' rv 61 3 pl.length (rcells (ridesG n n.jobs mi pl bs0 0)) := by
 have hpS := hp
 obtain ⟨pa, pc, rfl, hpc, _⟩ := hp
 have hpd := fun H' h' (hp' : SlI H' (.slice pa (pl.map fun m : Nat => (m : Int)).length pc) _) => planned_spec main H' n v h' (.slice pa (pl.map fun m : Nat => (m : Int)).length pc) pl hp' hok (by omega) mi h1 h20
 have hpl := parts_len pl hok.p1
 have hps := hok.ps
 simp only [HN.agg] at hpd ⊢
 refine FnX_start Tryz.func32 rfl Tryz.ntmps32 (by simp) ?_
 (refine @unH _ ?_; refine zA y32_53 ?_; (repeat (refine inC ?_; intro hc)); try (refine inK ?_; intro K hK))
 (intro ab hab; generalize hG : Hp.set _ ab _ = H1; have lH1 := le_of_set hG hab; have vab := at_of_set hG; clear hG)
 have hd1 := hd.le lH1
 ((try (refine @unH _ ?_; refine zX y32_53 ?_)); (try (refine hK _ _ ?_; clear hK K; (try simp only [nq, ↓reduceIte, Nat.reduceEqDiff]))); refine @unH _ ?_; refine zA y32_53 ?_; (repeat (refine inC ?_; intro hc)); try (refine inK ?_; intro K hK))
 refine (hpd H1 hd1 (hpS.le lH1)).runs.mono ?_
 rintro _ H2 ⟨hb, jv, rfl, lH2, vhb, hj⟩
 have hat := hd1.at lH2 vhb hj hjb (by omega)
 ((try (refine @unH _ ?_; refine zX y32_53 ?_)); (try (refine hK _ _ ?_; clear hK K; (try simp only [nq, ↓reduceIte, Nat.reduceEqDiff]))); refine @unH _ ?_; refine zA y32_53 ?_; (repeat (refine inC ?_; intro hc)); try (refine inK ?_; intro K hK))
 refine (drive_spec main H2 hb n v jv n.jobs hat _ pl (hpS.le (Hp.le_trans lH1 lH2)) hok.p1 (by omega) (by omega) mi h1 h20).runs.mono ?_
 rintro _ H3 ⟨rv, rfl, hrow⟩
 ((try (refine @unH _ ?_; refine zX y32_53 ?_)); (try (refine hK _ _ ?_; clear hK K; (try simp only [nq, ↓reduceIte, Nat.reduceEqDiff]))); refine @unH _ ?_; refine zA y32_53 ?_; (repeat (refine inC ?_; intro hc)); try (refine inK ?_; intro K hK))
 (refine @unH _ ?_; refine zB Tryz.results32 ?_)
 exact ⟨H2, rv, rfl, Hp.le_trans lH1 lH2, by rw [<- dS_all]; exact hrow⟩
theorem Late_spec (main : Md) (H : Hp) (n : HN) (v : HV) (hd : HaulIn H n v) (pv : Value) (pl : List Nat) (hp : SlI H pv (pl.map fun m : Nat => (m : Int))) (hok : PlanOk n n.jobs.length pl) (hN : n.jobs.length <= 8) (hjb : ∀ i ∈ n.jobs, 0 <= i /\ i < n.xs.length) (mi : Int) (h1 : 1 <= mi) (h20 : mi <= 20) :
  FnX Tryz.prog main 34 #[n.agg v, pv, .int .i64 mi] H fun e H' => ∃ lv, e = .returned (.tuple #[lv, .int .i64 0]) /\ H.le H' /\ SlI H' lv (lateG n n.jobs mi pl bs0 0) := by
 have hpS := hp
 obtain ⟨pa, pc, rfl, hpc, _⟩ := hp
 have hpd := fun H' h' (hp' : SlI H' (.slice pa (pl.map fun m : Nat => (m : Int)).length pc) _) => planned_spec main H' n v h' (.slice pa (pl.map fun m : Nat => (m : Int)).length pc) pl hp' hok (by omega) mi h1 h20
 have hpl := parts_len pl hok.p1
 have hps := hok.ps
 simp only [HN.agg] at hpd ⊢
 refine FnX_start Tryz.func34 rfl Tryz.ntmps34 (by simp) ?_
 (refine @unH _ ?_; refine zA y34_53 ?_; (repeat (refine inC ?_; intro hc)); try (refine inK ?_; intro K hK))
 (intro ab hab; generalize hG : Hp.set _ ab _ = H1; have lH1 := le_of_set hG hab; have vab := at_of_set hG; clear hG)
 have hd1 := hd.le lH1
 ((try (refine @unH _ ?_; refine zX y34_53 ?_)); (try (refine hK _ _ ?_; clear hK K; (try simp only [nq, ↓reduceIte, Nat.reduceEqDiff]))); refine @unH _ ?_; refine zA y34_53 ?_; (repeat (refine inC ?_; intro hc)); try (refine inK ?_; intro K hK))
 refine (hpd H1 hd1 (hpS.le lH1)).runs.mono ?_
 rintro _ H2 ⟨hb, jv, rfl, lH2, vhb, hj⟩
 have hat := hd1.at lH2 vhb hj hjb (by omega)
 ((try (refine @unH _ ?_; refine zX y34_53 ?_)); (try (refine hK _ _ ?_; clear hK K; (try simp only [nq, ↓reduceIte, Nat.reduceEqDiff]))); refine @unH _ ?_; refine zA y34_53 ?_; (repeat (refine inC ?_; intro hc)); try (refine inK ?_; intro K hK))
 refine (late_hspec main H2 hb n v jv n.jobs hat _ pl (hpS.le (Hp.le_trans lH1 lH2)) hok.p1 (by omega) (by omega) mi h1 h20).runs.mono ?_
 rintro _ H3 ⟨rv, rfl, hrow⟩
 ((try (refine @unH _ ?_; refine zX y34_53 ?_)); (try (refine hK _ _ ?_; clear hK K; (try simp only [nq, ↓reduceIte, Nat.reduceEqDiff]))); refine @unH _ ?_; refine zA y34_53 ?_; (repeat (refine inC ?_; intro hc)); try (refine inK ?_; intro K hK))
 (refine @unH _ ?_; refine zB Tryz.results34 ?_)
 exact ⟨rv, rfl, Hp.le_trans lH1 (Hp.le_trans lH2 hrow.1.toLe), hrow.ints⟩
end Go.Proofs.YtofmadjgbcopdaaGreatDoor
end
section
namespace Go.X
open Go
open Go.Conc
section
variable {P : Program} {T : Goroutine -> Hp -> Prop} {γ : Gh}
theorem Fan.ctl {g g' : Goroutine} {H : Hp} (hs : g.status = .running) (h : ∀ w, stepG P true g w = .go g' w #[]) (hg : Fan P T γ g' H) : Fan P T γ g H :=
 .step (fun x y => x = g' /\ y = H) hs (fun w hw => ⟨g', w, #[], H, h w, .refl hw, rfl, rfl⟩) fun x y e => by obtain ⟨rfl, rfl⟩ := e; exact hg
def AfterF (P : Program) (T : Goroutine -> Hp -> Prop) (b : Frame) (k : List Item) (cs : List Frame) (γ : Gh) : Exit -> Act -> Hp -> Prop
 | .normal, a, H => Fan P T γ (G (fat b a k) cs) H
 | .exit id, a, H => ∀ k', exitTo id k' = exitTo id k -> Fan P T γ (G (fat b a (.code (.exit id) :: k')) cs) H
 | .goto l, a, H => ∀ k', gotoIn l k' = gotoIn l k -> Fan P T γ (G (fat b a (.code (.goto l) :: k')) cs) H
 | .ret, a, H => ∀ k', Fan P T γ (G (fat b a (.code .ret :: k')) cs) H
 | .panic ch, a, H => ∀ k', Fan P T γ (G { fat b a k' with mode := .panicking ch } cs) H
 | .outgrown, _, _ => False
theorem AfterF.push {b : Frame} {x : Item} {k : List Item} {cs : List Frame} {e : Exit} {a : Act} {H : Hp} (hx : x.plain = true) (he : e ≠ .normal)
  (h : AfterF P T b k cs γ e a H) : AfterF P T b (x :: k) cs γ e a H := by
 cases e with
 | normal => exact absurd rfl he
 | exit id => exact fun k' hk => h k' (hk.trans (by cases x <;> simp_all [exitTo, Item.plain]))
 | goto l => exact fun k' hk => h k' (hk.trans (by cases x <;> simp_all [gotoIn, Item.plain]))
 | ret => exact h
 | panic ch => exact h
 | outgrown => exact h
theorem AfterF.after {b : Frame} {k : List Item} {cs : List Frame} {e : Exit} {a : Act} {H : Hp} (h : AfterF P T b k cs γ e a H) : After P (.own true) (fun g H => Fan P T γ g H) b k cs e a H := by
 cases e with
 | normal => exact .stop h (Hp.le_refl _)
 | exit id => exact fun k' hk => .stop (h k' hk) (Hp.le_refl _)
 | goto l => exact fun k' hk => .stop (h k' hk) (Hp.le_refl _)
 | ret => exact fun k' => .stop (h k') (Hp.le_refl _)
 | panic ch => exact fun k' => .stop (h k') (Hp.le_refl _)
 | outgrown => exact h
end
abbrev Post3 := Gh -> Exit -> Act -> Hp -> Prop
def wpF (P : Program) (c : Code) (Q : Post3) (γ : Gh) (a : Act) (H : Hp) : Prop :=
 ∀ (b : Frame) (k : List Item) (cs : List Frame) (T : Goroutine -> Hp -> Prop), b.kind ≠ .early -> b.roundOf = none ->
  (∀ γ' e a' H', Q γ' e a' H' -> AfterF P T b k cs γ' e a' H') -> Fan P T γ (G (fat b a (.code c :: k)) cs) H
def opsF (P : Program) (ops : Array Oper) (todo : List Nat) (Q : Post3) (γ : Gh) (a : Act) (H : Hp) : Prop :=
 ∀ (b : Frame) (k : List Item) (cs : List Frame) (T : Goroutine -> Hp -> Prop), b.kind ≠ .early -> b.roundOf = none ->
  (∀ γ' e a' H', Q γ' e a' H' -> AfterF P T b k cs γ' e a' H') -> Fan P T γ (G (fat b a (.inRegion ops todo :: k)) cs) H
section
variable {P : Program} {γ : Gh} {Q : Post3} {a : Act} {H : Hp}
theorem wpF_own {c : Code} (h : wpX P (.own true) none c (Q γ) a H) : wpF P c Q γ a H := fun b k cs T hk hl hc =>
 WPG.walk (h b k cs (fun g H => Fan P T γ g H) hk hl fun e a' H' q => (hc γ e a' H' q).after) fun _ _ h => h
theorem opsF_own {ops : Array Oper} {todo : List Nat} (h : opsX P (.own true) none ops todo (Q γ) a H) : opsF P ops todo Q γ a H := fun b k cs T hk hl hc =>
 WPG.walk (h b k cs (fun g H => Fan P T γ g H) hk hl fun e a' H' q => (hc γ e a' H' q).after) fun _ _ h => h
theorem wpX_stretch {c : Code} {R : Exit -> Act -> Hp -> Prop} (h : wpF P c (fun γ e a H => γ = .idle /\ R e a H) .idle a H) : wpX P (.co P) none c R a H := fun b k cs Stop hk hl hc => by
 refine .phase (fun g H => WPG P (.co P) Stop g H) (h b k cs _ hk hl fun γ' e a' H' ⟨hγ, q⟩ => ?_) fun _ _ h => h
 subst hγ
 have := hc e a' H' q
 cases e with
 | normal => exact .stop this (Hp.le_refl _)
 | exit id => exact fun k' hk => .stop (this k' hk) (Hp.le_refl _)
 | goto l => exact fun k' hk => .stop (this k' hk) (Hp.le_refl _)
 | ret => exact fun k' => .stop (this k') (Hp.le_refl _)
 | panic ch => exact fun k' => .stop (this k') (Hp.le_refl _)
 | outgrown => exact this
theorem wpF_forget {c : Code} {n : Nat} {e : Nat -> Value} {ds : List Deferred} (p : (Nat -> Value) -> Prop) (hp : p e) (h : ∀ e, p e -> wpF P c Q γ (act n e ds) H) : wpF P c Q γ (act n e ds) H := h e hp
theorem wpF_opn {c : Code} {ch cap : Nat} (D : Nat -> Prop) (hc : H ch = some (true, .chan cap #[] false 0 0 false)) (hD : ∀ b, D b -> ∃ o, H b = some (true, o)) (h : wpF P c Q (.busy ch cap [] D) a (H.del ch)) : wpF P c Q .idle a H :=
 fun b k cs T hk hl hq => .opn hc hD (h b k cs T hk hl hq)
theorem wpF_close {c : Code} {ch cap : Nat} {D : Nat -> Prop} (G : Hp) (hG : ∀ b p o, G b = some (p, o) -> ∃ p', H b = some (p', o) /\ (p = true -> p' = true ∨ D b)) (h : ∀ n, wpF P c Q .idle a (G.set ch (.chan cap #[] false n n false))) : wpF P c Q (.busy ch cap [] D) a H :=
 fun b k cs T hk hl hq => .close hG fun n => h n b k cs T hk hl hq
theorem wpF_seq {x y : Code} (h : wpF P x (fun γ' => thn (fun a' H' => wpF P y Q γ' a' H') (Q γ')) γ a H) : wpF P (.seq x y) Q γ a H := by
 intro b k cs T hk hl hc
 refine .ctl (g' := G (fat b a (.code x :: .code y :: k)) cs) rfl (fun w => by simp [G, stepG, stepG.exec, fat]) ?_
 refine h b (.code y :: k) cs T hk hl fun γ' e a' H' q => ?_
 cases e with
 | normal => exact q b k cs T hk hl hc
 | exit id => exact (hc _ _ _ _ q).push rfl (by simp)
 | goto id => exact (hc _ _ _ _ q).push rfl (by simp)
 | ret => exact AfterF.push (x := .code y) (e := .ret) rfl (by simp) (hc _ _ _ _ q)
 | panic ch => exact AfterF.push (x := .code y) (e := .panic ch) rfl (by simp) (hc _ _ _ _ q)
 | outgrown => exact q.elim
theorem wpF_cond {c : Operand} {x y : Code} {t : Bool} (ht : a.eval c = .bool t) (h : wpF P (if t then x else y) Q γ a H) : wpF P (.cond c x y) Q γ a H := by
 intro b k cs T hk hl hc
 refine .ctl (g' := G (fat b a (.code (if t then x else y) :: k)) cs) rfl (fun w => ?_) (h b k cs T hk hl hc)
 have he : (fat b a (.code (.cond c x y) :: k)).eval c = .bool t := by rw [eval_fat]; exact ht
 simp only [fat] at he
 simp [G, stepG, stepG.exec, fat, he]
theorem wpF_skip (h : Q γ .normal a H) : wpF P .skip Q γ a H := fun b k cs _ _ _ hc =>
 .ctl (g' := G (fat b a k) cs) rfl (fun w => by simp [G, stepG, stepG.exec, fat]) (hc _ _ _ _ h)
theorem wpF_exit {id : Nat} (h : Q γ (.exit id) a H) : wpF P (.exit id) Q γ a H := fun _ k _ _ _ _ hc => hc _ _ _ _ h k rfl
theorem wpF_block {id : Nat} {c : Code} (h : wpF P c (fun γ' => blk id (Q γ')) γ a H) : wpF P (.block id c) Q γ a H := by
 intro b k cs T hk hl hc
 refine .ctl (g' := G (fat b a (.code c :: .inBlock id :: k)) cs) rfl (fun w => by simp [G, stepG, stepG.exec, fat]) ?_
 refine h b (.inBlock id :: k) cs T hk hl fun γ' e a' H' q => ?_
 cases e with
 | normal => exact .ctl (g' := G (fat b a' k) cs) rfl (fun w => by simp [G, stepG, stepG.exec, fat]) (hc _ _ _ _ q)
 | exit id' =>
  by_cases hid : id' = id
  ·simp only [blk, hid, if_true] at q
   subst hid
   intro k' hk'
   have hx : exitTo id' k' = some k := hk'.trans (by simp [exitTo])
   exact .ctl (g' := G (fat b a' k) cs) rfl (fun w => by simp [G, stepG, stepG.exec, fat, hx]) (hc _ _ _ _ q)
  ·simp only [blk, hid, if_false] at q
   have hn : (id == id') = false := by simp; exact fun h => hid h.symm
   exact fun k' hk' => hc _ _ _ _ q k' (hk'.trans (by simp [exitTo, hn]))
 | goto l => exact fun k' hk' => hc _ _ _ _ q k' (hk'.trans (by simp [gotoIn]))
 | ret => exact hc _ _ _ _ q
 | panic ch => exact hc _ _ _ _ q
 | outgrown => exact q.elim
theorem wpF_loop {c : Code} (I : Nat -> Gh -> Act -> Hp -> Prop) {n : Nat} (h₀ : I n γ a H)
  (round : ∀ n γ a H, I n γ a H -> wpF P c (fun γ' => thn (fun a' H' => ∃ n', n' < n /\ I n' γ' a' H') (Q γ')) γ a H) : wpF P (.loop c) Q γ a H := by
 intro b k cs T hk hl hc
 have key : ∀ n γ a H, I n γ a H -> Fan P T γ (G (fat b a (.code c :: .inLoop c :: k)) cs) H := by
  intro n
  induction n using Nat.strongRecOn with
  | _ n ih =>
   intro γ a H hI
   refine round n γ a H hI b (.inLoop c :: k) cs T hk hl fun γ' e a' H' q => ?_
   cases e with
   | normal =>
    obtain ⟨n', hlt, hI'⟩ := q
    exact .ctl (g' := G (fat b a' (.code c :: .inLoop c :: k)) cs) rfl (fun w => by simp [G, stepG, stepG.exec, fat]) (ih n' hlt γ' a' H' hI')
   | exit id => exact (hc _ _ _ _ q).push rfl (by simp)
   | goto id => exact (hc _ _ _ _ q).push rfl (by simp)
   | ret => exact AfterF.push (x := .inLoop c) (e := .ret) rfl (by simp) (hc _ _ _ _ q)
   | panic ch => exact AfterF.push (x := .inLoop c) (e := .panic ch) rfl (by simp) (hc _ _ _ _ q)
   | outgrown => exact q.elim
 exact .ctl (g' := G (fat b a (.code c :: .inLoop c :: k)) cs) rfl (fun w => by simp [G, stepG, stepG.exec, fat]) (key n γ a H h₀)
theorem wpF_region {id : Nat} {ops : Array Oper} (h : opsF P ops (List.range ops.size) Q γ a H) : wpF P (.region id ops false) Q γ a H :=
 fun b k cs T hk hl hc => .ctl (g' := G (fat b a (.inRegion ops (List.range ops.size) :: k)) cs) rfl (fun w => by simp [G, stepG, stepG.exec, fat]) (h b k cs T hk hl hc)
theorem opsF_nil {ops : Array Oper} (h : Q γ .normal a H) : opsF P ops [] Q γ a H := fun b k cs _ _ _ hc =>
 .ctl (g' := G (fat b a k) cs) rfl (fun w => by simp [G, stepG, stepG.exec, fat]) (hc _ _ _ _ h)
theorem opsF_cons {ops : Array Oper} {i : Nat} {rest : List Nat} {o : Oper} (ho : ops[i]? = some o) (hw : Region.wanted o (yielded ops a.tmps) = true)
  (h : opX P (.own true) none o a H (fun a' H' => opsF P ops rest Q γ a' H') (Q γ)) : opsF P ops (i :: rest) Q γ a H := by
 intro b k cs T hk hl hc
 have hk' : (b.kind == CallKind.early) = false := by simpa using hk
 have hfin : ∀ v, (fat b a (.inRegion ops (i :: rest) :: k)).finish v = fat b (a.put o.dst v) (.inRegion ops rest :: k) := fun v => by rw [finish_fat, ho]; rfl
 refine .step (fun g' H' => Fan P T γ g' H') rfl (fun w hs => ?_) fun _ _ h => h
 have hst := stepG_op (main := .own true) (P := P) (b := b) (k := k) (cs := cs) (w := w) (a := a) (rest := rest) ho hw (.inl hl)
 rw [show stepG P true _ w = _ from hst]
 obtain ⟨es, w', H', hm, r, hr, hd'⟩ := wpS_sound _ w hs h
 have hm' : Moves H w (seen P b.fn es) H' w' := hm.seen b.fn
 have hr0 : (execOp a.eval o).runT P w #[] = (r, es) := by rw [hr #[]]; simp
 rcases hd' with ⟨x, rfl, hx⟩ | ⟨v, rfl, hv⟩
 ·cases x with
  | value v =>
   refine ⟨G (fat b (a.put o.dst v) (.inRegion ops rest :: k)) cs, w', seen P b.fn es, H', ?_, hm', hx b k cs T hk hl hc⟩
   rw [<- hfin]
   simp [stepG.apply, hr0, G, fat, hk', GStep.after, -Sem.runT_eq]
  | skip =>
   refine ⟨G (fat b (a.put o.dst undef) (.inRegion ops rest :: k)) cs, w', seen P b.fn es, H', ?_, hm', hx b k cs T hk hl hc⟩
   rw [<- hfin]
   simp [stepG.apply, hr0, G, fat, hk', GStep.after, -Sem.runT_eq]
  | defer d =>
   refine ⟨G (fat b ({ a with defers := d :: a.defers }.put o.dst undef) (.inRegion ops rest :: k)) cs, w', seen P b.fn es, H', ?_, hm', hx.2 b k cs T hk hl hc⟩
   have : ({ fat b a (.inRegion ops (i :: rest) :: k) with defers := d :: a.defers } : Frame).finish undef = fat b ({ a with defers := d :: a.defers }.put o.dst undef) (.inRegion ops rest :: k) := by
    have := finish_fat b { a with defers := d :: a.defers } ops i rest k undef
    rw [ho] at this
    exact this
   rw [<- this]
   simp [stepG.apply, hr0, G, fat, hk', GStep.after, -Sem.runT_eq]
  | enter f args =>
   refine ⟨G (Frame.enter P f args .normal) (fat b a (.inRegion ops (i :: rest) :: k) :: cs), w', seen P b.fn es, H', ?_, hm', ?_⟩
   ·simp [stepG.apply, hr0, G, fat, hk', GStep.after, -Sem.runT_eq]
   ·refine WPG.walk (hx _ _ (fun g H => Fan P T γ g H) (fun v H₁ r => ?_) fun ch H₁ r => ?_) fun _ _ h => h
    ·rw [hfin]; exact .stop (r b k cs T hk hl hc) (Hp.le_refl _)
    ·exact .stop ((hc _ (.panic ch) a H₁ r) _) (Hp.le_refl _)
  | round l f tmps ars body =>
   refine ⟨G (Frame.round l f tmps ars body .normal) (fat b a (.inRegion ops (i :: rest) :: k) :: cs), w', seen P b.fn es, H', ?_, hm', ?_⟩
   ·simp [stepG.apply, hr0, G, fat, hk', GStep.after, -Sem.runT_eq]
   ·refine WPG.walk (hx _ _ (fun g H => Fan P T γ g H) (fun v H₁ r => ?_) fun ch H₁ r => ?_) fun _ _ h => h
    ·rw [hfin]; exact .stop (r b k cs T hk hl hc) (Hp.le_refl _)
    ·exact .stop ((hc _ (.panic ch) a H₁ r) _) (Hp.le_refl _)
  | _ => exact hx.elim
 ·refine ⟨G { fat b a (.inRegion ops (i :: rest) :: k) with mode := .panicking [{ v, recovered := false }] } cs, w', seen P b.fn es, H', ?_, hm', hc _ (.panic _) a H' hv _⟩
  simp [stepG.apply, hr0, G, fat, hk', GStep.after, Frame.raise, -Sem.runT_eq]
theorem stepX_spawn {main : Md} {b : Frame} {k : List Item} {cs : List Frame} {w : World} {ops : Array Oper} {i : Nat} {rest : List Nat} {o : Oper} {d : Deferred} {f : Fn} {c : Array Value} (ho : ops[i]? = some o) (hw : Region.wanted o (yielded ops a.tmps) = true)
  (hk : b.kind ≠ .early) (hl : b.roundOf = none) (hr : (execOp a.eval o).runT P w #[] = (.ok (.spawn d) w, #[])) (hd : d.target = .fn f c) :
  stepG P main (G (fat b a (.inRegion ops (i :: rest) :: k)) cs) w = .spawn (G (fat b (a.put o.dst undef) (.inRegion ops rest :: k)) cs) (born P d) w #[] := by
 have hk' : (b.kind == CallKind.early) = false := by simpa using hk
 have hfin : (fat b a (.inRegion ops (i :: rest) :: k)).finish undef = fat b (a.put o.dst undef) (.inRegion ops rest :: k) := by rw [finish_fat, ho]; rfl
 rw [stepG_op ho hw (.inl hl), <- hfin]
 simp [stepG.apply, hr, G, fat, hk', GStep.after, born, hd, seen_none, -Sem.runT_eq]
theorem stepX_comm {main : Md} {b : Frame} {k : List Item} {cs : List Frame} {w : World} {ops : Array Oper} {i : Nat} {rest : List Nat} {o : Oper} {cases : Array CommCase} {bl : Bool} {shape : CommShape} (ho : ops[i]? = some o) (hw : Region.wanted o (yielded ops a.tmps) = true)
  (hk : b.kind ≠ .early) (hl : b.roundOf = none) (hr : (execOp a.eval o).runT P w #[] = (.ok (.comm cases bl shape) w, #[])) :
  stepG P main (G (fat b a (.inRegion ops (i :: rest) :: k)) cs) w = .comm (G (fat b a (.inRegion ops (i :: rest) :: k)) cs) cases bl shape w #[] := by
 have hk' : (b.kind == CallKind.early) = false := by simpa using hk
 rw [stepG_op ho hw (.inl hl)]
 simp [stepG.apply, hr, G, fat, hk', GStep.after, seen_none, -Sem.runT_eq]
theorem opsF_go {ops : Array Oper} {i : Nat} {rest : List Nat} {o : Oper} {d : Deferred} {f : Fn} {cap' : Array Value} {c cap : Nat} {D : Nat -> Prop} {L : List Value} {v : Value} {H' Hc : Hp} (ho : ops[i]? = some o) (hw : Region.wanted o (yielded ops a.tmps) = true)
  (hr : ∀ w, Sat H w -> (execOp a.eval o).runT P w #[] = (.ok (.spawn d) w, #[])) (hd : d.target = .fn f cap') (hl : L.length < cap)
  (hc : ∀ b p o, Hc b = some (p, o) -> p = false /\ H' b = some (false, o)) (hH : ∀ b p o, H' b = some (p, o) -> ∃ p', H b = some (p', o) /\ (p = true -> p' = true))
  (hwk : WPG P (.own false) (AtSend P c v) (born P d) Hc) (hn : opsF P ops rest Q (.busy c cap (v :: L) D) (a.put o.dst undef) H') : opsF P ops (i :: rest) Q (.busy c cap L D) a H :=
 fun b k cs T hk hl' hq => .spawn rfl (fun w hs => stepX_spawn (main := .own true) ho hw hk hl' (hr w hs) hd) hl hc hH hwk.oth (hn b k cs T hk hl' hq)
theorem fin_fat {b : Frame} {k : List Item} {cs : List Frame} {ops : Array Oper} {i : Nat} {rest : List Nat} {o : Oper} (ho : ops[i]? = some o) (cases : Array CommCase) (shape : CommShape) (j : Int) (v : Value) (ok : Bool) :
  (G (fat b a (.inRegion ops (i :: rest) :: k)) cs).finishComm P cases shape j v ok = G (fat b (a.put o.dst (commResult cases shape j v ok)) (.inRegion ops rest :: k)) cs := by
 have hfin : ∀ v, (fat b a (.inRegion ops (i :: rest) :: k)).finish v = fat b (a.put o.dst v) (.inRegion ops rest :: k) := fun v => by rw [finish_fat, ho]; rfl
 simp [Goroutine.finishComm, G, hfin]
theorem res0 (c e : Nat) (z z' v : Value) (ok : Bool) : commResult #[rcase c z, rcase e z'] .select 0 v ok = .tuple #[goInt 0, .bool ok, v, z'] := by
 simp [commResult, rcase, List.zipIdx, List.filter]
theorem res1 (c e : Nat) (z z' v : Value) (ok : Bool) : commResult #[rcase c z, rcase e z'] .select 1 v ok = .tuple #[goInt 1, .bool ok, z, v] := by
 simp [commResult, rcase, List.zipIdx, List.filter]
theorem opsF_select {ops : Array Oper} {i : Nat} {rest : List Nat} {o : Oper} {c cap e s r : Nat} {D : Nat -> Prop} {L : List Value} {z z' : Value} (ho : ops[i]? = some o) (hw : Region.wanted o (yielded ops a.tmps) = true) (hL : L ≠ [])
  (hr : ∀ w, Sat H w -> (execOp a.eval o).runT P w #[] = (.ok (.comm #[rcase c z, rcase e z'] true .select) w, #[])) (he : H e = some (true, .chan 0 #[] false s r false))
  (hn : ∀ v L', L.Perm (v :: L') -> opsF P ops rest Q (.busy c cap L' D) (a.put o.dst (.tuple #[goInt 0, .bool true, v, z'])) H) : opsF P ops (i :: rest) Q (.busy c cap L D) a H :=
 fun b k cs T hk hl' hq => .recv rfl hL (fun w hs => stepX_comm (main := .own true) ho hw hk hl' (hr w hs)) he fun v L' hp => by
  rw [fin_fat ho, res0]
  exact hn v L' hp b k cs T hk hl' hq
theorem opsF_shut {ops : Array Oper} {i : Nat} {rest : List Nat} {o : Oper} {c cap e s r : Nat} {D : Nat -> Prop} {z z' : Value} (ho : ops[i]? = some o) (hw : Region.wanted o (yielded ops a.tmps) = true)
  (hr : ∀ w, Sat H w -> (execOp a.eval o).runT P w #[] = (.ok (.comm #[rcase c z, rcase e z'] true .select) w, #[])) (he : H e = some (true, .chan 0 #[] true s r false))
  (hn : opsF P ops rest Q (.busy c cap [] D) (a.put o.dst (.tuple #[goInt 1, .bool false, z, z'])) H) : opsF P ops (i :: rest) Q (.busy c cap [] D) a H :=
 fun b k cs T hk hl' hq => .shut rfl (fun w hs => stepX_comm (main := .own true) ho hw hk hl' (hr w hs)) he (by
  rw [fin_fat ho, res1]
  exact hn b k cs T hk hl' hq)
end
end Go.X
end
