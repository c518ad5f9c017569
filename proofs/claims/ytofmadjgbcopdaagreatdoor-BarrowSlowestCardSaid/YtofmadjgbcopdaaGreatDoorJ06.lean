/- Texts Drv Fine Range Iter Plans Mono Count Like Late. -/
import Derived.Test.YtofmadjgbcopdaaGreatDoorJ05
set_option linter.defProp false
set_option linter.unusedSimpArgs false
set_option linter.unusedVariables false
set_option maxRecDepth 100000
set_option maxHeartbeats 2000000
section
namespace Go.Proofs.YtofmadjgbcopdaaGreatDoor
open Go Go.X
def y75_44 := And.intro @callF116 (And.intro (fun H => ex_alloc (H := H) (P := Tryz.prog) (h := Tryz.zeroValue145)) (And.intro (fun H => storeAt_agg (H := H) Tryz.sizeOf145) (And.intro (fun H => len_slice (H := H) Tryz.underlying22) (And.intro (fun H => indexAt_slice (H := H) Tryz.underlying22 Tryz.sizeOf3) (And.intro (fun H => loadAt_one (H := H) Tryz.underlying3 rfl) (And.intro (fun H => ex_alloc (H := H) (P := Tryz.prog) (h := Tryz.zeroValue61)) (And.intro (fun H => loadAt_aggE (H := H) Tryz.underlying145 rfl Tryz.sizeOf145) (And.intro @callF117 (And.intro (fun H => storeAt_agg (H := H) Tryz.sizeOf61) (And.intro (fun H => loadAt_aggE (H := H) Tryz.underlying61 rfl Tryz.sizeOf61) (fun H => buildSlice_agg1 (H := H) Tryz.underlying45 Tryz.sizeOf61 Tryz.zeroValue61 rfl (by decide) (by decide))))))))))))
theorem z0_44 {p q : Prop} (g : q) (h : Hid q -> p := by
 intro g
 repeat' (first
 | (refine wpX_stmtL rfl ?_; intro Kz hKz; simp -implicitDefEqProofs (disch := first | omega | (simp only [qd] <;> omega)) only [xq, ↓xp, qc, Nat.reduceAdd, List.range, List.range.loop, fine, Nat.reduceEqDiff, ↓reduceIte, yielded, reduceCtorEq, Nat.reduceLT, Nat.reduceMul, Nat.reduceSub, one, Nat.reduceLeDiff, runX_cons, y75_44, aq, ↓ap, qe0, qe1, qe2, *, -g, -hKz, storL_at hne2 vbb5']; try (refine hKz _ _ ?_; clear hKz Kz))
 | (refine wpX_lastL rfl ?_; intro Kz hKz; simp -implicitDefEqProofs (disch := first | omega | (simp only [qd] <;> omega)) only [xq, ↓xp, qc, Nat.reduceAdd, List.range, List.range.loop, fine, Nat.reduceEqDiff, ↓reduceIte, yielded, reduceCtorEq, Nat.reduceLT, Nat.reduceMul, Nat.reduceSub, one, Nat.reduceLeDiff, runX_cons, y75_44, aq, ↓ap, qe0, qe1, qe2, *, -g, -hKz, storL_at hne2 vbb5']; try (refine hKz _ _ ?_; clear hKz Kz; (try simp only [nq, ↓reduceIte, Nat.reduceEqDiff])))
 | (refine wpX_skip ?_; (try simp only [nq, ↓reduceIte, Nat.reduceEqDiff]))
 | (refine wpX_label ?_; (try simp only [nq, ↓reduceIte, Nat.reduceEqDiff]))
 | (refine wpX_exit ?_; (try simp only [nq, ↓reduceIte, Nat.reduceEqDiff]))
 | (refine wpX_goto ?_; (try simp only [nq, ↓reduceIte, Nat.reduceEqDiff]))
 | (refine wpX_condK (by simp only [act_eval, upd_get, Nat.reduceEqDiff, Nat.reduceLT, ↓reduceIte, *, -g]; rfl) ?_ ?_ <;> (intro hcz; first | (exfalso; simp -implicitDefEqProofs (disch := omega) only [*, -g, bq, reduceCtorEq] at hcz; done) | (simp only [dq, qe3, qe4, qe5, qe6] at hcz) | skip))
 | (refine wpX_scope0 ?_)
 | (refine wpX_block ?_)
 | (refine wpX_seq ?_))
 (try (revert Kz; refine unK ?_)); (repeat (revert hcz; refine unC ?_))
 exact Hid.out g) : Hid p := ⟨h ⟨g⟩⟩
theorem x1_44 {p q : Prop} (g : q) (h : Hid q -> p := by
 intro g
 simp -implicitDefEqProofs (disch := first | omega | (simp only [qd] <;> omega)) only [xq, ↓xp, qc, Nat.reduceAdd, List.range, List.range.loop, fine, Nat.reduceEqDiff, ↓reduceIte, yielded, reduceCtorEq, Nat.reduceLT, Nat.reduceMul, Nat.reduceSub, one, Nat.reduceLeDiff, runX_cons, y75_44, aq, ↓ap, qe0, qe1, qe2, *, -g, -hK, storL_at hne2 vbb5']
 exact Hid.out g) : Hid p := ⟨h ⟨g⟩⟩
def dS (n : HN) (js : List Int) (mi : Int) (pl : List Nat) : Nat -> List Int × Nat × List RideV
 | 0 => (List.replicate 4 (-1048576), 0, [])
 | k + 1 =>
  let s := dS n js mi pl k
  let r := rideF n js s.1 s.2.1 (pl.getD k 0) mi
  (s.1.set (pickB s.1 n.barrows.toNat) r.back, s.2.1 + pl.getD k 0, s.2.2 ++ [r])
theorem dS_ok (n : HN) (js : List Int) (mi : Int) (pl : List Nat) (hx : ∀ x ∈ n.xs, 0 <= x /\ x <= 99) (n0 : 0 <= n.notice) (b1 : 1 <= n.barrows) (b4 : n.barrows <= 4) (h1 : 1 <= mi) (h2 : mi <= 20) : ∀ k, k <= pl.length ->
  (dS n js mi pl k).1.length = 4 /\ (∀ x ∈ (dS n js mi pl k).1, -1048576 <= x /\ x <= 100 + 20 * k) /\ (dS n js mi pl k).2.1 = (pl.take k).sum /\ (dS n js mi pl k).2.2.length = k
 | 0, _ => by simp [dS]
 | k + 1, hk => by
  obtain ⟨i1, i2, i3, i4⟩ := dS_ok n js mi pl hx n0 b1 b4 h1 h2 k (by omega)
  have hpl := pickB_lt (dS n js mi pl k).1 n.barrows.toNat (by omega)
  have hg : pl.getD k 0 = pl[k]'(by omega) := by simp [List.getD, List.getElem?_eq_getElem (show k < pl.length by omega)]
  have hB : -1048576 <= (dS n js mi pl k).1.getD (pickB (dS n js mi pl k).1 n.barrows.toNat) 0 /\ (dS n js mi pl k).1.getD (pickB (dS n js mi pl k).1 n.barrows.toNat) 0 <= 100 + 20 * k := by
   simp [List.getD, List.getElem?_eq_getElem (show pickB (dS n js mi pl k).1 n.barrows.toNat < (dS n js mi pl k).1.length by omega)]
   exact i2 _ (List.getElem_mem _)
  have hdue : ∀ j, n.due js j <= 99 := fun j => by
   unfold HN.due
   by_cases hl : (js.getD j 0).toNat < n.xs.length
   ·simp [List.getD, List.getElem?_eq_getElem (show (js[j]?.getD 0).toNat < n.xs.length by simpa [List.getD] using hl)]
    exact (hx _ (List.getElem_mem _)).2
   ·simp [List.getD, List.getElem?_eq_none (show n.xs.length <= (js[j]?.getD 0).toNat by simpa [List.getD] using (by omega : n.xs.length <= (js.getD j 0).toNat))]
  refine ⟨by simp [dS, i1], fun x hx' => ?_, ?_, by simp [dS, i4]⟩
  ·simp only [dS] at hx'
   rcases List.mem_or_eq_of_mem_set hx' with h | h
   ·have := i2 x h; omega
   ·subst h
    simp only [rideF]
    have := hdue ((dS n js mi pl k).2.1 + pl.getD k 0 - 1)
    rw [Int.max_def]
    split <;> omega
  ·simp only [dS, i3, hg]
   rw [List.take_add_one, List.getElem?_eq_getElem (show k < pl.length by omega), List.sum_append]
   rfl
def rcells (rs : List RideV) : List Value := rs.flatMap fun r => [.int .i64 r.barrow, .int .i64 r.out, .int .i64 r.back]
theorem rcells_app (rs : List RideV) (r : RideV) : rcells (rs ++ [r]) = rcells rs ++ [.int .i64 r.barrow, .int .i64 r.out, .int .i64 r.back] := by simp [rcells]
theorem rowZ_keep {t : Option Nat} {H₀ H H' : Hp} {v : Value} {e : TypeId} {sz n : Nat} {cs : List Value} (h : RowZ (Lex t) H₀ H v e sz n cs) (hk : ∀ x, rowB v = some x -> ∀ u, H x = some u -> H' x = some u) (hl : Lex t H₀ H') : RowZ (Lex t) H₀ H' v e sz n cs := by
 refine ⟨hl, h.2.imp id ?_⟩
 rintro ⟨b, c, cap, h0, hb, rfl, h3⟩
 exact ⟨b, c, cap, h0, hk b rfl _ hb, rfl, h3⟩
theorem rowZ_at {t : Option Nat} {H₀ H : Hp} {v : Value} {e : TypeId} {sz n : Nat} {cs : List Value} (h : RowZ (Lex t) H₀ H v e sz n cs) {x : Nat} (hx : rowB v = some x) : H₀ x = none /\ ∃ c, H x = some (true, .cells c e (0, 0)) := by
 rcases h.2 with ⟨rfl, _⟩ | ⟨b, c, cap, h0, hb, rfl, _⟩
 ·cases hx
 ·simp only [rowB, Option.some.injEq] at hx
  subst hx
  exact ⟨h0, _, hb⟩
theorem rowZ_len {t : Option Nat} {H₀ H : Hp} {v : Value} {e : TypeId} {sz n : Nat} {cs : List Value} (h : RowZ (Lex t) H₀ H v e sz n cs) : ∃ a cap, v = .slice a n cap := by
 rcases h.2 with ⟨rfl, rfl, _⟩ | ⟨b, c, cap, h0, hb, rfl, _⟩
 ·exact ⟨_, _, rfl⟩
 ·exact ⟨_, _, rfl⟩
theorem drive_spec (main : Md) (H : Hp) (hb : Nat) (n : HN) (v : HV) (jv : Value) (js : List Int) (hh : HaulAt H hb n v jv js) (pv : Value) (pl : List Nat) (hp : SlI H pv (pl.map fun m : Nat => (m : Int))) (hp1 : ∀ m ∈ pl, 1 <= m) (hps : pl.sum <= js.length) (hpl : pl.length <= 1000) (mi : Int) (hm1 : 1 <= mi) (hm2 : mi <= 20) :
  FnX Tryz.prog main 75 #[.pointer (some ⟨hb, 0, none⟩), pv, .int .i64 mi] H fun e H' => ∃ rv, e = .returned rv /\ RowZ (Lex none) H H' rv 61 3 pl.length (rcells (dS n js mi pl pl.length).2.2) := by
 have hpS := hp
 obtain ⟨pa, pc, rfl, hpc, _⟩ := hp
 have hjl := hh.jl
 simp only [List.length_map] at hpc
 simp only [List.length_map]
 refine FnX_start Tryz.func75 rfl Tryz.ntmps75 (by simp) ?_
 (refine @unH _ ?_; refine zA y75_44 ?_; (repeat (refine inC ?_; intro hc)); try (refine inK ?_; intro K hK))
 refine (resting_spec main H).runs.mono ?_
 rintro _ H1 ⟨rfl, lH1⟩
 have hr4 : ints (List.replicate 4 (-1048576)) = [.int .i64 (-1048576), .int .i64 (-1048576), .int .i64 (-1048576), .int .i64 (-1048576)] := rfl
 rw [hr4]
 ((try (refine @unH _ ?_; refine zX y75_44 ?_)); (try (refine hK _ _ ?_; clear hK K; (try simp only [nq, ↓reduceIte, Nat.reduceEqDiff]))); refine @unH _ ?_; refine zA y75_44 ?_; (repeat (refine inC ?_; intro hc)); try (refine inK ?_; intro K hK))
 (intro bb hbb; generalize hG : Hp.set _ bb _ = H2; have lH2 := le_of_set hG hbb; have vbb := at_of_set hG; clear hG)
 have hh2 := hh.le (Hp.le_trans lH1 lH2)
 have hp2 := hpS.le (Hp.le_trans lH1 lH2)
 have h0bb : H bb = none := Hp.le_none lH1 hbb
 ((try (refine @unH _ ?_; refine zX y75_44 ?_)); (try (refine hK _ _ ?_; clear hK K; (try simp only [nq, ↓reduceIte, Nat.reduceEqDiff]))); refine @unH _ ?_; refine zA y75_44 ?_; (repeat (refine inC ?_; intro hc)); try (refine inK ?_; intro K hK))
 have hdok := dS_ok n js mi pl hh.xb hh.n0 hh.b1 hh.b4 hm1 hm2
 have lx2 : Lex none H H2 := Lex.of (Hp.le_trans lH1 lH2)
 refine wpX_loop (fun w a' H' => ∃ e k rv, w = pl.length - k /\ k <= pl.length /\ a' = act 38 e [] /\ e 0 = .pointer (some ⟨hb, 0, none⟩) /\ e 2 = .int .i64 mi /\ e 7 = rv /\ e 8 = .pointer (some ⟨bb, 0, none⟩) /\ e 9 = .int .i64 ((dS n js mi pl k).2.1 : Nat) /\ e 14 = .slice pa pl.length pc /\ e 15 = .int .i64 pl.length /\ e 16 = .int .i64 (k : Nat) /\
  RowZ (Lex none) H H' rv 61 3 k (rcells (dS n js mi pl k).2.2) /\ H' bb = some (true, .cells (ints (dS n js mi pl k).1).toArray 145 (0, 0))) (n := pl.length) ?_ ?_
 ·exact ⟨_, 0, .slice none 0 0, rfl, by omega, rfl, rfl, rfl, rfl, rfl, rfl, rfl, rfl, rfl, ⟨lx2, .inl ⟨rfl, rfl, rfl⟩⟩, vbb⟩
 ·clear lx2 hh2 hp2 vbb lH1 lH2 hbb
  rintro w a' H3 ⟨e, k, rv, rfl, hk, rfl, e0, e2, e7, e8, e9, e14, e15, e16, hrow, vbb⟩
  have hh3 := hh.le hrow.1.toLe
  have hp3 := hpS.le hrow.1.toLe
  by_cases hlt : k < pl.length
  ·obtain ⟨i1, i2, i3, i4⟩ := hdok k hk
   have hdef : dS n js mi pl (k + 1) = ((dS n js mi pl k).1.set (pickB (dS n js mi pl k).1 n.barrows.toNat) (rideF n js (dS n js mi pl k).1 (dS n js mi pl k).2.1 (pl.getD k 0) mi).back, (dS n js mi pl k).2.1 + pl.getD k 0, (dS n js mi pl k).2.2 ++ [rideF n js (dS n js mi pl k).1 (dS n js mi pl k).2.1 (pl.getD k 0) mi]) := rfl
   have hg : pl.getD k 0 = pl[k] := by simp [List.getD, List.getElem?_eq_getElem hlt]
   have hsum : (pl.take (k + 1)).sum <= pl.sum := by
    have h9 : pl.sum = (pl.take (k + 1)).sum + (pl.drop (k + 1)).sum := by rw [<- List.sum_append, List.take_append_drop]
    omega
   rw [List.take_add_one, List.getElem?_eq_getElem hlt, List.sum_append] at hsum
   have hs1 : [pl[k]].sum = pl[k] := by simp
   have hsum' : (pl.take k).sum + pl[k] <= pl.sum := by rw [<- hs1]; exact hsum
   have hmk := hp1 _ (List.getElem_mem hlt)
   obtain ⟨b, o, cap', p, c, fr, hve, _, hb', hx⟩ := hp3.cons (fun h => absurd (congrArg List.length h) (by simp only [List.length_nil, List.length_map]; omega))
   cases hve
   have hxk := hx k (pl[k] : Nat) (by rw [List.getElem?_map, List.getElem?_eq_getElem hlt]; rfl)
   rw [hg] at hdef
   generalize pl[k] = mk at hdef hsum' hmk hxk
   generalize hD1 : dS n js mi pl (k + 1) = D1 at hdef
   generalize dS n js mi pl k = D at hdef e9 hrow vbb i1 i2 i3 i4
   obtain ⟨bs, f, rs⟩ := D
   simp only [] at hdef e9 hrow vbb i1 i2 i3 i4
   replace i3 : f <= (pl.take k).sum /\ (pl.take k).sum <= f := by omega
   clear hsum hs1 hg hx
   have hli : (ints bs).length = 4 := by rw [ints_len]; exact i1
   have htk4 : (ints bs).take 4 = ints bs := List.take_of_length_le (by omega)
   (refine @unH _ ?_; refine zA y75_44 ?_; (repeat (refine inC ?_; intro hc)); try (refine inK ?_; intro K hK))
   (intro cb hcb; generalize hG : Hp.set _ cb _ = H4; have lH4 := le_of_set hG hcb; have vcb := at_of_set hG; clear hG)
   have vbb4 := lH4 _ _ vbb
   have hh4 := hh3.le lH4
   have ncb : cb ≠ bb := (ne_new vbb hcb).symm
   have ncb' := ncb.symm
   have hrow4 := rowZ_keep hrow (fun x _ u hu => lH4 _ _ hu) (hrow.1.le lH4)
   have ncr : rowB rv ≠ some cb := fun h9 => by obtain ⟨_, c9, h9'⟩ := rowZ_at hrow h9; rw [hcb] at h9'; cases h9'
   have nbr : rowB rv ≠ some bb := fun h9 => by obtain ⟨_, c9, h9'⟩ := rowZ_at hrow h9; rw [vbb] at h9'; cases h9'
   have h0cb : H cb = none := hrow.1.gone hcb
   clear hh3 hp3 hb' hxk vbb hrow hcb
   ((try (refine @unH _ ?_; refine zX y75_44 ?_)); (try (refine hK _ _ ?_; clear hK K; (try simp only [nq, ↓reduceIte, Nat.reduceEqDiff]))); refine @unH _ ?_; refine zA y75_44 ?_; (repeat (refine inC ?_; intro hc)); try (refine inK ?_; intro K hK))
   refine (ride_spec main H4 hb n v jv js hh4 bs i1 (fun x hx => by have := i2 x hx; omega) f mk hmk (by omega) mi hm1 hm2).runs.mono ?_
   rintro _ H5 ⟨rfl, lH5⟩
   generalize hR : rideF n js bs f mk mi = R at *
   have hbl : (bs.set (pickB bs n.barrows.toNat) R.back).length = 4 := by rw [List.length_set]; exact i1
   generalize bs.set (pickB bs n.barrows.toNat) R.back = bs2 at *
   have vcb5 := lH5 _ _ vcb
   have vbb5 := lH5 _ _ vbb4
   have hrow5 := rowZ_keep hrow4 (fun x _ u hu => lH5 _ _ hu) (hrow4.1.le lH5)
   clear vcb vbb4 hrow4 hh4 hR lH5 lH4
   have hli2 : (ints bs2).length = 4 := by rw [ints_len]; exact hbl
   have hne2 : ints bs2 ≠ [] := fun h => by rw [h] at hli2; cases hli2
   have hone : (ints bs2).all one = true := List.all_eq_true.2 (ints_one _)
   have hov : over (ints bs).toArray 0 (ints bs2) = (ints bs2).toArray := over_all (by rw [hli, hli2])
   have vbb5' : (H5.set cb (.cells #[.int .i64 R.barrow, .int .i64 R.out, .int .i64 R.back] 61 (0, 0))) bb = _ := (set_ne ncb').trans vbb5
   simp only [RideV.agg]
   ((try (refine @unH _ ?_; refine x1_44 ?_)); (try (refine hK _ _ ?_; clear hK K; (try simp only [nq, ↓reduceIte, Nat.reduceEqDiff]))); refine @unH _ ?_; refine z0_44 ?_; (repeat (refine inC ?_; intro hc)); try (refine inK ?_; intro K hK))
   intro g hg
   replace hg : ((H5.set cb (.cells #[.int .i64 R.barrow, .int .i64 R.out, .int .i64 R.back] 61 (0, 0))).set bb (.cells (ints bs2).toArray 145 (0, 0))) g = none := hg
   have vbb6 : ((H5.set cb (.cells #[.int .i64 R.barrow, .int .i64 R.out, .int .i64 R.back] 61 (0, 0))).set bb (.cells (ints bs2).toArray 145 (0, 0))) bb = some (true, .cells (ints bs2).toArray 145 (0, 0)) := set_at
   have lx6 : Lex none H ((H5.set cb (.cells #[.int .i64 R.barrow, .int .i64 R.out, .int .i64 R.back] 61 (0, 0))).set bb (.cells (ints bs2).toArray 145 (0, 0))) := (hrow5.1.own h0cb).own h0bb
   have hrow6 := rowZ_keep hrow5 (fun x hx u hu => by rw [set_ne (fun h9 => nbr (by rw [<- h9]; exact hx)), set_ne (fun h9 => ncr (by rw [<- h9]; exact hx))]; exact hu) lx6
   generalize (H5.set cb (.cells #[.int .i64 R.barrow, .int .i64 R.out, .int .i64 R.back] 61 (0, 0))).set bb (.cells (ints bs2).toArray 145 (0, 0)) = H6 at *
   refine append_rowZ Tryz.underlying45 Tryz.sizeOf61 Tryz.zeroValue61 rfl Tryz.typeInfo61 (by decide) (by decide) hrow6 (ws := [.int .i64 R.barrow, .int .i64 R.out, .int .i64 R.back]) rfl hg (by simp [one]) (by omega) _ _ _ _ (fun rv' H7 hrow7 hkeep hnew => ?_)
   have vbb7 := hkeep bb _ vbb6 nbr
   rw [<- rcells_app] at hrow7
   clear hrow6 hrow5 lx6 vbb6 hkeep hnew hov hone hne2 vbb5' vbb5 vcb5
   ((try (refine @unH _ ?_; refine zX y75_44 ?_)); (try (refine hK _ _ ?_; clear hK K; (try simp only [nq, ↓reduceIte, Nat.reduceEqDiff]))); refine @unH _ ?_; refine zA y75_44 ?_; (repeat (refine inC ?_; intro hc)); try (refine inK ?_; intro K hK))
   refine ⟨_, by omega, _, k + 1, rv', rfl, hlt, rfl, e0, e2, rfl, e8, ?_, e14, e15, rfl, ?_, ?_⟩
   ·rw [hD1, hdef]; rfl
   ·rw [hD1, hdef]; exact hrow7
   ·rw [hD1, hdef]; exact vbb7
  ·obtain rfl : k = pl.length := by omega
   (refine @unH _ ?_; refine zA y75_44 ?_; (repeat (refine inC ?_; intro hc)); try (refine inK ?_; intro K hK))
   (refine @unH _ ?_; refine z9 Tryz.results75 ?_)
   exact ⟨rv, rfl, hrow⟩
end Go.Proofs.YtofmadjgbcopdaaGreatDoor
end
section
namespace Go.Proofs.YtofmadjgbcopdaaGreatDoor
open Go Go.X
def y100_45 := And.intro @callF75 (And.intro (fun H => len_slice (H := H) Tryz.underlying45) (And.intro (fun H => indexAt_slice (H := H) Tryz.underlying45 Tryz.sizeOf61) (And.intro (fun H => loadAt_aggE (H := H) Tryz.underlying61 rfl Tryz.sizeOf61) (And.intro (fun H => ex_alloc (H := H) (P := Tryz.prog) (h := Tryz.zeroValue61)) (And.intro (fun H => storeAt_agg (H := H) Tryz.sizeOf61) (And.intro (fun H => indexAt_slice (H := H) Tryz.underlying22 Tryz.sizeOf3) (And.intro (fun H => loadAt_one (H := H) Tryz.underlying3 rfl) (And.intro @callF119 (And.intro (fun H st => assert_ok (H := H) (st := st) Tryz.underlying199 rfl Tryz.zeroValue199) (fun H st => assert_ok (H := H) (st := st) Tryz.underlying200 rfl Tryz.zeroValue200))))))))))
def y119_45 := And.intro (fun H => fieldAt_eq (H := H) Tryz.underlying61 (i := 2) rfl (off := 2) rfl Tryz.sizeOf3) (And.intro (fun H => loadAt_one (H := H) Tryz.underlying3 rfl) (And.intro (fun H => fieldAt_eq (H := H) Tryz.underlying85 (i := 0) rfl (off := 0) rfl Tryz.sizeOf29) (And.intro (fun H => fieldAt_eq (H := H) Tryz.underlying29 (i := 3) rfl (off := 6) rfl Tryz.sizeOf22) (And.intro (fun H => loadAt_one (H := H) Tryz.underlying22 rfl) (And.intro (fun H => fieldAt_eq (H := H) Tryz.underlying85 (i := 1) rfl (off := 12) rfl Tryz.sizeOf22) (And.intro (fun H => indexAt_slice (H := H) Tryz.underlying22 Tryz.sizeOf3) (And.intro (fun H => makeI (H := H) Tryz.underlying199 rfl) (And.intro @bld_200__0 (fun H => makeI (H := H) Tryz.underlying200 rfl)))))))))
def outV (late : Int) : Value := if 0 < late then .iface 199 (.int .i64 late) else .iface 200 (.agg #[])
theorem HaulAt.due_at {H : Hp} {hb : Nat} {n : HN} {v : HV} {jv : Value} {js : List Int} (hh : HaulAt H hb n v jv js) {k : Nat} (hk : k < js.length) : ∃ (jb jo jc : Nat) (jp : Bool) (jcs : Array Value) (jfr : Nat × Nat) (xb xo xc : Nat) (xpp : Bool) (xcs : Array Value) (xfr : Nat × Nat),
  jv = .slice (some ⟨jb, jo, none⟩) js.length jc /\ H jb = some (jp, .cells jcs 3 jfr) /\ jcs[jo + k]? = some (.int .i64 (js.getD k 0)) /\ v.xv = .slice (some ⟨xb, xo, none⟩) n.xs.length xc /\ H xb = some (xpp, .cells xcs 3 xfr) /\ xcs[xo + (js.getD k 0).toNat]? = some (.int .i64 (n.due js k)) /\
  0 <= js.getD k 0 /\ js.getD k 0 < n.xs.length /\ 0 <= n.due js k /\ n.due js k <= 99 := by
 have hjk : js.getD k 0 = js[k] := by simp [List.getD, List.getElem?_eq_getElem hk]
 have hjr := hh.jb _ (List.getElem_mem hk)
 rw [<- hjk] at hjr
 have hdue : n.due js k = n.xs[(js.getD k 0).toNat]'(by omega) := by simp [HN.due, List.getD, List.getElem?_eq_getElem (show (js[k]?.getD 0).toNat < n.xs.length by simpa [List.getD] using (by omega : (js.getD k 0).toNat < n.xs.length))]
 have hxr := hh.xb _ (List.getElem_mem (show (js.getD k 0).toNat < n.xs.length by omega))
 rw [<- hdue] at hxr
 obtain ⟨jb, jo, jc, jp, jcs, jfr, hje, _, vjb, hjx⟩ := hh.j.cons (fun h => absurd (congrArg List.length h) (by simp only [List.length_nil]; omega))
 obtain ⟨xb, xo, xc, xpp, xcs, xfr, hxe, _, vxb, hxx⟩ := hh.x.cons (fun h => absurd (congrArg List.length h) (by simp only [List.length_nil]; omega))
 exact ⟨jb, jo, jc, jp, jcs, jfr, xb, xo, xc, xpp, xcs, xfr, hje, vjb, by rw [hjk]; exact hjx _ _ (List.getElem?_eq_getElem _), hxe, vxb, by rw [hdue]; exact hxx _ _ (List.getElem?_eq_getElem _), hjr.1, hjr.2, hxr.1, hxr.2⟩
theorem outcome_spec (main : Md) (H : Hp) (hb : Nat) (n : HN) (v : HV) (jv : Value) (js : List Int) (hh : HaulAt H hb n v jv js) (k : Nat) (hk : k < js.length) (r : RideV) (hr : -10000000 <= r.back /\ r.back <= 10000000) :
  FnX Tryz.prog main 119 #[.pointer (some ⟨hb, 0, none⟩), .int .i64 k, r.agg] H fun e H' => e = .returned (outV (r.back - n.due js k)) /\ H.le H' := by
 obtain ⟨jb, jo, jc, jp, jcs, jfr, xb, xo, xc, xpp, xcs, xfr, rfl, vjb, hj1, hxe, vxb, hx1, j0, j1, d0, d99⟩ := hh.due_at hk
 obtain ⟨sv, cv, tv, xv⟩ := v
 simp only [] at hxe
 subst hxe
 obtain ⟨hoq, hho⟩ := hh.o
 simp only [HN.obj] at hho
 simp only [RideV.agg]
 refine FnX_start Tryz.func119 rfl Tryz.ntmps119 (by simp) ?_
 generalize n.due js k = due at *
 generalize js.getD k 0 = jk at *
 obtain ⟨rb, ro, rk⟩ := r
 simp only [] at hr ⊢
 (refine @unH _ ?_; refine zA y119_45 ?_; (repeat (refine inC ?_; intro hc)); try (refine inK ?_; intro K hK))
 (intro b1 hb1; generalize hG : Hp.set _ b1 _ = H1; have lH1 := le_of_set hG hb1; have vb1 := at_of_set hG; clear hG)
 have vhb1 := lH1 _ _ hho
 have vjb1 := lH1 _ _ vjb
 have vxb1 := lH1 _ _ vxb
 clear hho vjb vxb
 ((try (refine @unH _ ?_; refine zX y119_45 ?_)); (try (refine hK _ _ ?_; clear hK K; (try simp only [nq, ↓reduceIte, Nat.reduceEqDiff]))); refine @unH _ ?_; refine zA y119_45 ?_; (repeat (refine inC ?_; intro hc)); try (refine inK ?_; intro K hK))
 (refine wpX_dst1 18 [(true, 0), (true, 1), (true, 2), (true, 3), (true, 4), (true, 5), (true, 6), (true, 7), (true, 8), (true, 9), (true, 10), (true, 11), (true, 12), (true, 13), (true, 14), (true, 15), (true, 16), (true, 17)] (by kernel_rfl) (by kernel_rfl) (by simp) (by kernel_rfl) ?_; intro K hK; (iterate 18 (refine @unH _ ?_; refine z3 y119_45 ?_)); refine plan_nil (hK _ _ ?_); clear hK K; (try simp only [nq, ↓reduceIte, Nat.reduceEqDiff]))
 repeat' (first
 | (refine wpX_stmtL rfl ?_; intro K hK; simp -implicitDefEqProofs (disch := first | omega | (simp only [qd] <;> omega)) only [xq, ↓xp, qc, Nat.reduceAdd, List.range, List.range.loop, fine, Nat.reduceEqDiff, ↓reduceIte, yielded, reduceCtorEq, Nat.reduceLT, Nat.reduceMul, Nat.reduceSub, one, Nat.reduceLeDiff, runX_cons, y119_45, aq, ↓ap, qe0, qe1, qe2, *, -hK]; try (refine hK _ _ ?_; clear hK K))
 | (refine wpX_lastL rfl ?_; intro K hK; simp -implicitDefEqProofs (disch := first | omega | (simp only [qd] <;> omega)) only [xq, ↓xp, qc, Nat.reduceAdd, List.range, List.range.loop, fine, Nat.reduceEqDiff, ↓reduceIte, yielded, reduceCtorEq, Nat.reduceLT, Nat.reduceMul, Nat.reduceSub, one, Nat.reduceLeDiff, runX_cons, y119_45, aq, ↓ap, qe0, qe1, qe2, *, -hK]; try (refine hK _ _ ?_; clear hK K; (try simp only [nq, ↓reduceIte, Nat.reduceEqDiff])))
 | (refine wpX_skip ?_; (try simp only [nq, ↓reduceIte, Nat.reduceEqDiff]))
 | (refine wpX_label ?_; (try simp only [nq, ↓reduceIte, Nat.reduceEqDiff]))
 | (refine wpX_exit ?_; (try simp only [nq, ↓reduceIte, Nat.reduceEqDiff]))
 | (refine wpX_goto ?_; (try simp only [nq, ↓reduceIte, Nat.reduceEqDiff]))
 | (refine wpX_condK (by simp only [act_eval, upd_get, Nat.reduceEqDiff, Nat.reduceLT, ↓reduceIte, *]; rfl) ?_ ?_ <;> (intro hc; first | (exfalso; simp -implicitDefEqProofs (disch := omega) only [*, bq, reduceCtorEq] at hc; done) | (simp only [dq, qe3, qe4, qe5, qe6] at hc) | skip))
 | (refine wpX_scope0 ?_)
 | (refine wpX_block ?_)
 | (refine wpX_seq ?_))
 ·(refine @unH _ ?_; refine z9 Tryz.results119 ?_)
  exact ⟨by rw [outV, if_pos hc], lH1⟩
 ·(refine @unH _ ?_; refine z9 Tryz.results119 ?_)
  exact ⟨by rw [outV, if_neg (by omega)], lH1⟩
theorem rcells_get : ∀ (rs : List RideV) (i : Nat) (r : RideV), rs[i]? = some r -> (rcells rs)[i * 3]? = some (.int .i64 r.barrow) /\ (rcells rs)[i * 3 + 1]? = some (.int .i64 r.out) /\ (rcells rs)[i * 3 + 2]? = some (.int .i64 r.back)
 | [], i, r, h => by simp at h
 | q :: rs, 0, r, h => by
  simp at h
  subst h
  simp [rcells]
 | q :: rs, i + 1, r, h => by
  obtain ⟨h1, h2, h3⟩ := rcells_get rs i r (by simpa using h)
  have e : rcells (q :: rs) = [.int .i64 q.barrow, .int .i64 q.out, .int .i64 q.back] ++ rcells rs := rfl
  rw [e]
  refine ⟨?_, ?_, ?_⟩
  ·rw [List.getElem?_append_right (by simp; omega)]
   simpa [show (i + 1) * 3 - 3 = i * 3 by omega] using h1
  ·rw [List.getElem?_append_right (by simp; omega)]
   simpa [show (i + 1) * 3 + 1 - 3 = i * 3 + 1 by omega] using h2
  ·rw [List.getElem?_append_right (by simp; omega)]
   simpa [show (i + 1) * 3 + 2 - 3 = i * 3 + 2 by omega] using h3
theorem extract3 {c : Array Value} {k : Nat} {x y z : Value} (h1 : c[k]? = some x) (h2 : c[k + 1]? = some y) (h3 : c[k + 2]? = some z) : c.extract k (k + 3) = #[x, y, z] := by
 have hk : k + 2 < c.size := (Array.getElem?_eq_some_iff.1 h3).1
 apply Array.ext_getElem?
 intro i
 rw [Array.getElem?_extract]
 rcases i with _ | _ | _ | i
 ·simp; exact ⟨by omega, by simpa using h1⟩
 ·simp; exact ⟨by omega, by simpa using h2⟩
 ·simp; exact ⟨by omega, by simpa using h3⟩
 ·simp; intro h; omega
def fineP (n : HN) (js : List Int) (mi : Int) (pl : List Nat) : Prop := ∀ i r, (dS n js mi pl pl.length).2.2[i]? = some r -> ∀ j, j < pl.getD i 0 -> r.back - n.due js ((pl.take i).sum + j) <= 0
theorem fine_spec (main : Md) (H : Hp) (hb : Nat) (n : HN) (v : HV) (jv : Value) (js : List Int) (hh : HaulAt H hb n v jv js) (pv : Value) (pl : List Nat) (hp : SlI H pv (pl.map fun m : Nat => (m : Int))) (hp1 : ∀ m ∈ pl, 1 <= m) (hps : pl.sum <= js.length) (hpl : pl.length <= 1000) (mi : Int) (hm1 : 1 <= mi) (hm2 : mi <= 20)
  (hbk : ∀ r ∈ (dS n js mi pl pl.length).2.2, -10000000 <= r.back /\ r.back <= 10000000) :
  FnX Tryz.prog main 100 #[.pointer (some ⟨hb, 0, none⟩), pv, .int .i64 mi] H fun e H' => ∃ b, e = .returned (.bool b) /\ (b = true ↔ fineP n js mi pl) /\ H.le H' := by
 have hpS := hp
 obtain ⟨pa, pc, rfl, hpc, _⟩ := hp
 have hjl := hh.jl
 have hdok := dS_ok n js mi pl hh.xb hh.n0 hh.b1 hh.b4 hm1 hm2 pl.length (Nat.le_refl _)
 simp only [List.length_map] at hpc
 simp only [List.length_map]
 have hdr := drive_spec main H hb n v jv js hh _ pl hpS hp1 hps hpl mi hm1 hm2
 simp only [List.length_map] at hdr
 have hlen := hdok.2.2.2
 generalize hRS : (dS n js mi pl pl.length).2.2 = rs at hbk hdr hlen
 unfold fineP
 rw [hRS]
 clear hRS hdok
 refine FnX_start Tryz.func100 rfl Tryz.ntmps100 (by simp) ?_
 (refine @unH _ ?_; refine zA y100_45 ?_; (repeat (refine inC ?_; intro hc)); try (refine inK ?_; intro K hK))
 refine hdr.runs.mono ?_
 rintro _ H1 ⟨rv, rfl, hrow⟩
 have hh1 := hh.le hrow.1.toLe
 have hp1' := hpS.le hrow.1.toLe
 obtain ⟨ra, rc, rfl⟩ := rowZ_len hrow
 ((try (refine @unH _ ?_; refine zX y100_45 ?_)); (try (refine hK _ _ ?_; clear hK K; (try simp only [nq, ↓reduceIte, Nat.reduceEqDiff]))); refine @unH _ ?_; refine zA y100_45 ?_; (repeat (refine inC ?_; intro hc)); try (refine inK ?_; intro K hK))
 refine wpX_loop (fun w a' H' => ∃ e i, w = pl.length - i /\ i <= pl.length /\ (∀ i' r, i' < i -> rs[i']? = some r -> ∀ j, j < pl.getD i' 0 -> r.back - n.due js ((pl.take i').sum + j) <= 0) /\ a' = act 40 e [] /\ e 0 = .pointer (some ⟨hb, 0, none⟩) /\ e 1 = .slice pa pl.length pc /\ e 7 = .int .i64 ((pl.take i).sum : Nat) /\ e 13 = .slice ra pl.length rc /\ e 14 = .int .i64 pl.length /\ e 15 = .int .i64 (i : Nat) /\ H1.le H') (n := pl.length) ?_ ?_
 ·exact ⟨_, 0, rfl, by omega, fun i' r h => by omega, rfl, rfl, rfl, rfl, rfl, rfl, rfl, Hp.le_refl _⟩
 ·rintro w a' H2 ⟨e, i, rfl, hi, hdone, rfl, e0, e1, e7, e13, e14, e15, lH2⟩
  by_cases hlt : i < pl.length
  ·have hlr : i < rs.length := by omega
   have hri : rs[i]? = some rs[i] := List.getElem?_eq_getElem hlr
   have hrb := hbk _ (List.getElem_mem hlr)
   generalize rs[i] = r at hri hrb
   obtain ⟨g1, g2, g3⟩ := rcells_get rs i r hri
   have hh2 := hh1.le lH2
   have hp2 := hp1'.le lH2
   have hrow2 := hrow.2
   rcases hrow2 with ⟨h9, h8, _⟩ | ⟨b, c, cap, _, vb, hve, hcs, hcap, hcl, hget⟩
   ·omega
   ·cases hve
    have vb2 := lH2 _ _ vb
    have hex := extract3 (hget _ _ g1) (hget _ _ g2) (hget _ _ g3)
    have hsz : i * 3 + 3 <= c.size := by omega
    obtain ⟨b3, o3, cap3, p3, c3, fr3, hve, _, vb3, hx⟩ := hp2.cons (fun h => absurd (congrArg List.length h) (by simp only [List.length_nil, List.length_map]; omega))
    cases hve
    have hxi := hx i (pl[i] : Nat) (by rw [List.getElem?_map, List.getElem?_eq_getElem hlt]; rfl)
    have hg : pl.getD i 0 = pl[i] := by simp [List.getD, List.getElem?_eq_getElem hlt]
    have hsum : (pl.take (i + 1)).sum <= pl.sum := by
     have h9 : pl.sum = (pl.take (i + 1)).sum + (pl.drop (i + 1)).sum := by rw [<- List.sum_append, List.take_append_drop]
     omega
    have hs2 : (pl.take (i + 1)).sum = (pl.take i).sum + pl[i] := by
     rw [List.take_add_one, List.getElem?_eq_getElem hlt, List.sum_append]
     simp
    rw [<- hg] at hxi hs2
    generalize hsi1 : (pl.take (i + 1)).sum = S1 at hsum hs2
    generalize hsi : (pl.take i).sum = S0 at hs2 e7
    generalize hpi : pl.getD i 0 = mi' at hxi hs2
    clear hx hg g1 g2 g3 hget hcs hcl hp2 vb
    replace hs2 : S1 <= S0 + mi' /\ S0 + mi' <= S1 := by omega
    have hi3 : 0 + i * 3 = i * 3 := by omega
    (refine @unH _ ?_; refine zA y100_45 ?_; (repeat (refine inC ?_; intro hc)); try (refine inK ?_; intro K hK))
    (intro cb hcb; generalize hG : Hp.set _ cb _ = H3; have lH3 := le_of_set hG hcb; have vcb := at_of_set hG; clear hG)
    have vb33 := lH3 _ _ vb3
    have hh3 := hh2.le lH3
    clear vb3 vb2 hh2
    ((try (refine @unH _ ?_; refine zX y100_45 ?_)); (try (refine hK _ _ ?_; clear hK K; (try simp only [nq, ↓reduceIte, Nat.reduceEqDiff]))); refine @unH _ ?_; refine zA y100_45 ?_; (repeat (refine inC ?_; intro hc)); try (refine inK ?_; intro K hK))
    refine wpX_loop (fun w a' H' => ∃ e j, w = mi' - j /\ j <= mi' /\ (∀ j', j' < j -> r.back - n.due js (S0 + j') <= 0) /\ a' = act 40 e [] /\ e 0 = .pointer (some ⟨hb, 0, none⟩) /\ e 1 = .slice (some ⟨b3, o3, none⟩) pl.length pc /\ e 7 = .int .i64 ((S0 + j : Nat) : Int) /\ e 9 = .pointer (some ⟨cb, 0, none⟩) /\ e 13 = .slice (some ⟨b, 0, none⟩) pl.length rc /\ e 14 = .int .i64 pl.length /\ e 15 = .int .i64 (i : Nat) /\ e 23 = .int .i64 (mi' : Nat) /\ e 24 = .int .i64 (j : Nat) /\ H3.le H') (n := mi') ?_ ?_
    ·exact ⟨_, 0, rfl, by omega, fun j' h => by omega, rfl, e0, e1, e7, rfl, e13, e14, e15, rfl, rfl, Hp.le_refl _⟩
    ·clear e0 e1 e7 e13 e14 e15
     rename_i eold
     clear eold
     rintro w a' H4 ⟨e, j, rfl, hj, hjd, rfl, e0, e1, e7, e9, e13, e14, e15, e23, e24, lH4⟩
     have vcb4 := lH4 _ _ vcb
     have hh4 := hh3.le lH4
     by_cases hltj : j < mi'
     ·(refine @unH _ ?_; refine zA y100_45 ?_; (repeat (refine inC ?_; intro hc)); try (refine inK ?_; intro K hK))
      refine (outcome_spec main H4 hb n v jv js hh4 (S0 + j) (by omega) r hrb).runs.mono ?_
      rintro _ H5 ⟨rfl, lH5⟩
      by_cases hlate : 0 < r.back - n.due js (S0 + j)
      ·rw [show outV (r.back - n.due js (S0 + j)) = .iface 199 (.int .i64 (r.back - n.due js (S0 + j))) from if_pos hlate]
       ((try (refine @unH _ ?_; refine zX y100_45 ?_)); (try (refine hK _ _ ?_; clear hK K; (try simp only [nq, ↓reduceIte, Nat.reduceEqDiff]))); refine @unH _ ?_; refine zA y100_45 ?_; (repeat (refine inC ?_; intro hc)); try (refine inK ?_; intro K hK))
       (refine @unH _ ?_; refine z9 Tryz.results100 ?_)
       refine ⟨false, rfl, ⟨(fun h => by cases h), fun h => absurd (h i r hri j (by rw [hpi]; exact hltj)) (by rw [hsi]; omega)⟩, ?_⟩
       exact Hp.le_trans hrow.1.toLe (Hp.le_trans lH2 (Hp.le_trans lH3 (Hp.le_trans lH4 lH5)))
      ·rw [show outV (r.back - n.due js (S0 + j)) = .iface 200 (.agg #[]) from if_neg hlate]
       ((try (refine @unH _ ?_; refine zX y100_45 ?_)); (try (refine hK _ _ ?_; clear hK K; (try simp only [nq, ↓reduceIte, Nat.reduceEqDiff]))); refine @unH _ ?_; refine zA y100_45 ?_; (repeat (refine inC ?_; intro hc)); try (refine inK ?_; intro K hK))
       refine ⟨_, by omega, _, j + 1, rfl, hltj, ?_, rfl, e0, e1, ?_, e9, e13, e14, e15, e23, rfl, Hp.le_trans lH4 lH5⟩
       ·intro j' hj'
        by_cases he : j' = j
        ·subst he; omega
        ·exact hjd j' (by omega)
       ·show Value.int .i64 _ = Value.int .i64 _
        congr 1
     ·obtain rfl : j = mi' := by omega
      (refine @unH _ ?_; refine zA y100_45 ?_; (repeat (refine inC ?_; intro hc)); try (refine inK ?_; intro K hK))
      refine ⟨_, by omega, _, i + 1, rfl, hlt, ?_, rfl, e0, e1, ?_, e13, e14, rfl, Hp.le_trans lH2 (Hp.le_trans lH3 lH4)⟩
      ·intro i' r' hi' hr' j' hj'
       by_cases he : i' = i
       ·subst he
        rw [hri] at hr'
        cases hr'
        rw [hsi]
        exact hjd j' (by rw [<- hpi]; exact hj')
       ·exact hdone i' r' (by omega) hr' j' hj'
      ·rw [hsi1]
       show _ = Value.int .i64 _
       rw [show S1 = S0 + j by omega]
       exact e7
  ·obtain rfl : i = pl.length := by omega
   (refine @unH _ ?_; refine zA y100_45 ?_; (repeat (refine inC ?_; intro hc)); try (refine inK ?_; intro K hK))
   (refine @unH _ ?_; refine z9 Tryz.results100 ?_)
   exact ⟨true, rfl, ⟨fun _ i r hr j hj => hdone i r (by have := (List.getElem?_eq_some_iff.1 hr).1; omega) hr j hj, fun _ => rfl⟩, Hp.le_trans hrow.1.toLe lH2⟩
end Go.Proofs.YtofmadjgbcopdaaGreatDoor
end
section
namespace Go.X
open Go
open Go.Conc (G base)
section
variable {P : Program} {main : Md} {Q : Exit -> Act -> Hp -> Prop} {a : Act} {H : Hp}
def yieldK (q : Option (Bool × Obj)) (l : Nat) (args : Array Value) (H : Hp) (K : Next -> Hp -> Prop) : Prop := match q with
 | some (_, .loop r) => args.size = r.params.size /\ K (.round l r.fn ((r.params.zip args).foldl (fun tmps (x : Tmp × Value) => tmps.setIfInBounds x.1 x.2) r.tmps) r.assign r.body) H
 | _ => False
theorem yieldK_some {p : Bool} {r : Loop} {l : Nat} {args : Array Value} {K : Next -> Hp -> Prop} : yieldK (some (p, .loop r)) l args H K = (args.size = r.params.size /\ K (.round l r.fn ((r.params.zip args).foldl (fun tmps (x : Tmp × Value) => tmps.setIfInBounds x.1 x.2) r.tmps) r.assign r.body) H) := rfl
theorem wpS_yield {l : Nat} {args : Array Value} {K : Next -> Hp -> Prop} {E : Value -> Hp -> Prop} (h : yieldK (H l) l args H K) : wpS P (Instr.yield l args) H K E := by
 unfold yieldK at h
 split at h
 ·rename_i p r hl
  unfold Instr.yield Instr.getLoop
  rw [wpS_bind', wpS_bind']
  refine ⟨p, _, hl, rfl, rfl, ?_⟩
  rw [wpS_purec]
  simp only [wpS_pure, ne_eq, h.1, not_true, if_false]
  exact h.2
 ·exact h.elim
theorem callK_yield {l : Nat} {args : Array Value} {K : Next -> Hp -> Prop} {E : Value -> Hp -> Prop} (h : yieldK (H l) l args H K) : callK P (.func (.yield l) #[] #[]) args H K E := by
 unfold callK
 rw [wpS_bind']
 simp only [Deferred.ofValue, wpS_pure, invoke, Array.empty_append]
 exact wpS_yield h
def rnd (l : Nat) (R : Ending -> Hp -> Prop) : Exit -> Act -> Hp -> Prop
 | .normal, a, H => a.defers = [] /\ ∃ r, H l = some (true, .loop r) /\ R (.returned (.bool true)) (H.set l (.loop { r with state := .ready, pending := none }))
 | .exit id, a, H => a.defers = [] /\ ∃ r, H l = some (true, .loop r) /\ R (.returned (.bool false)) (H.set l (.loop { r with state := .done, pending := some (.exit id) }))
 | .ret, a, H => a.defers = [] /\ ∃ r, H l = some (true, .loop r) /\ R (.returned (.bool false)) (H.set l (.loop { r with state := .done, pending := some .ret }))
 | _, _, _ => False
theorem wpS_endRound {l : Nat} {r : Loop} (h : H l = some (true, .loop r)) (jump : Option Code) (K : Value -> Hp -> Prop) (E : Value -> Hp -> Prop) (hk : K (.bool jump.isNone) (H.set l (.loop { r with state := if jump.isNone then .ready else .done, pending := jump }))) :
  wpS P (Instr.endRound l jump) H K E := by
 unfold Instr.endRound Instr.getLoop
 rw [wpS_bind', wpS_bind']
 refine ⟨true, _, h, rfl, rfl, ?_⟩
 rw [wpS_purec]
 simp only [wpS_pure, wpS_bind']
 exact ⟨_, h, rfl, rfl, hk⟩
theorem wpS_beginRound {l : Nat} {r : Loop} (h : H l = some (true, .loop r)) (hr : r.state = .ready) (K : Unit -> Hp -> Prop) (E : Value -> Hp -> Prop) (hk : K () (H.set l (.loop { r with state := .busy }))) :
  wpS P (Instr.beginRound l) H K E := by
 unfold Instr.beginRound Instr.getLoop
 rw [wpS_bind', wpS_bind']
 refine ⟨true, _, h, rfl, rfl, ?_⟩
 rw [wpS_purec]
 simp only [wpS_pure, wpS_bind']
 refine ⟨_, h, rfl, rfl, ?_⟩
 rw [hr]
 exact hk
theorem leave_round {b c : Frame} {cs : List Frame} {Stop : Goroutine -> Hp -> Prop} {l : Nat} {r : Loop} {jump : Option Code} {a : Act} {todo : List Item} (hb : b.kind = .normal) (hl : b.roundOf = some l) (h : H l = some (true, .loop r))
  (hs : ∀ w, stepG P main (G (fat b a todo) (c :: cs)) w = (let (x, es) := (Instr.endRound l jump).runT P w #[]
   GStep.after (seen P b.fn es) <| match x with
   | .ok v w => doReturn P main (fat b a todo) (c :: cs) none v w
   | .halt _ w => .ended (.stuck "range over a function: no such loop" ((fat b a todo).pos P)) w))
  (hk : WPG P main Stop (G (c.finish (.bool jump.isNone)) cs) (H.set l (.loop { r with state := if jump.isNone then .ready else .done, pending := jump }))) : WPG P main Stop (G (fat b a todo) (c :: cs)) H := by
 refine WPG.tree (s := Instr.endRound l jump) (K := fun v H' => v = .bool jump.isNone /\ H' = H.set l (.loop { r with state := if jump.isNone then .ready else .done, pending := jump })) (E := fun _ _ => False) rfl (wpS_endRound h jump _ _ ⟨rfl, rfl⟩)
  (fun g' H' => g' = G (c.finish (.bool jump.isNone)) cs /\ H' = H.set l (.loop { r with state := if jump.isNone then .ready else .done, pending := jump })) (fun w w' H' es v hr hm hk' => ?_) (fun _ _ _ _ _ _ _ he => he.elim) ?_
 ·obtain ⟨rfl, rfl⟩ := hk'
  refine ⟨_, seen P b.fn es, ?_, fun e => mem_seen, rfl, rfl⟩
  rw [hs, hr]
  simp [doReturn, fat, hb, GStep.after, G]
 ·rintro g' H' ⟨rfl, rfl⟩
  exact hk
theorem round_runs {l : Nat} {fn : FuncId} {tmps : Array Value} {asg body : Code} {R : Ending -> Hp -> Prop}
  (h : wpX P main (some l) asg (thn (fun a H1 => ∃ r, H1 l = some (true, .loop r) /\ r.state = .ready /\ wpX P main (some l) body (rnd l R) a (H1.set l (.loop { r with state := .busy }))) fun _ _ _ => False) { tmps := tmps, defers := [] } H) :
  Runs P main (Frame.round l fn tmps asg body .normal) H R := by
 intro c cs Stop hv hp
 have he : Frame.round l fn tmps asg body .normal = fat { base fn with roundOf := some l } { tmps := tmps, defers := [] } [.code asg, .beginRound, .code body] := by
  simp [Frame.round, fat, base]
 rw [he]
 refine h { base fn with roundOf := some l } [.beginRound, .code body] (c :: cs) Stop (by simp [base]) rfl fun e a1 H1 q => ?_
 cases e with
 | normal =>
  obtain ⟨r, hl, hr, q⟩ := q
  refine WPG.tree (s := (do Instr.beginRound l; pure .skip : Sem Next)) (K := fun v H' => v = .skip /\ H' = H1.set l (.loop { r with state := .busy })) (E := fun _ _ => False) rfl (by rw [wpS_bind']; exact wpS_beginRound hl hr _ _ ⟨rfl, rfl⟩)
   (fun g' H' => g' = G (fat { base fn with roundOf := some l } a1 [.code body]) (c :: cs) /\ H' = H1.set l (.loop { r with state := .busy })) (fun w w' H' es v hr' hm hk' => ?_) (fun _ _ _ _ _ _ _ he => he.elim) ?_
  ·obtain ⟨rfl, rfl⟩ := hk'
   refine ⟨_, seen P fn es, ?_, fun e => mem_seen, rfl, rfl⟩
   simp [stepG, stepG.exec, stepG.apply, fat, G, base, hr', GStep.after, Frame.finish, -Sem.runT_eq, -bind_pure_comp]
  ·rintro g' H' ⟨rfl, rfl⟩
   refine q { base fn with roundOf := some l } [] (c :: cs) Stop (by simp [base]) rfl fun e a2 H2 q2 => ?_
   cases e with
   | normal =>
    obtain ⟨_, r2, hl2, q2⟩ := q2
    refine leave_round (jump := none) rfl rfl hl2 (fun w => ?_) (hv _ _ q2)
    simp [stepG, stepG.exec, fat, G, base]
    rfl
   | exit id =>
    obtain ⟨_, r2, hl2, q2⟩ := q2
    intro k' hk'
    refine leave_round (jump := some (.exit id)) rfl rfl hl2 (fun w => ?_) (hv _ _ q2)
    simp [exitTo] at hk'
    simp [stepG, stepG.exec, fat, G, base, hk']
    rfl
   | ret =>
    obtain ⟨_, r2, hl2, q2⟩ := q2
    intro k'
    refine leave_round (jump := some .ret) rfl rfl hl2 (fun w => ?_) (hv _ _ q2)
    simp [stepG, stepG.exec, fat, G, base]
    rfl
   | goto l => exact q2.elim
   | panic ch => exact q2.elim
   | outgrown => exact q2.elim
 | exit id => exact q.elim
 | goto l => exact q.elim
 | ret => exact q.elim
 | panic ch => exact q.elim
 | outgrown => exact q.elim
def coll (r : Nat) : Deferred := { target := .collected r, args := #[] }
def behind (l r : Nat) (a : Act) (Q : Exit -> Act -> Hp -> Prop) : Ending -> Hp -> Prop
 | .returned _, H => ∃ q, H l = some (true, .loop q) /\ q.state ≠ .busy /\ (match q.pending with
  | none => Q .normal { a with defers := coll r :: a.defers } (H.set l (.loop { q with state := .exhausted }))
  | some (.exit id) => Q (.exit id) { a with defers := coll r :: a.defers } (H.set l (.loop { q with state := .exhausted }))
  | some .ret => Q .ret { a with defers := coll r :: a.defers } (H.set l (.loop { q with state := .exhausted }))
  | _ => False)
 | .panicked ch, H => Q (.panic ch) { a with defers := coll r :: a.defers } H
 | .outgrown, _ => False
theorem wpS_endLoop {l : Nat} {r : Loop} (h : H l = some (true, .loop r)) (hr : r.state ≠ .busy) (K : Option Code -> Hp -> Prop) (E : Value -> Hp -> Prop) (hk : K r.pending (H.set l (.loop { r with state := .exhausted }))) :
  wpS P (Instr.endLoop l) H K E := by
 unfold Instr.endLoop Instr.getLoop
 rw [wpS_bind', wpS_bind']
 refine ⟨true, _, h, rfl, rfl, ?_⟩
 rw [wpS_purec]
 have hb : (r.state == .busy) = false := by cases hs : r.state <;> first | rfl | exact absurd hs hr
 simp only [wpS_pure, hb, Bool.false_eq_true, if_false, wpS_bind']
 exact ⟨_, h, rfl, rfl, hk⟩
theorem wpX_rangeFunc {f : Operand} {params : Array Tmp} {asg body : Code} {g : FuncId} {fi cap : Array Value} (hf : a.eval f = .func (.func g) fi cap)
  (hcall : ∀ (args : Array Value) (H : Hp) (K : Next -> Hp -> Prop) (E : Value -> Hp -> Prop), wpS P (callFunc g args) H K E = K (.enter g args) H)
  (h : ∀ fn r l, H r = none -> (H.set r (.deferred (some []))) l = none -> Runs P main (Frame.enter P g (fi ++ #[.func (.yield l) #[] #[]] ++ cap) .normal)
   ((H.set r (.deferred (some []))).set l (.loop { state := .ready, pending := none, fn := fn, tmps := a.tmps, params := params, assign := asg, body := body, defers := r })) (behind l r a Q)) :
  wpX P main none (.rangeFunc f params asg body) Q a H := by
 intro b k cs Stop hk hl hc
 refine .step (fun g' H' => WPG P main Stop g' H') rfl (fun w hw => ?_) fun _ _ h => h
 have h1 : wpS P (Instr.enterLoop b.fn a.tmps params asg body none) H (fun x H' => ∃ r l, x = (l, [coll r]) /\ H r = none /\ (H.set r (.deferred (some []))) l = none /\
   H' = (H.set r (.deferred (some []))).set l (.loop { state := .ready, pending := none, fn := b.fn, tmps := a.tmps, params := params, assign := asg, body := body, defers := r })) (fun _ _ => False) := by
  unfold Instr.enterLoop
  simp only [wpS_bind', newObj, wpS, wpS_pure]
  intro r hr l hl
  exact ⟨r, l, rfl, hr, hl, rfl⟩
 obtain ⟨es, w', H', hm, x, hx, hd⟩ := wpS_sound _ w hw h1
 rcases hd with ⟨x, rfl, r, l, rfl, hr, hlr, rfl⟩ | ⟨v, _, hv⟩
 ·have hx0 : (Instr.enterLoop b.fn a.tmps params asg body none).runT P w #[] = (.ok (l, [coll r]) w', es) := by rw [hx #[]]; simp
  have h2 : wpS P (do let d <- resolve a.eval { callee := .value f, args := #[.const (.func (.yield l) #[] #[])], argTypes := #[] } 0; invoke d.target d.args) ((H.set r (.deferred (some []))).set l (.loop { state := .ready, pending := none, fn := b.fn, tmps := a.tmps, params := params, assign := asg, body := body, defers := r }))
    (fun x H' => x = .enter g (fi ++ #[.func (.yield l) #[] #[]] ++ cap) /\ H' = (H.set r (.deferred (some []))).set l (.loop { state := .ready, pending := none, fn := b.fn, tmps := a.tmps, params := params, assign := asg, body := body, defers := r })) (fun _ _ => False) := by
   rw [wpS_bind']
   simp only [resolve, hf, Deferred.ofValue, wpS_pure, invoke, List.map_toArray, List.map_cons, List.map_nil, eval_const]
   rw [hcall]
   exact ⟨rfl, rfl⟩
  obtain ⟨es2, w2, H2, hm2, x2, hx2, hd2⟩ := wpS_sound _ w' hm.sat h2
  rcases hd2 with ⟨x2, rfl, rfl, rfl⟩ | ⟨v, _, hv⟩
  ·have hx20 : (do let d <- resolve a.eval { callee := .value f, args := #[.const (.func (.yield l) #[] #[])], argTypes := #[] } 0; invoke d.target d.args : Sem Next).runT P w' #[] = (.ok (.enter g (fi ++ #[.func (.yield l) #[] #[]] ++ cap)) w2, es2) := by rw [hx2 #[]]; simp
   refine ⟨G (Frame.enter P g (fi ++ #[.func (.yield l) #[] #[]] ++ cap) .normal) (fat b { a with defers := coll r :: a.defers } (.inRangeFunc l :: k) :: cs), w2, seen P b.fn es ++ (if b.kind == .early then #[] else seen P b.fn es2), ((H.set r (.deferred (some []))).set l (.loop { state := .ready, pending := none, fn := b.fn, tmps := a.tmps, params := params, assign := asg, body := body, defers := r })), ?_, (hm.seen b.fn).trans ?_, ?_⟩
   ·have hk' : (b.kind == CallKind.early) = false := by simpa using hk
    have hev : ∀ fr : Frame, fr.tmps = a.tmps -> fr.eval = a.eval := fun fr h9 => by
     funext x
     cases x <;> simp [Frame.eval, Act.eval, h9]
    simp [stepG, stepG.exec, stepG.apply, fat, G, hl, hx0, hev, hx20, hk', GStep.after, -Sem.runT_eq, -bind_pure_comp]
   ·have hk' : (b.kind == CallKind.early) = false := by simpa using hk
    rw [hk']
    exact hm2.seen b.fn
   ·refine h b.fn r l hr hlr _ cs Stop (fun v H3 hq => ?_) (fun ch H3 hq => ?_)
    ·obtain ⟨q, hq1, hq2, hq3⟩ := hq
     have hfin : (fat b { a with defers := coll r :: a.defers } (.inRangeFunc l :: k)).finish v = fat b { a with defers := coll r :: a.defers } (.endRangeFunc l :: k) := rfl
     rw [hfin]
     refine WPG.tree (s := Instr.endLoop l) (K := fun x H' => x = q.pending /\ H' = H3.set l (.loop { q with state := .exhausted })) (E := fun _ _ => False) rfl (wpS_endLoop hq1 hq2 _ _ ⟨rfl, rfl⟩)
      (fun g' H' => g' = G (fat b { a with defers := coll r :: a.defers } ((q.pending.map Item.code).toList ++ k)) cs /\ H' = H3.set l (.loop { q with state := .exhausted })) (fun w w' H' es v hr' hm hk' => ?_) (fun _ _ _ _ _ _ _ he => he.elim) ?_
     ·obtain ⟨rfl, rfl⟩ := hk'
      refine ⟨_, seen P b.fn es, ?_, fun e => mem_seen, rfl, rfl⟩
      simp [stepG, stepG.exec, fat, G, hr', GStep.after, -Sem.runT_eq]
     ·rintro g' H' ⟨rfl, rfl⟩
      cases hp : q.pending with
      | none =>
       rw [hp] at hq3
       exact hc _ _ _ hq3
      | some j =>
       rw [hp] at hq3
       cases j with
       | exit id => exact hc _ _ _ hq3 k rfl
       | ret => exact hc _ _ _ hq3 k
       | _ => exact hq3.elim
    ·exact hc (.panic ch) _ _ hq _
  ·exact hv.elim
 ·exact hv.elim
theorem wpS_take {r : Nat} {ds : List Deferred} (h : H r = some (true, .deferred (some ds))) (K : List Deferred -> Hp -> Prop) (E : Value -> Hp -> Prop) (hk : K ds (H.set r (.deferred none))) : wpS P (Instr.takeDeferred r) H K E := by
 unfold Instr.takeDeferred
 rw [wpS_bind']
 refine ⟨true, _, h, rfl, rfl, ?_⟩
 rw [wpS_purec]
 simp only [wpS_bind', wpS_pure]
 exact ⟨_, h, rfl, rfl, hk⟩
theorem DefX_coll {r : Nat} {R : FrameMode -> Hp -> Prop} (h : H r = some (true, .deferred (some []))) (hk : R .returning (H.set r (.deferred none))) : DefX P main .returning (coll r) H R := by
 intro c cs Stop hm hR
 refine WPG.tree (s := Instr.takeDeferred r) (K := fun x H' => x = [] /\ H' = H.set r (.deferred none)) (E := fun _ _ => False) rfl (wpS_take h _ _ ⟨rfl, rfl⟩)
  (fun g' H' => g' = G c cs /\ H' = H.set r (.deferred none)) (fun w w' H' es v hr' hm' hk' => ?_) (fun _ _ _ _ _ _ _ he => he.elim) ?_
 ·obtain ⟨rfl, rfl⟩ := hk'
  refine ⟨_, seen P c.fn es, ?_, fun e => mem_seen, rfl, rfl⟩
  simp [stepG, unwind, G, hm, coll, hr', GStep.after, -Sem.runT_eq]
  cases c; simp_all
 ·rintro g' H' ⟨rfl, rfl⟩
  have := hR _ _ hk
  rwa [<- hm] at this
theorem bodyX_coll {fn : Func} {R : Ending -> Hp -> Prop} {n : Nat} {e : Nat -> Value} {r : Nat} (h : H r = some (true, .deferred (some [])))
  (hk : wpS P (results fn (act n e [coll r]).tmps) (H.set r (.deferred none)) (fun v H' => R (.returned v) H') fun _ _ => False) : bodyX P main fn R .ret (act n e [coll r]) H :=
 DefX_coll h hk
def bodyD (P : Program) (fn : Func) (R : Hp -> Prop) : Exit -> Act -> Hp -> Prop
 | .normal, a, H | .ret, a, H => a.defers = [] /\ wpS P (results fn a.tmps) H (fun _ H' => R H') fun _ _ => False
 | _, _, _ => False
theorem DefX_call {f : FuncId} {fn : Func} {c : Code} {args cap : Array Value} {R : FrameMode -> Hp -> Prop} (hf : P.funcs[f]? = some fn) (hb : fn.body = some c)
  (hcall : ∀ (args : Array Value) (H : Hp) (K : Next -> Hp -> Prop) (E : Value -> Hp -> Prop), wpS P (callFunc f args) H K E = K (.enter f args) H)
  (h : wpX P main none c (bodyD P fn (R .returning)) { tmps := (args ++ cap) ++ Array.replicate (fn.ntmps - (args ++ cap).size) undef, defers := [] } H) : DefX P main .returning { target := .fn (.func f) cap, args := args } H R := by
 intro fr cs Stop hm hR
 have h2 : wpS P (invoke (.fn (.func f) cap) args) H (fun x H' => x = .enter f (args ++ cap) /\ H' = H) (fun _ _ => False) := by
  simp only [invoke]
  rw [hcall]
  exact ⟨rfl, rfl⟩
 refine WPG.tree (s := invoke (.fn (.func f) cap) args) rfl h2 (fun g' H' => g' = G (Frame.enter P f (args ++ cap) .deferred) (fr :: cs) /\ H' = H) (fun w w' H' es v hr' hm' hk' => ?_) (fun _ _ _ _ _ _ _ he => he.elim) ?_
 ·obtain ⟨rfl, rfl⟩ := hk'
  refine ⟨_, seen P fr.fn es, ?_, fun e => mem_seen, rfl, rfl⟩
  simp [stepG, unwind, callDeferred, G, hm, hr', GStep.after, -Sem.runT_eq]
  cases fr; simp_all
 ·rintro g' H' ⟨rfl, rfl⟩
  have he : Frame.enter P f (args ++ cap) .deferred = fat { base f with kind := .deferred } { tmps := (args ++ cap) ++ Array.replicate (fn.ntmps - (args ++ cap).size) undef, defers := [] } [.code c] := by
   simp [Frame.enter, fat, hf, hb, base]; rfl
  rw [he]
  have hret : ∀ (a' : Act) (H' : Hp) (k' : List Item), a'.defers = [] -> wpS P (results fn a'.tmps) H' (fun _ H' => R .returning H') (fun _ _ => False) -> WPG P main Stop (G { fat { base f with kind := .deferred } a' k' with mode := .returning } (fr :: cs)) H' := fun a' H' k' hd hq => by
   refine WPG.tree rfl hq (fun g' H' => g' = G fr cs /\ R .returning H') (fun w w' H' es v hr' hm' hk' => ?_) (fun _ _ _ _ _ _ _ he => he.elim) ?_
   ·refine ⟨_, seen P f es, ?_, fun e => mem_seen, rfl, hk'⟩
    simp [stepG, unwind, doReturn, fat, G, base, hd, hf, hr', hm, GStep.after, -Sem.runT_eq]
   ·rintro g' H' ⟨rfl, hq⟩
    have := hR _ _ hq
    rwa [<- hm] at this
  refine h { base f with kind := .deferred } [] (fr :: cs) Stop (by simp [base]) rfl fun e a' H' q => ?_
  cases e with
  | normal => exact .ctl (g' := G { fat { base f with kind := .deferred } a' [] with mode := .returning } (fr :: cs)) rfl (fun w => by simp [G, stepG, stepG.exec, fat, base]; rfl) (hret a' H' _ q.1 q.2)
  | ret => exact fun k' => .ctl (g' := G { fat { base f with kind := .deferred } a' (.code .ret :: k') with mode := .returning } (fr :: cs)) rfl (fun w => by simp [G, stepG, stepG.exec, fat, base]; rfl) (hret a' H' _ q.1 q.2)
  | panic ch => exact q.elim
  | exit id => exact q.elim
  | goto l => exact q.elim
  | outgrown => exact q.elim
end
end Go.X
end
section
namespace Go.X
open Go
theorem cells_nilFunc : Value.nilFunc.cells = #[.nilFunc] := rfl
theorem cells_func (f : Fn) (a b : Array Value) : (Value.func f a b).cells = #[.func f a b] := rfl
def CallV (P : Program) (main : Md) (v : Value) (args : Array Value) (H : Hp) (R : Ending -> Hp -> Prop) : Prop :=
 ∀ (K : Next -> Hp -> Prop) (E : Value -> Hp -> Prop), (∀ f ar H', Runs P main (Frame.enter P f ar .normal) H' R -> K (.enter f ar) H') ->
  (∀ l f tmps ar body H', Runs P main (Frame.round l f tmps ar body .normal) H' R -> K (.round l f tmps ar body) H') -> callK P v args H K E
theorem CallV.mono {P : Program} {main : Md} {v : Value} {args : Array Value} {H : Hp} {R R' : Ending -> Hp -> Prop} (h : CallV P main v args H R) (hr : ∀ e H', R e H' -> R' e H') : CallV P main v args H R' :=
 fun K E h1 h2 => h K E (fun f ar H' x => h1 f ar H' (x.mono hr)) fun l f tmps ar body H' x => h2 l f tmps ar body H' (x.mono hr)
theorem CallV.use {P : Program} {main : Md} {lp : Option Nat} {v : Value} {args : Array Value} {H : Hp} {R : Ending -> Hp -> Prop} {o : Oper} {a : Act} {next : Act -> Hp -> Prop} {Q : Exit -> Act -> Hp -> Prop} {E : Value -> Hp -> Prop}
  (h : CallV P main v args H R) (hk : ∀ e H', R e H' -> onEnd next Q o.dst a e H') : callK P v args H (uponX P main lp o a next Q) E := by
 refine h _ _ (fun f ar H' hr => ?_) (fun l f tmps ar body H' hr => ?_)
 ·rw [uponX_enterK]
  exact hr.mono hk
 ·have hx : uponX P main lp o a next Q (.round l f tmps ar body) H' = Runs P main (Frame.round l f tmps ar body .normal) H' (onEnd next Q o.dst a) := by
   unfold uponX
   congr 1
  rw [hx]
  exact hr.mono hk
def deferK (P : Program) (v : Value) (args : Array Value) (H : Hp) (K : Next -> Hp -> Prop) (E : Value -> Hp -> Prop) : Prop := wpS P (Deferred.ofValue v args) H (fun x H' => K (.defer x) H') E
theorem ex_deferV {P : Program} {H : Hp} (a : Act) (d : Option Tmp) (ty : TypeId) (pos : String) (af : Array Edge) (g : Option (Nat × Bool)) (K : Next -> Hp -> Prop) (E : Value -> Hp -> Prop) {t : Tmp} {args : Array Operand} {ats : Array TypeId} :
 wpS P (execOp a.eval ⟨d, .defer ⟨.value (.tmp t), args, ats⟩, ty, pos, af, g⟩) H K E = deferK P (a.eval (.tmp t)) (args.map a.eval) H K E := ex_defer _ _ _ _ _ _ _ _ _
theorem deferK_func {P : Program} {H : Hp} (f : FuncId) (cap args : Array Value) (K : Next -> Hp -> Prop) (E : Value -> Hp -> Prop) : deferK P (.func (.func f) #[] cap) args H K E = K (.defer { target := .fn (.func f) cap, args := args }) H := by
 simp [deferK, Deferred.ofValue, wpS_pure]
@[congr] theorem deferK_congr {P : Program} {c c' : Value} {args args' : Array Value} {K : Next -> Hp -> Prop} {E : Value -> Hp -> Prop} {H H' : Hp} (hc : c = c') (ha : args = args') (hH : H = H') : deferK P c args H K E = deferK P c' args' H' K E := by subst hc ha hH; rfl
theorem uponX_deferK {P : Program} {main : Md} {o : Oper} {n : Nat} {e : Nat -> Value} {ds : List Deferred} {H : Hp} {K : Act -> Hp -> Prop} {Q : Exit -> Act -> Hp -> Prop} (d : Deferred) : uponX P main none o (act n e ds) K Q (.defer d) H = K ((act n e (d :: ds)).put o.dst undef) H := by
 simp [uponX]; rfl
structure Client (P : Program) (main : Md) (y : Value) (S : Nat -> Prop) (arg : Hp -> Value -> List Int -> Prop) (A : List Int -> Prop) (T : Bool -> List (List Int) -> Hp -> Prop) : Prop where
 keep : ∀ t L H H', T t L H -> (∀ b x, S b -> H b = some x -> H' b = some x) -> T t L H'
 ex : ∀ t L H b, T t L H -> S b -> H b ≠ none
 call : ∀ L H v l, T true L H -> arg H v l -> A l -> CallV P main y #[v] H fun e H' => ∃ t, e = .returned (.bool t) /\ T t (L ++ [l]) H' /\ ∀ b x, ¬ S b -> H b = some x -> H' b = some x
structure ClientS (P : Program) (main : Md) (y : Value) (arg : Hp -> Value -> List Int -> Prop) (A : List Int -> Prop) (T : (Nat -> Prop) -> Bool -> List (List Int) -> Hp -> Prop) : Prop where
 keep : ∀ S t L H H', T S t L H -> (∀ b x, S b -> H b = some x -> H' b = some x) -> T S t L H'
 ex : ∀ S t L H b, T S t L H -> S b -> H b ≠ none
 call : ∀ S L H v l, T S true L H -> arg H v l -> A l -> CallV P main y #[v] H fun e H' => ∃ t S', e = .returned (.bool t) /\ T S' t (L ++ [l]) H' /\ (∀ b, S' b -> S b ∨ H b = none) /\ ∀ b x, ¬ S b -> H b = some x -> H' b = some x
theorem Client.toS {P : Program} {main : Md} {y : Value} {S : Nat -> Prop} {arg : Hp -> Value -> List Int -> Prop} {A : List Int -> Prop} {T : Bool -> List (List Int) -> Hp -> Prop} (h : Client P main y S arg A T) :
  ClientS P main y arg A fun S' t L H => S' = S /\ T t L H where
 keep := fun S' t L H H' hT hk => ⟨hT.1, h.keep _ _ _ _ hT.2 (by rw [<- hT.1]; exact hk)⟩
 ex := fun S' t L H b hT hb => h.ex _ _ _ _ hT.2 (by rw [<- hT.1]; exact hb)
 call := fun S' L H v l hT ha hA => (h.call L H v l hT.2 ha hA).mono fun e H' ⟨t, h1, h2, h3⟩ => ⟨t, S', h1, ⟨hT.1, h2⟩, fun _ hb => .inl hb, by rw [hT.1]; exact h3⟩
end Go.X
namespace Go.Proofs.YtofmadjgbcopdaaGreatDoor
open Go Go.X
def y139_47 := And.intro (fun H => ex_alloc (H := H) (P := Tryz.prog) (h := Tryz.zeroValue22)) (And.intro (fun H => ex_alloc (H := H) (P := Tryz.prog) (h := Tryz.zeroValue114)) (And.intro (fun H => ex_alloc (H := H) (P := Tryz.prog) (h := Tryz.zeroValue198)) (And.intro (fun H => storeAt_func (H := H) Tryz.sizeOf198) (And.intro (fun H => storeAt_nilFunc (H := H) Tryz.sizeOf198) (And.intro (fun H => storeAt_func (H := H) Tryz.sizeOf114) (And.intro (fun H => storeAt_nilFunc (H := H) Tryz.sizeOf114) (And.intro (fun H => loadAt_one (H := H) Tryz.underlying114 rfl) (And.intro (fun H => loadAt_one (H := H) Tryz.underlying81 rfl) (And.intro (fun H => fieldAt_eq (H := H) Tryz.underlying85 (i := 1) rfl (off := 12) rfl Tryz.sizeOf22) (And.intro (fun H => loadAt_one (H := H) Tryz.underlying22 rfl) (fun H => len_slice (H := H) Tryz.underlying22)))))))))))
def y140_47 := And.intro (fun H => loadAt_one (H := H) Tryz.underlying22 rfl) (And.intro @lit_22_1_0_0 (And.intro (fun H => storeAt_slice (H := H) Tryz.sizeOf22) (fun H => loadAt_one (H := H) Tryz.underlying114 rfl)))
def y141_47 := And.intro (fun H => loadAt_one (H := H) Tryz.underlying22 rfl) (And.intro (fun H => len_slice (H := H) Tryz.underlying22) (And.intro (fun H => slice_hi (H := H) Tryz.underlying22 Tryz.sizeOf3) (And.intro (fun H => slice_lo (H := H) Tryz.underlying22 Tryz.sizeOf3) (And.intro (fun H => slice_lohi (H := H) Tryz.underlying22 Tryz.sizeOf3) (fun H => storeAt_slice (H := H) Tryz.sizeOf22)))))
def y142_47 := And.intro (fun H => loadAt_one (H := H) Tryz.underlying56 rfl) (And.intro (fun H => loadAt_one (H := H) Tryz.underlying22 rfl) (And.intro (fun H => loadAt_one (H := H) Tryz.underlying81 rfl) (And.intro (fun H => fieldAt_eq (H := H) Tryz.underlying85 (i := 0) rfl (off := 0) rfl Tryz.sizeOf29) (And.intro (fun H => fieldAt_eq (H := H) Tryz.underlying29 (i := 5) rfl (off := 8) rfl Tryz.sizeOf3) (And.intro (fun H => loadAt_one (H := H) Tryz.underlying3 rfl) (And.intro @min_int (fun H => loadAt_one (H := H) Tryz.underlying198 rfl)))))))
def OwnR (e : TypeId) (H : Hp) (v : Value) (cs : List Value) : Prop :=
 (v = .slice none 0 0 /\ cs = []) ∨
 ∃ (b : Nat) (c : Array Value) (cap : Nat), H b = some (true, .cells c e (0, 0)) /\ v = .slice (some ⟨b, 0, none⟩) cs.length cap /\ c.size = cap /\ cs.length <= cap /\ ∀ (i : Nat) (u : Value), cs[i]? = some u -> c[i]? = some u
theorem OwnR.row {H : Hp} {v : Value} {e : TypeId} {cs : List Value} (h : OwnR e H v cs) : RowX none (fun x => if rowB v = some x then none else H x) H v e cs := by
 refine ⟨fun x u hx => ⟨u, ?_, fun _ => rfl⟩, ?_⟩
 ·by_cases hb : rowB v = some x
  ·simp only [hb, if_true] at hx; cases hx
  ·simpa only [hb, if_false] using hx
 ·rcases h with h | ⟨b, c, cap, h1, h2, h3, h4, h5⟩
  ·exact .inl h
  ·exact .inr ⟨b, c, cap, by rw [h2]; simp [rowB], h1, h2, h3, h4, h5⟩
theorem ownR_of {t : Option Nat} {H₀ H : Hp} {v : Value} {e : TypeId} {cs : List Value} (h : RowX t H₀ H v e cs) : OwnR e H v cs := by
 rcases h.2 with h | ⟨b, c, cap, _, h1, h2, h3, h4, h5⟩
 ·exact .inl h
 ·exact .inr ⟨b, c, cap, h1, h2, h3, h4, h5⟩
theorem OwnR.ints {H : Hp} {v : Value} {xs : List Int} (h : OwnR 3 H v (ints xs)) : SlI H v xs := h.row.ints
theorem OwnR.move {H H' : Hp} {v : Value} {e : TypeId} {cs : List Value} (h : OwnR e H v cs) (hk : ∀ b x, rowB v = some b -> H b = some x -> H' b = some x) : OwnR e H' v cs := by
 rcases h with h | ⟨b, c, cap, h1, h2, h3, h4, h5⟩
 ·exact .inl h
 ·exact .inr ⟨b, c, cap, hk b _ (by rw [h2]; rfl) h1, h2, h3, h4, h5⟩
theorem OwnR.cut {H : Hp} {v : Value} {e : TypeId} {cs : List Value} {u : Value} (h : OwnR e H v (cs ++ [u])) : ∃ b cap, v = .slice (some ⟨b, 0, none⟩) (cs.length + 1) cap /\ cs.length + 1 <= cap /\ OwnR e H (.slice (some ⟨b, 0, none⟩) cs.length cap) cs := by
 rcases h with ⟨_, h⟩ | ⟨b, c, cap, h1, h2, h3, h4, h5⟩
 ·simp at h
 ·simp only [List.length_append, List.length_cons, List.length_nil] at h2 h4
  refine ⟨b, cap, h2, by omega, .inr ⟨b, c, cap, h1, rfl, h3, by omega, fun i u hi => h5 i u ?_⟩⟩
  rw [List.getElem?_append_left (List.getElem?_eq_some_iff.1 hi).1]
  exact hi
theorem OwnR.at {H : Hp} {v : Value} {e : TypeId} {cs : List Value} (h : OwnR e H v cs) {b : Nat} (hb : rowB v = some b) : ∃ c, H b = some (true, .cells c e (0, 0)) := by
 rcases h with ⟨rfl, _⟩ | ⟨b', c, cap, h1, rfl, h3, h4, h5⟩
 ·cases hb
 ·cases hb
  exact ⟨c, h1⟩
def comps (m : Nat) : Nat -> List (List Int)
 | 0 => [[]]
 | n + 1 => (List.range (min (n + 1) m)).flatMap fun i => (comps m (n - i)).map fun l => (i + 1 : Int) :: l
decreasing_by omega
theorem comps_pos (m n : Nat) (h : 0 < n) : comps m n = (List.range (min n m)).flatMap fun i => (comps m (n - (i + 1))).map fun l => (i + 1 : Int) :: l := by
 obtain ⟨k, rfl⟩ : ∃ k, n = k + 1 := ⟨n - 1, by omega⟩
 rw [comps]
 congr 1
 funext i
 rw [show k + 1 - (i + 1) = k - i by omega]
structure Plans (S : Nat -> Prop) (T : (Nat -> Prop) -> Bool -> List (List Int) -> Hp -> Prop) (y : Value) (yb tb gb ob thisb : Nat) (t : Bool) (L : List (List Int)) (p : List Int) (H : Hp) : Prop where
 cl : T S t L H
 vy : H yb = some (true, .cells #[y] 56 (0, 0))
 vg : H gb = some (true, .cells #[.func (.func 142) #[] #[.pointer (some ⟨yb, 0, none⟩), .pointer (some ⟨tb, 0, none⟩), .pointer (some ⟨thisb, 0, none⟩), .pointer (some ⟨ob, 0, none⟩)]] 114 (0, 0))
 vo : H ob = some (true, .cells #[.func (.func 140) #[] #[.pointer (some ⟨tb, 0, none⟩), .pointer (some ⟨gb, 0, none⟩)]] 198 (0, 0))
 vt : ∃ v, H tb = some (true, .cells #[v] 22 (0, 0)) /\ OwnR 3 H v (ints p) /\ ∀ b, rowB v = some b -> ¬ S b
 ny : ¬ S yb
 ng : ¬ S gb
 no : ¬ S ob
 nt : ¬ S tb
theorem Plans.put {P : Program} {main : Md} {S : Nat -> Prop} {A : List Int -> Prop} {arg : Hp -> Value -> List Int -> Prop} {T : (Nat -> Prop) -> Bool -> List (List Int) -> Hp -> Prop} {y : Value} {yb tb gb ob thisb : Nat} (hC : ClientS P main y arg A T) {H0 H : Hp} {t : Bool} {L : List (List Int)} {p p0 : List Int} {v : Value}
  (hP : Plans S T y yb tb gb ob thisb t L p0 H0) (hk : ∀ b x, H0 b = some x -> (S b ∨ ∀ c, x ≠ (true, .cells c 3 (0, 0))) -> H b = some x) (hv : OwnR 3 H v (ints p)) (hS : ∀ b, rowB v = some b -> ¬ S b) : Plans S T y yb tb gb ob thisb t L p (H.set tb (.cells #[v] 22 (0, 0))) := by
 obtain ⟨v0, vt, _⟩ := hP.vt
 have vt1 := hk _ _ vt (.inr fun c e => by cases e)
 have vy := hk _ _ hP.vy (.inr fun c e => by cases e)
 have vg := hk _ _ hP.vg (.inr fun c e => by cases e)
 have vo := hk _ _ hP.vo (.inr fun c e => by cases e)
 refine ⟨?_, ?_, ?_, ?_, ⟨v, set_at, hv.move fun b x hb hx => ?_, hS⟩, hP.ny, hP.ng, hP.no, hP.nt⟩
 ·refine hC.keep _ _ _ H0 _ hP.cl fun b x hb hx => ?_
  rw [set_ne (fun e : b = tb => hP.nt (by rw [<- e]; exact hb))]
  exact hk b x hx (.inl hb)
 ·rw [set_ne (fun e => by rw [e, vt1] at vy; cases vy)]; exact vy
 ·rw [set_ne (fun e => by rw [e, vt1] at vg; cases vg)]; exact vg
 ·rw [set_ne (fun e => by rw [e, vt1] at vo; cases vo)]; exact vo
 ·obtain ⟨c, hc⟩ := hv.at hb
  rw [set_ne (fun e => by rw [e, vt1] at hc; cases hc)]
  exact hx
theorem off_spec (main : Md) (H : Hp) (tb : Nat) (v : Value) (xs : List Int) (x : Int) (hv : H tb = some (true, .cells #[v] 22 (0, 0))) (ho : OwnR 3 H v (ints (xs ++ [x]))) (hl : xs.length <= 1000000) (R : FrameMode -> Hp -> Prop)
  (h : ∀ v', OwnR 3 H v' (ints xs) -> rowB v' = rowB v -> R .returning (H.set tb (.cells #[v'] 22 (0, 0)))) :
  DefX Tryz.prog main .returning { target := .fn (.func 141) #[.pointer (some ⟨tb, 0, none⟩)], args := #[] } H R := by
 rw [ints_app] at ho
 obtain ⟨b, cap, hv', hc, ho'⟩ := OwnR.cut (u := .int .i64 x) ho
 rw [ints_len] at hv' hc ho'
 subst hv'
 refine DefX_call Tryz.func141 rfl (fun _ _ => callF141 _) ?_
 rw [Tryz.ntmps141]
 rw [show ((#[] : Array Value) ++ #[.pointer (some ⟨tb, 0, none⟩)]) = [Value.pointer (some ⟨tb, 0, none⟩)].toArray from rfl, enter_act (by simp)]
 have hR := h _ ho' rfl
 (refine @unH _ ?_; refine zA y141_47 ?_; (repeat (refine inC ?_; intro hc)); try (refine inK ?_; intro K hK))
 refine ⟨rfl, ?_⟩
 rw [results_zero Tryz.results141, show ((xs.length + 1 : Nat) - 1 : Int).toNat = xs.length by omega]
 exact hR
theorem take_spec (main : Md) {S : Nat -> Prop} {A : List Int -> Prop} {T : (Nat -> Prop) -> Bool -> List (List Int) -> Hp -> Prop} {y : Value} {yb tb gb ob thisb : Nat} (hC : ClientS Tryz.prog main y (fun H v xs => SlI H v xs) A T)
  (n left : Nat) (hn : n <= left) (hl : left <= 1000) (p : List Int) (hp : p.length <= 1000) (L : List (List Int)) (X : List (List Int)) (H : Hp) (hP : Plans S T y yb tb gb ob thisb true L p H)
  (ih : ∀ H', Plans S T y yb tb gb ob thisb true L (p ++ [(n : Int)]) H' -> FnX Tryz.prog main 142 #[.int .i64 (left - n : Nat), .pointer (some ⟨yb, 0, none⟩), .pointer (some ⟨tb, 0, none⟩), .pointer (some ⟨thisb, 0, none⟩), .pointer (some ⟨ob, 0, none⟩)] H' fun e H'' => ∃ t L' S', e = .returned (.bool t) /\ Plans S' T y yb tb gb ob thisb t L' (p ++ [(n : Int)]) H'' /\ (t = true -> L' = L ++ X) /\ L' <+: L ++ X) :
  FnX Tryz.prog main 140 #[.int .i64 n, .int .i64 left, .pointer (some ⟨tb, 0, none⟩), .pointer (some ⟨gb, 0, none⟩)] H fun e H' => ∃ t L' S', e = .returned (.bool t) /\ Plans S' T y yb tb gb ob thisb t L' p H' /\ (t = true -> L' = L ++ X) /\ L' <+: L ++ X := by
 obtain ⟨v, vt, hv, hvS⟩ := hP.vt
 have vy := hP.vy
 have vg := hP.vg
 have vo := hP.vo
 obtain ⟨va, vc, rfl⟩ := hv.row.len
 have hpl : (ints p).length <= 1000000 := by rw [ints_len]; omega
 refine FnX_start Tryz.func140 rfl Tryz.ntmps140 (by simp) ?_
 (refine @unH _ ?_; refine zA (And.intro y140_47 (And.intro @ex_deferV (And.intro @deferK_func @uponX_deferK))) ?_; (repeat (refine inC ?_; intro hc)); try (refine inK ?_; intro K hK))
 intro g hg
 have ngt : tb ≠ g := ne_new vt hg
 ((try (refine @unH _ ?_; refine zX (And.intro y140_47 (And.intro @ex_deferV (And.intro @deferK_func @uponX_deferK))) ?_)); (try (refine hK _ _ ?_; clear hK K; (try simp only [nq, ↓reduceIte, Nat.reduceEqDiff]))); refine @unH _ ?_; refine zA (And.intro y140_47 (And.intro @ex_deferV (And.intro @deferK_func @uponX_deferK))) ?_; (repeat (refine inC ?_; intro hc)); try (refine inK ?_; intro K hK))
 refine append_row2 Tryz.underlying22 Tryz.sizeOf3 Tryz.zeroValue3 rfl Tryz.typeInfo3 (by decide) (by decide) hv.row hg rfl hpl _ _ _ _ (fun v2 H2 hv2 hkeep hnew => ?_)
 have hk2 : ∀ b x, H b = some x -> (S b ∨ ∀ c, x ≠ (true, .cells c 3 (0, 0))) -> H2 b = some x := fun b x hx h => hkeep b x hx fun e => by
  rcases h with h | h
  ·exact hvS b e h
  ·obtain ⟨c, hc⟩ := hv.at e
   rw [hx] at hc
   exact h c (Option.some.inj hc)
 have hown2 : OwnR 3 H2 v2 (ints (p ++ [(n : Int)])) := by rw [ints_app]; exact ownR_of hv2
 have hS2 : ∀ b, rowB v2 = some b -> ¬ S b := fun b hb hs => by
  rcases hnew b hb with h | h
  ·exact hvS b h hs
  ·exact hC.ex _ _ _ _ b hP.cl hs h
 have hP2 := Plans.put hC hP hk2 hown2 hS2
 have vt2 := hk2 _ _ vt (.inr fun c e => by cases e)
 obtain ⟨wa, wc, rfl⟩ := hv2.len
 have vg2 := hk2 _ _ vg (.inr fun c e => by cases e)
 have ngb : gb ≠ tb := fun e => by rw [e, vt2] at vg2; cases vg2
 clear hv2 hkeep hnew hown2 hS2 hk2 hP vt vy vg vo hv hvS
 generalize (ints p ++ [Value.int .i64 (n : Int)]).length = n2 at *
 have hr := ih _ hP2
 rw [Int.ofNat_sub hn] at hr
 ((try (refine @unH _ ?_; refine zX (And.intro y140_47 (And.intro @ex_deferV (And.intro @deferK_func @uponX_deferK))) ?_)); (try (refine hK _ _ ?_; clear hK K; (try simp only [nq, ↓reduceIte, Nat.reduceEqDiff]))); refine @unH _ ?_; refine zA (And.intro y140_47 (And.intro @ex_deferV (And.intro @deferK_func @uponX_deferK))) ?_; (repeat (refine inC ?_; intro hc)); try (refine inK ?_; intro K hK))
 rw [callF142, uponX_enterK]
 simp only [Array.empty_append, List.append_toArray, List.cons_append, List.nil_append]
 refine hr.runs.mono ?_
 rintro _ H4 ⟨t, L', S', rfl, hP4, hL⟩
 clear hr ih vg2 vt2 hP2 ngt hg
 ((try (refine @unH _ ?_; refine zX (And.intro y140_47 (And.intro @ex_deferV (And.intro @deferK_func @uponX_deferK))) ?_)); (try (refine hK _ _ ?_; clear hK K; (try simp only [nq, ↓reduceIte, Nat.reduceEqDiff]))); refine @unH _ ?_; refine zA (And.intro y140_47 (And.intro @ex_deferV (And.intro @deferK_func @uponX_deferK))) ?_; (repeat (refine inC ?_; intro hc)); try (refine inK ?_; intro K hK))
 refine wpX_ret ?_
 (try simp only [nq, ↓reduceIte, Nat.reduceEqDiff])
 obtain ⟨v4, vt4, hv4, hS4⟩ := hP4.vt
 refine off_spec main H4 tb v4 p n vt4 hv4 (by omega) _ fun v5 hv5 hb5 => ?_
 show wpS _ (results _ _) _ _ _
 rw [results_one Tryz.results140 (by decide)]
 refine ⟨t, L', S', rfl, ?_, hL⟩
 exact Plans.put hC hP4 (fun b x hx _ => hx) hv5 fun b hb => hS4 b (by rw [<- hb5]; exact hb)
def begun (m left : Nat) (p : List Int) (i : Nat) : List (List Int) := ((List.range i).flatMap fun j => (comps m (left - (j + 1))).map fun l => (j + 1 : Int) :: l).map (p ++ ·)
theorem begun_succ (m left : Nat) (p : List Int) (i : Nat) : begun m left p (i + 1) = begun m left p i ++ (comps m (left - (i + 1))).map ((p ++ [((i + 1 : Nat) : Int)]) ++ ·) := by
 simp [begun, List.range_succ, List.flatMap_append, List.map_map, Function.comp_def]
theorem begun_mono (m left : Nat) (p : List Int) {i j : Nat} (h : i <= j) : begun m left p i <+: begun m left p j := by
 obtain ⟨k, rfl⟩ := Nat.exists_eq_add_of_le h
 clear h
 induction k with
 | zero => exact List.prefix_refl _
 | succ k ih => rw [<- Nat.add_assoc, begun_succ]; exact ih.trans (List.prefix_append _ _)
theorem begun_all (m left : Nat) (p : List Int) (h : 0 < left) : begun m left p (min left m) = (comps m left).map (p ++ ·) := by
 rw [comps_pos m left h, begun]
theorem comps_mem (m left i : Nat) (h : i < min left m) {l : List Int} (hl : l ∈ comps m (left - (i + 1))) : ((i + 1 : Nat) : Int) :: l ∈ comps m left := by
 rw [comps_pos m left (by omega), List.mem_flatMap]
 exact ⟨i, List.mem_range.2 h, List.mem_map.2 ⟨l, hl, by simp⟩⟩
theorem grow_spec (main : Md) {A : List Int -> Prop} {T : (Nat -> Prop) -> Bool -> List (List Int) -> Hp -> Prop} {yf : Fn} {yi yc : Array Value} {yb tb gb ob thisb : Nat} (m : Nat) (hm : m <= 1000) (hC : ClientS Tryz.prog main (.func yf yi yc) (fun H v xs => SlI H v xs) A T)
  (hthis : ∀ S L H, T S true L H -> ∃ hb n v jv, H thisb = some (true, .cells #[.pointer (some ⟨hb, 0, none⟩)] 81 (0, 0)) /\ H hb = some (true, HN.obj n v jv) /\ n.load = m) (left : Nat) :
  ∀ (hl : left <= 1000) (p : List Int) (hp : p.length + left <= 1000) (L : List (List Int)) (S : Nat -> Prop) (H : Hp) (hP : Plans S T (.func yf yi yc) yb tb gb ob thisb true L p H) (hA : ∀ l ∈ comps m left, A (p ++ l)),
  FnX Tryz.prog main 142 #[.int .i64 left, .pointer (some ⟨yb, 0, none⟩), .pointer (some ⟨tb, 0, none⟩), .pointer (some ⟨thisb, 0, none⟩), .pointer (some ⟨ob, 0, none⟩)] H fun e H' => ∃ t L' S', e = .returned (.bool t) /\ Plans S' T (.func yf yi yc) yb tb gb ob thisb t L' p H' /\ (t = true -> L' = L ++ (comps m left).map (p ++ ·)) /\ L' <+: L ++ (comps m left).map (p ++ ·) := by
 induction left using Nat.strongRecOn with
 | _ left ih =>
 intro hl p hp L S H hP hA
 obtain ⟨v, vt, hv, hvS⟩ := hP.vt
 have vy := hP.vy
 have vo := hP.vo
 obtain ⟨hb, n, hv', jv, vth, vhb, hload⟩ := hthis _ _ _ hP.cl
 simp only [HN.obj] at vhb
 obtain ⟨va, vc, rfl⟩ := hv.row.len
 by_cases h0 : left = 0
 ·subst h0
  refine FnX_start Tryz.func142 rfl Tryz.ntmps142 (by simp) ?_
  (refine @unH _ ?_; refine zA y142_47 ?_; (repeat (refine inC ?_; intro hc)); try (refine inK ?_; intro K hK))
  ·have hcall := hC.call S L H _ p hP.cl hv.ints (by simpa [comps] using hA)
   refine CallV.use hcall ?_
   clear hcall
   rintro _ H2 ⟨t, S', rfl, hT, hS', hk⟩
   have hne : ∀ b x, ¬ S b -> H b = some x -> ¬ S' b := fun b x h1 h2 h3 => (hS' b h3).elim h1 fun h4 => by rw [h2] at h4; cases h4
   have hP2 : Plans S' T (.func yf yi yc) yb tb gb ob thisb t (L ++ [p]) p H2 := ⟨hT, hk _ _ hP.ny vy, hk _ _ hP.ng hP.vg, hk _ _ hP.no vo, ⟨_, hk _ _ hP.nt vt, hv.move fun b x hb hx => hk _ _ (hvS b hb) hx, fun b hb => by obtain ⟨c, hc⟩ := hv.at hb; exact hne b _ (hvS b hb) hc⟩, hne _ _ hP.ny vy, hne _ _ hP.ng hP.vg, hne _ _ hP.no vo, hne _ _ hP.nt vt⟩
   clear vy vo vt vth vhb hk hv hne hS'
   ((try (refine @unH _ ?_; refine zX y142_47 ?_)); (try (refine hK _ _ ?_; clear hK K; (try simp only [nq, ↓reduceIte, Nat.reduceEqDiff]))); refine @unH _ ?_; refine zA y142_47 ?_; (repeat (refine inC ?_; intro hc)); try (refine inK ?_; intro K hK))
   (refine @unH _ ?_; refine z9 Tryz.results142 ?_)
   exact ⟨t, _, S', rfl, hP2, fun _ => by simp [comps], by simp [comps]⟩
 ·refine FnX_start Tryz.func142 rfl Tryz.ntmps142 (by simp) ?_
  (refine @unH _ ?_; refine zA y142_47 ?_; (repeat (refine inC ?_; intro hc)); try (refine inK ?_; intro K hK))
  have hmin : (if (m : Int) < (left : Int) then (m : Int) else (left : Int)) = (min left m : Nat) := by split <;> omega
  rw [hmin]
  clear hmin vy vo vt vth vhb hload hv hvS
  refine wpX_loop (fun w a' H' => ∃ e i S, w = min left m - i /\ i <= min left m /\ a' = act 30 e [] /\ e 0 = .int .i64 left /\ e 4 = .pointer (some ⟨ob, 0, none⟩) /\ e 19 = .int .i64 (min left m : Nat) /\ e 20 = .int .i64 (i : Nat) /\ Plans S T (.func yf yi yc) yb tb gb ob thisb true (L ++ begun m left p i) p H') (n := min left m) ?_ ?_
  ·exact ⟨_, 0, S, by omega, by omega, rfl, rfl, rfl, rfl, rfl, by simpa [begun] using hP⟩
  ·clear hP
   rintro w a' H2 ⟨e, i, S, rfl, hi, rfl, e0, e4, e19, e20, hP2⟩
   have vo := hP2.vo
   have hmm : min left m <= left := by omega
   have hmin := begun_all m left p (by omega)
   have hmem := fun l => comps_mem m left i (l := l)
   generalize min left m = k at *
   by_cases hlt : i < k
   ·have ht := take_spec main hC (i + 1) left (by omega) hl p (by omega) (L ++ begun m left p i) ((comps m (left - (i + 1))).map ((p ++ [((i + 1 : Nat) : Int)]) ++ ·)) H2 hP2 (fun H3 hP3 => ih (left - (i + 1)) (by omega) (by omega) _ (by simp; omega) _ S H3 hP3 (fun l hl => by
      rw [List.append_assoc]
      exact hA _ (hmem l hlt hl)))
    rw [List.append_assoc, <- begun_succ] at ht
    (refine @unH _ ?_; refine zA y142_47 ?_; (repeat (refine inC ?_; intro hc)); try (refine inK ?_; intro K hK))
    rw [callF140, uponX_enterK]
    simp only [Array.empty_append, List.append_toArray, List.cons_append, List.nil_append]
    rw [show (i : Int) + 1 = ((i + 1 : Nat) : Int) by omega]
    refine ht.runs.mono ?_
    clear ht ih hA hmem hthis vo hP2
    rintro _ H3 ⟨t, L', S', rfl, hP3, hL, hpre⟩
    have hpre2 : L' <+: L ++ (comps m left).map (p ++ ·) := by
     rw [<- hmin]
     exact hpre.trans ((List.prefix_append_right_inj _).2 (begun_mono m left p (show i + 1 <= k by omega)))
    clear hpre hmin
    cases t with
    | false =>
     clear hL
     ((try (refine @unH _ ?_; refine zX y142_47 ?_)); (try (refine hK _ _ ?_; clear hK K; (try simp only [nq, ↓reduceIte, Nat.reduceEqDiff]))); refine @unH _ ?_; refine zA y142_47 ?_; (repeat (refine inC ?_; intro hc)); try (refine inK ?_; intro K hK))
     (refine @unH _ ?_; refine z9 Tryz.results142 ?_)
     exact ⟨false, L', S', rfl, hP3, (fun h => by cases h), hpre2⟩
    | true =>
     replace hL := hL rfl
     subst hL
     ((try (refine @unH _ ?_; refine zX y142_47 ?_)); (try (refine hK _ _ ?_; clear hK K; (try simp only [nq, ↓reduceIte, Nat.reduceEqDiff]))); refine @unH _ ?_; refine zA y142_47 ?_; (repeat (refine inC ?_; intro hc)); try (refine inK ?_; intro K hK))
     exact ⟨_, by omega, _, i + 1, S', rfl, hlt, rfl, e0, e4, e19, rfl, hP3⟩
   ·obtain rfl : i = k := by omega
    (refine @unH _ ?_; refine zA y142_47 ?_; (repeat (refine inC ?_; intro hc)); try (refine inK ?_; intro K hK))
    (refine @unH _ ?_; refine z9 Tryz.results142 ?_)
    exact ⟨true, _, S, rfl, hP2, fun _ => by rw [hmin], by rw [hmin]; exact List.prefix_refl _⟩
theorem plansOfS_spec (main : Md) {S : Nat -> Prop} {A : List Int -> Prop} {T : (Nat -> Prop) -> Bool -> List (List Int) -> Hp -> Prop} {yf : Fn} {yi yc : Array Value} {thisb : Nat} (m N : Nat) (hm : m <= 1000) (hN : N <= 1000) (hC : ClientS Tryz.prog main (.func yf yi yc) (fun H v xs => SlI H v xs) A T)
  (hthis : ∀ S L H, T S true L H -> ∃ hb n v ja jc, H thisb = some (true, .cells #[.pointer (some ⟨hb, 0, none⟩)] 81 (0, 0)) /\ H hb = some (true, HN.obj n v (.slice ja N jc)) /\ n.load = m)
  (H : Hp) (hT : T S true [] H) (hA : ∀ l ∈ comps m N, A l) :
  FnX Tryz.prog main 139 #[.func yf yi yc, .pointer (some ⟨thisb, 0, none⟩)] H fun e H' => ∃ t L' v S', e = .returned v /\ T S' t L' H' /\ (t = true -> L' = comps m N) /\ L' <+: comps m N := by
 refine FnX_start Tryz.func139 rfl Tryz.ntmps139 (by simp) ?_
 (refine @unH _ ?_; refine zA (And.intro y139_47 (And.intro @cells_func @cells_nilFunc)) ?_; (repeat (refine inC ?_; intro hc)); try (refine inK ?_; intro K hK))
 (intro yb hyb; generalize hG : Hp.set _ yb _ = H1; have lH1 := le_of_set hG hyb; have vyb := at_of_set hG; clear hG)
 have ny : ¬ S yb := fun h => hC.ex _ _ _ _ _ hT h hyb
 replace hT := hC.keep _ _ _ _ _ hT fun b x _ hx => lH1 _ _ hx
 clear hyb lH1
 ((try (refine @unH _ ?_; refine zX (And.intro y139_47 (And.intro @cells_func @cells_nilFunc)) ?_)); (try (refine hK _ _ ?_; clear hK K; (try simp only [nq, ↓reduceIte, Nat.reduceEqDiff]))); refine @unH _ ?_; refine zA (And.intro y139_47 (And.intro @cells_func @cells_nilFunc)) ?_; (repeat (refine inC ?_; intro hc)); try (refine inK ?_; intro K hK))
 (intro tb htb; generalize hG : Hp.set _ tb _ = H2; have lH2 := le_of_set hG htb; have vtb := at_of_set hG; clear hG)
 have nt : ¬ S tb := fun h => hC.ex _ _ _ _ _ hT h htb
 have vyb2 := lH2 _ _ vyb
 replace hT := hC.keep _ _ _ _ _ hT fun b x _ hx => lH2 _ _ hx
 clear htb lH2 vyb
 ((try (refine @unH _ ?_; refine zX (And.intro y139_47 (And.intro @cells_func @cells_nilFunc)) ?_)); (try (refine hK _ _ ?_; clear hK K; (try simp only [nq, ↓reduceIte, Nat.reduceEqDiff]))); refine @unH _ ?_; refine zA (And.intro y139_47 (And.intro @cells_func @cells_nilFunc)) ?_; (repeat (refine inC ?_; intro hc)); try (refine inK ?_; intro K hK))
 (intro gb hgb; generalize hG : Hp.set _ gb _ = H3; have lH3 := le_of_set hG hgb; have vgb := at_of_set hG; clear hG)
 have ng : ¬ S gb := fun h => hC.ex _ _ _ _ _ hT h hgb
 have vyb3 := lH3 _ _ vyb2
 have vtb3 := lH3 _ _ vtb
 replace hT := hC.keep _ _ _ _ _ hT fun b x _ hx => lH3 _ _ hx
 clear hgb lH3 vyb2 vtb
 ((try (refine @unH _ ?_; refine zX (And.intro y139_47 (And.intro @cells_func @cells_nilFunc)) ?_)); (try (refine hK _ _ ?_; clear hK K; (try simp only [nq, ↓reduceIte, Nat.reduceEqDiff]))); refine @unH _ ?_; refine zA (And.intro y139_47 (And.intro @cells_func @cells_nilFunc)) ?_; (repeat (refine inC ?_; intro hc)); try (refine inK ?_; intro K hK))
 intro ob hob
 have no : ¬ S ob := fun h => hC.ex _ _ _ _ _ hT h hob
 have ngo : gb ≠ ob := ne_new vgb hob
 ((try (refine @unH _ ?_; refine zX (And.intro y139_47 (And.intro @cells_func @cells_nilFunc)) ?_)); (try (refine hK _ _ ?_; clear hK K; (try simp only [nq, ↓reduceIte, Nat.reduceEqDiff]))); refine @unH _ ?_; refine zA (And.intro y139_47 (And.intro @cells_func @cells_nilFunc)) ?_; (repeat (refine inC ?_; intro hc)); try (refine inK ?_; intro K hK))
 generalize hG : Hp.set H3 ob _ = H4
 have lH4 := le_of_set hG hob
 have vob := at_of_set hG
 clear hG
 have vyb4 := lH4 _ _ vyb3
 have vtb4 := lH4 _ _ vtb3
 have vgb4 := lH4 _ _ vgb
 replace hT := hC.keep _ _ _ _ _ hT fun b x _ hx => lH4 _ _ hx
 clear hob lH4 vyb3 vtb3 vgb
 ((try (refine @unH _ ?_; refine zX (And.intro y139_47 (And.intro @cells_func @cells_nilFunc)) ?_)); (try (refine hK _ _ ?_; clear hK K; (try simp only [nq, ↓reduceIte, Nat.reduceEqDiff]))); refine @unH _ ?_; refine zA (And.intro y139_47 (And.intro @cells_func @cells_nilFunc)) ?_; (repeat (refine inC ?_; intro hc)); try (refine inK ?_; intro K hK))
 have ngy : yb ≠ gb := fun e => by rw [e, vgb4] at vyb4; cases vyb4
 have ngt : tb ≠ gb := fun e => by rw [e, vgb4] at vtb4; cases vtb4
 generalize hG : Hp.set H4 gb _ = H5
 have hP : Plans S T (.func yf yi yc) yb tb gb ob thisb true [] [] H5 := by
  subst hG
  refine ⟨hC.keep _ _ _ _ _ hT fun b x hb hx => ?_, ?_, set_at, ?_, ⟨.slice none 0 0, ?_, .inl ⟨rfl, rfl⟩, fun b hb => by cases hb⟩, ny, ng, no, nt⟩
  ·rw [set_ne (fun e : b = gb => ng (by rw [<- e]; exact hb))]; exact hx
  ·rw [set_ne ngy]; exact vyb4
  ·rw [set_ne (fun e => ngo e.symm)]; exact vob
  ·rw [set_ne ngt]; exact vtb4
 clear hG vyb4 vtb4 vgb4 vob hT ngy ngt ngo
 obtain ⟨hb, n, v, ja, jc, vth, vhb, hload⟩ := hthis _ _ _ hP.cl
 simp only [HN.obj] at vhb
 have vgb := hP.vg
 have hg := grow_spec main m hm hC (fun S L H hT => by obtain ⟨hb, n, v, ja, jc, h⟩ := hthis S L H hT; exact ⟨hb, n, v, _, h⟩) N hN [] (by simpa using hN) [] S H5 hP (by simpa using hA)
 clear hload hP
 (refine wpX_dst1 6 [(true, 0), (true, 1), (true, 2), (true, 3), (true, 4), (true, 5), (false, 6)] (by kernel_rfl) (by kernel_rfl) (by simp) (by kernel_rfl) ?_; intro K hK; (iterate 6 (refine @unH _ ?_; refine z3 y139_47 ?_)); refine plan_tail ?_; (refine @unH _ ?_; refine zX y139_47 ?_); try (refine hK _ _ ?_; clear hK K; (try simp only [nq, ↓reduceIte, Nat.reduceEqDiff])))
 rw [callF142, uponX_enterK]
 simp only [Array.empty_append, List.append_toArray, List.cons_append, List.nil_append]
 refine hg.runs.mono ?_
 clear hg hA
 rintro _ H6 ⟨t, L', S', rfl, hP6, hL, hpre⟩
 ((try (refine @unH _ ?_; refine zX y139_47 ?_)); (try (refine hK _ _ ?_; clear hK K; (try simp only [nq, ↓reduceIte, Nat.reduceEqDiff]))); refine @unH _ ?_; refine zA y139_47 ?_; (repeat (refine inC ?_; intro hc)); try (refine inK ?_; intro K hK))
 (refine @unH _ ?_; refine zD Tryz.results139 ?_)
 exact ⟨t, L', _, S', rfl, hP6.cl, fun h => by simpa using hL h, by simpa using hpre⟩
theorem plansOf_spec (main : Md) {S : Nat -> Prop} {A : List Int -> Prop} {T : Bool -> List (List Int) -> Hp -> Prop} {yf : Fn} {yi yc : Array Value} {thisb : Nat} (m N : Nat) (hm : m <= 1000) (hN : N <= 1000) (hC : Client Tryz.prog main (.func yf yi yc) S (fun H v xs => SlI H v xs) A T)
  (hthis : ∀ L H, T true L H -> ∃ hb n v ja jc, H thisb = some (true, .cells #[.pointer (some ⟨hb, 0, none⟩)] 81 (0, 0)) /\ H hb = some (true, HN.obj n v (.slice ja N jc)) /\ n.load = m)
  (H : Hp) (hT : T true [] H) (hA : ∀ l ∈ comps m N, A l) :
  FnX Tryz.prog main 139 #[.func yf yi yc, .pointer (some ⟨thisb, 0, none⟩)] H fun e H' => ∃ t L' v, e = .returned v /\ T t L' H' /\ (t = true -> L' = comps m N) /\ L' <+: comps m N := by 
 exact (plansOfS_spec main (S := S) m N hm hN hC.toS (fun S' L H h => hthis L H h.2) H ⟨rfl, hT⟩ hA).mono fun e H' ⟨t, L', v, S', h1, h2, h3⟩ => ⟨t, L', v, h1, h2.2, h3⟩
theorem plans_spec (main : Md) (H : Hp) (hb : Nat) :
  FnX Tryz.prog main 99 #[.pointer (some ⟨hb, 0, none⟩)] H fun e H' => ∃ thisb, e = .returned (.func (.func 139) #[] #[.pointer (some ⟨thisb, 0, none⟩)]) /\ H' thisb = some (true, .cells #[.pointer (some ⟨hb, 0, none⟩)] 81 (0, 0)) /\ H.le H' := by
 refine FnX_start Tryz.func99 rfl Tryz.ntmps99 (by simp) ?_
 (refine @unH _ ?_; refine zA trivial ?_; (repeat (refine inC ?_; intro hc)); try (refine inK ?_; intro K hK))
 (intro thisb hthisb; generalize hG : Hp.set _ thisb _ = H1; have lH1 := le_of_set hG hthisb; have vthisb := at_of_set hG; clear hG)
 ((try (refine @unH _ ?_; refine zX trivial ?_)); (try (refine hK _ _ ?_; clear hK K; (try simp only [nq, ↓reduceIte, Nat.reduceEqDiff]))); refine @unH _ ?_; refine zA trivial ?_; (repeat (refine inC ?_; intro hc)); try (refine inK ?_; intro K hK))
 (refine @unH _ ?_; refine z9 Tryz.results99 ?_)
 exact ⟨thisb, rfl, vthisb, lH1⟩
end Go.Proofs.YtofmadjgbcopdaaGreatDoor
end
section
namespace Go.Proofs.YtofmadjgbcopdaaGreatDoor
open Go Go.X
def bs0 : List Int := List.replicate 4 (-1048576)
def nextB (n : HN) (bs : List Int) (r : RideV) : List Int := bs.set (pickB bs n.barrows.toNat) r.back
def ridesG (n : HN) (js : List Int) (mi : Int) : List Nat -> List Int -> Nat -> List RideV
 | [], _, _ => []
 | m :: pl, bs, f => rideF n js bs f m mi :: ridesG n js mi pl (nextB n bs (rideF n js bs f m mi)) (f + m)
def lateR (n : HN) (js : List Int) (r : RideV) (m f : Nat) : List Int := (List.range m).map fun j => max 0 (r.back - n.due js (f + j))
def lateG (n : HN) (js : List Int) (mi : Int) : List Nat -> List Int -> Nat -> List Int
 | [], _, _ => []
 | m :: pl, bs, f => lateR n js (rideF n js bs f m mi) m f ++ lateG n js mi pl (nextB n bs (rideF n js bs f m mi)) (f + m)
def fineB (n : HN) (js : List Int) (mi : Int) (pl : List Nat) : Bool := (lateG n js mi pl bs0 0).all (· == 0)
def lateD (n : HN) (js : List Int) (mi : Int) (pl : List Nat) : Nat -> List Int
 | 0 => []
 | k + 1 => lateD n js mi pl k ++ lateR n js (rideF n js (dS n js mi pl k).1 (dS n js mi pl k).2.1 (pl.getD k 0) mi) (pl.getD k 0) (dS n js mi pl k).2.1
theorem dS_succ (n : HN) (js : List Int) (mi : Int) (pl : List Nat) (k : Nat) : dS n js mi pl (k + 1) = (nextB n (dS n js mi pl k).1 (rideF n js (dS n js mi pl k).1 (dS n js mi pl k).2.1 (pl.getD k 0) mi), (dS n js mi pl k).2.1 + pl.getD k 0,
 (dS n js mi pl k).2.2 ++ [rideF n js (dS n js mi pl k).1 (dS n js mi pl k).2.1 (pl.getD k 0) mi]) := rfl
theorem drop_at' {pl : List Nat} {k : Nat} (h : k < pl.length) : pl.drop k = pl.getD k 0 :: pl.drop (k + 1) := by
 rw [List.drop_eq_getElem_cons h]
 simp [List.getD, List.getElem?_eq_getElem h]
theorem dS_rides (n : HN) (js : List Int) (mi : Int) (pl : List Nat) : ∀ k, k <= pl.length -> (dS n js mi pl k).2.2 ++ ridesG n js mi (pl.drop k) (dS n js mi pl k).1 (dS n js mi pl k).2.1 = ridesG n js mi pl bs0 0
 | 0, _ => rfl
 | k + 1, h => by
  rw [<- dS_rides n js mi pl k (by omega), dS_succ, drop_at' (show k < pl.length by omega), ridesG]
  simp
theorem lateD_G (n : HN) (js : List Int) (mi : Int) (pl : List Nat) : ∀ k, k <= pl.length -> lateD n js mi pl k ++ lateG n js mi (pl.drop k) (dS n js mi pl k).1 (dS n js mi pl k).2.1 = lateG n js mi pl bs0 0
 | 0, _ => rfl
 | k + 1, h => by
  rw [<- lateD_G n js mi pl k (by omega), dS_succ, lateD, drop_at' (show k < pl.length by omega), lateG]
  simp
theorem dS_all (n : HN) (js : List Int) (mi : Int) (pl : List Nat) : (dS n js mi pl pl.length).2.2 = ridesG n js mi pl bs0 0 := by
 have := dS_rides n js mi pl pl.length (Nat.le_refl _)
 simpa [ridesG] using this
theorem lateD_all (n : HN) (js : List Int) (mi : Int) (pl : List Nat) : lateD n js mi pl pl.length = lateG n js mi pl bs0 0 := by
 have := lateD_G n js mi pl pl.length (Nat.le_refl _)
 simpa [lateG] using this
theorem dS_get (n : HN) (js : List Int) (mi : Int) (pl : List Nat) : ∀ k i, i < k -> (dS n js mi pl k).2.2.length = k -> (∀ j, j < k -> (dS n js mi pl j).2.2.length = j) ->
  (dS n js mi pl k).2.2[i]? = some (rideF n js (dS n js mi pl i).1 (dS n js mi pl i).2.1 (pl.getD i 0) mi)
 | k + 1, i, h, hl, hlj => by
  rw [dS_succ]
  have hk := hlj k (by omega)
  by_cases hi : i = k
  ·subst hi
   rw [List.getElem?_append_right (by omega)]
   simp [hk]
  ·rw [List.getElem?_append_left (by omega)]
   exact dS_get n js mi pl k i (by omega) hk fun j hj => hlj j (by omega)
theorem lateG_length (n : HN) (js : List Int) (mi : Int) : ∀ (pl : List Nat) (bs : List Int) (f : Nat), (lateG n js mi pl bs f).length = pl.sum
 | [], _, _ => rfl
 | m :: pl, bs, f => by simp [lateG, lateR, lateG_length n js mi pl]
theorem lateD_length (n : HN) (js : List Int) (mi : Int) (pl : List Nat) : ∀ k, k <= pl.length -> (lateD n js mi pl k).length = (pl.take k).sum
 | 0, _ => rfl
 | k + 1, h => by
  rw [lateD, List.length_append, lateD_length n js mi pl k (by omega), List.take_add_one, List.getElem?_eq_getElem (show k < pl.length by omega), List.sum_append]
  simp [lateR, List.getD, List.getElem?_eq_getElem (show k < pl.length by omega)]
theorem lateD_mem (n : HN) (js : List Int) (mi : Int) (pl : List Nat) (x : Int) : ∀ k, x ∈ lateD n js mi pl k ↔ ∃ i, i < k /\ ∃ j, j < pl.getD i 0 /\ x = max 0 ((rideF n js (dS n js mi pl i).1 (dS n js mi pl i).2.1 (pl.getD i 0) mi).back - n.due js ((dS n js mi pl i).2.1 + j))
 | 0 => by simp [lateD]
 | k + 1 => by
  rw [lateD, List.mem_append, lateD_mem n js mi pl x k]
  constructor
  ·rintro (⟨i, h, h'⟩ | h)
   ·exact ⟨i, by omega, h'⟩
   ·rw [lateR, List.mem_map] at h
    obtain ⟨j, hj, rfl⟩ := h
    exact ⟨k, by omega, j, List.mem_range.1 hj, rfl⟩
  ·rintro ⟨i, h, j, hj, rfl⟩
   by_cases hi : i = k
   ·subst hi
    exact .inr (List.mem_map.2 ⟨j, List.mem_range.2 hj, rfl⟩)
   ·exact .inl ⟨i, by omega, j, hj, rfl⟩
theorem fineB_iff (n : HN) (js : List Int) (mi : Int) (pl : List Nat) (hl : ∀ k, k <= pl.length -> (dS n js mi pl k).2.1 = (pl.take k).sum /\ (dS n js mi pl k).2.2.length = k) : fineB n js mi pl = true ↔ fineP n js mi pl := by
 unfold fineB fineP
 rw [<- lateD_all, List.all_eq_true]
 constructor
 ·intro h i r hr j hj
  have hi : i < pl.length := by
   have := (List.getElem?_eq_some_iff.1 hr).1
   rw [(hl _ (Nat.le_refl _)).2] at this
   exact this
  rw [dS_get n js mi pl pl.length i hi (hl _ (Nat.le_refl _)).2 fun j hj => (hl j (by omega)).2] at hr
  cases hr
  have := h _ ((lateD_mem n js mi pl _ pl.length).2 ⟨i, hi, j, hj, rfl⟩)
  rw [(hl i (by omega)).1] at this ⊢
  simp only [beq_iff_eq] at this
  omega
 ·intro h x hx
  obtain ⟨i, hi, j, hj, rfl⟩ := (lateD_mem n js mi pl x pl.length).1 hx
  have := h i _ (dS_get n js mi pl pl.length i hi (hl _ (Nat.le_refl _)).2 fun j hj => (hl j (by omega)).2) j hj
  rw [(hl i (by omega)).1] at this ⊢
  simp only [beq_iff_eq]
  omega
def goodF (n : HN) (js : List Int) (mi : Int) (load : Nat) : Nat -> List Int -> Nat -> Bool
 | 0, _, _ => true
 | k + 1, bs, f => if js.length <= f then true else (List.range (min (js.length - f) load)).any fun i => decide ((rideF n js bs f (i + 1) mi).back - n.due js f <= 0) && goodF n js mi load k (nextB n bs (rideF n js bs f (i + 1) mi)) (f + (i + 1))
theorem comps_zero (m : Nat) : comps m 0 = [[]] := by simp [comps]
theorem goodF_iff (n : HN) (js : List Int) (mi : Int) (load : Nat) (hmono : ∀ a b, a <= b -> b < js.length -> n.due js a <= n.due js b) : ∀ (k : Nat) (bs : List Int) (f : Nat), js.length - f <= k ->
  (goodF n js mi load k bs f = true ↔ ∃ pl : List Nat, pl.map (fun x : Nat => (x : Int)) ∈ comps load (js.length - f) /\ ∀ x ∈ lateG n js mi pl bs f, x = 0) := by
 have hend : ∀ (bs : List Int) (f : Nat), js.length <= f -> ∃ pl : List Nat, pl.map (fun x : Nat => (x : Int)) ∈ comps load (js.length - f) /\ ∀ x ∈ lateG n js mi pl bs f, x = 0 := fun bs f h =>
  ⟨[], by rw [show js.length - f = 0 by omega, comps_zero]; simp, by simp [lateG]⟩
 intro k
 induction k with
 | zero => exact fun bs f h => ⟨fun _ => hend bs f (by omega), fun _ => rfl⟩
 | succ k ih =>
  intro bs f h
  rw [goodF]
  by_cases hf : js.length <= f
  ·rw [if_pos hf]
   exact ⟨fun _ => hend bs f hf, fun _ => rfl⟩
  ·rw [if_neg hf, List.any_eq_true]
   constructor
   ·rintro ⟨i, hi, h2⟩
    rw [List.mem_range] at hi
    rw [Bool.and_eq_true, decide_eq_true_eq] at h2
    obtain ⟨pl, hp1, hp2⟩ := (ih _ _ (by omega)).1 h2.2
    refine ⟨(i + 1) :: pl, ?_, ?_⟩
    ·have := comps_mem load (js.length - f) i hi (l := pl.map (fun x : Nat => (x : Int))) (by rw [show js.length - f - (i + 1) = js.length - (f + (i + 1)) by omega]; exact hp1)
     simpa using this
    ·intro x hx
     rw [lateG, List.mem_append] at hx
     rcases hx with hx | hx
     ·rw [lateR, List.mem_map] at hx
      obtain ⟨j, hj, rfl⟩ := hx
      rw [List.mem_range] at hj
      have := hmono f (f + j) (by omega) (by omega)
      omega
     ·exact hp2 x hx
   ·rintro ⟨pl, hp1, hp2⟩
    rw [comps_pos load (js.length - f) (by omega), List.mem_flatMap] at hp1
    obtain ⟨i, hi, hp1⟩ := hp1
    rw [List.mem_map] at hp1
    obtain ⟨l, hl, he⟩ := hp1
    cases pl with
    | nil => simp at he
    | cons m pl =>
     simp only [List.map_cons, List.cons.injEq] at he
     obtain ⟨he1, rfl⟩ := he
     obtain rfl : m = i + 1 := by omega
     rw [List.mem_range] at hi
     refine ⟨i, List.mem_range.2 hi, ?_⟩
     rw [Bool.and_eq_true, decide_eq_true_eq]
     constructor
     ·have := hp2 (max 0 ((rideF n js bs f (i + 1) mi).back - n.due js f)) (by rw [lateG, List.mem_append]; exact .inl (List.mem_map.2 ⟨0, List.mem_range.2 (by omega), rfl⟩))
      omega
     ·refine (ih _ _ (by omega)).2 ⟨pl, by rw [show js.length - (f + (i + 1)) = js.length - f - (i + 1) by omega]; exact hl, fun x hx => hp2 x ?_⟩
      rw [lateG, List.mem_append]
      exact .inr hx
theorem dS_back (n : HN) (js : List Int) (mi : Int) (pl : List Nat) (hx : ∀ x ∈ n.xs, 0 <= x /\ x <= 99) (n0 : 0 <= n.notice) (b1 : 1 <= n.barrows) (b4 : n.barrows <= 4) (h1 : 1 <= mi) (h2 : mi <= 20) : ∀ k, k <= pl.length -> ∀ r ∈ (dS n js mi pl k).2.2, -1048576 <= r.back /\ r.back <= 100 + 20 * k
 | 0, _, r, hr => by simp [dS] at hr
 | k + 1, hk, r, hr => by
  have h3 := dS_ok n js mi pl hx n0 b1 b4 h1 h2 k (by omega)
  have h4 := dS_ok n js mi pl hx n0 b1 b4 h1 h2 (k + 1) hk
  have hpl := pickB_lt (dS n js mi pl k).1 n.barrows.toNat (by omega)
  rw [dS] at hr
  simp only [List.mem_append, List.mem_singleton] at hr
  rcases hr with hr | rfl
  ·have := dS_back n js mi pl hx n0 b1 b4 h1 h2 k (by omega) r hr
   omega
  ·refine h4.2.1 _ ?_
   rw [dS]
   exact List.mem_of_getElem? (i := pickB (dS n js mi pl k).1 n.barrows.toNat) (List.getElem?_set_self (by have := h3.1; omega))
theorem comps_parts (m : Nat) (N : Nat) : ∀ l ∈ comps m N, ∃ pl : List Nat, l = pl.map (fun x : Nat => (x : Int)) /\ (∀ x ∈ pl, 1 <= x) /\ pl.sum = N := by
 induction N using Nat.strongRecOn with
 | _ N ih =>
 intro l hl
 by_cases h0 : N = 0
 ·subst h0
  rw [comps, List.mem_singleton] at hl
  exact ⟨[], by simp [hl], by simp, rfl⟩
 ·rw [comps_pos m N (by omega), List.mem_flatMap] at hl
  obtain ⟨i, hi, hl⟩ := hl
  rw [List.mem_range] at hi
  rw [List.mem_map] at hl
  obtain ⟨l', hl', rfl⟩ := hl
  obtain ⟨pl, rfl, h1, h2⟩ := ih (N - (i + 1)) (by omega) l' hl'
  exact ⟨(i + 1) :: pl, by simp, by simpa using h1, by simp [h2]; omega⟩
theorem comps_parts_le (m : Nat) (N : Nat) : ∀ l ∈ comps m N, ∀ x ∈ l, x <= m := by
 induction N using Nat.strongRecOn with
 | _ N ih =>
 intro l hl
 by_cases h0 : N = 0
 ·subst h0
  rw [comps, List.mem_singleton] at hl
  simp [hl]
 ·rw [comps_pos m N (by omega), List.mem_flatMap] at hl
  obtain ⟨i, hi, hl⟩ := hl
  rw [List.mem_range] at hi
  rw [List.mem_map] at hl
  obtain ⟨l', hl', rfl⟩ := hl
  intro x hx
  rcases List.mem_cons.1 hx with rfl | hx
  ·omega
  ·exact ih (N - (i + 1)) (by omega) l' hl' x hx
theorem parts_len : ∀ (pl : List Nat), (∀ x ∈ pl, 1 <= x) -> pl.length <= pl.sum
 | [], _ => by simp
 | x :: pl, h => by
  have := parts_len pl (fun y hy => h y (by simp [hy]))
  have := h x (by simp)
  simp
  omega
theorem comps_len (m N : Nat) (hm : m <= 3) (hN : N <= 8) : (comps m N).length <= 1000 := by
 have h : ∀ m N, m <= 3 -> (comps m N).length <= 2 ^ N := by
  intro m N hm
  induction N using Nat.strongRecOn with
  | _ N ih =>
  by_cases h0 : N = 0
  ·subst h0; simp [comps]
  ·rw [comps_pos m N (by omega), List.length_flatMap]
   have hs : ∀ k, k <= N -> ((List.range k).map fun i => ((comps m (N - (i + 1))).map fun l => (i + 1 : Int) :: l).length).sum + 2 ^ (N - k) <= 2 ^ N := by
    intro k
    induction k with
    | zero => intro _; simp
    | succ k ihk =>
     intro hk
     have h1 := ihk (by omega)
     have h2 := ih (N - (k + 1)) (by omega)
     have h3 : 2 ^ (N - k) = 2 * 2 ^ (N - (k + 1)) := by rw [show N - k = (N - (k + 1)) + 1 by omega, Nat.pow_succ]; omega
     rw [List.range_succ, List.map_append, List.sum_append]
     simp only [List.map_cons, List.map_nil, List.sum_cons, List.sum_nil, List.length_map]
     simp only [List.length_map] at h1
     omega
   have := hs (min N m) (by omega)
   have := Nat.two_pow_pos (N - min N m)
   omega
 have h1 := h m N hm
 have h2 : 2 ^ N <= 2 ^ 8 := Nat.pow_le_pow_right (by omega) hN
 omega
def natsOf (xs : List Int) : List Nat := xs.map Int.toNat
theorem natsOf_map (pl : List Nat) : natsOf (pl.map (fun x : Nat => (x : Int))) = pl := by simp [natsOf, Function.comp_def]
def fineI (n : HN) (js : List Int) (mi : Int) (xs : List Int) : Bool := fineB n js mi (natsOf xs)
theorem fineI_map (n : HN) (js : List Int) (mi : Int) (pl : List Nat) : fineI n js mi (pl.map (fun x : Nat => (x : Int))) = fineB n js mi pl := by rw [fineI, natsOf_map]
def countF (n : HN) (mi : Int) : Nat := ((comps n.load.toNat n.jobs.length).filter (fineI n n.jobs mi)).length
def worst (l : List Int) : Int := l.foldl max 0
end Go.Proofs.YtofmadjgbcopdaaGreatDoor
end
section
namespace Go.Proofs.YtofmadjgbcopdaaGreatDoor
open Go Go.X
theorem pickB_min (bs : List Int) : ∀ B i, i < B -> bs.getD (pickB bs B) 0 <= bs.getD i 0
 | B + 1, i, h => by
  unfold pickB
  by_cases hB : B = 0
  ·subst hB
   rw [if_pos rfl]
   obtain rfl : i = 0 := by omega
   exact Int.le_refl _
  ·rw [if_neg hB]
   split
   ·rename_i h1
    by_cases hi : i = B
    ·subst hi; exact Int.le_refl _
    ·have := pickB_min bs B i (by omega)
     omega
   ·rename_i h1
    by_cases hi : i = B
    ·subst hi; omega
    ·exact pickB_min bs B i (by omega)
def cntB (bs : List Int) (B : Nat) (t : Int) : Nat := (List.range B).countP fun i => decide (bs.getD i 0 <= t)
theorem cntB_succ (bs : List Int) (B : Nat) (t : Int) : cntB bs (B + 1) t = cntB bs B t + (if bs.getD B 0 <= t then 1 else 0) := by
 simp [cntB, List.range_succ, List.countP_append, List.countP_cons]
theorem cntB_set (bs : List Int) (p : Nat) (v t : Int) (hp : p < bs.length) : ∀ B, cntB (bs.set p v) B t + (if p < B /\ bs.getD p 0 <= t then 1 else 0) = cntB bs B t + (if p < B /\ v <= t then 1 else 0)
 | 0 => by simp [cntB]
 | B + 1 => by
  rw [cntB_succ, cntB_succ]
  have ih := cntB_set bs p v t hp B
  by_cases hpB : p = B
  ·subst hpB
   have e : (bs.set p v).getD p 0 = v := by simp [List.getD, hp]
   rw [e]
   simp only [Nat.lt_irrefl, false_and, if_false, Nat.add_zero, Nat.lt_succ_self, true_and] at ih ⊢
   omega
  ·have e : (bs.set p v).getD B 0 = bs.getD B 0 := by simp [List.getD, List.getElem?_set_ne hpB]
   rw [e]
   have e2 : (p < B + 1) ↔ p < B := by omega
   simp only [e2]
   omega
theorem cntB_pos {bs : List Int} {B : Nat} {t : Int} {i : Nat} (hi : i < B) (h : bs.getD i 0 <= t) : 1 <= cntB bs B t := by
 unfold cntB
 exact List.countP_pos_iff.2 ⟨i, List.mem_range.2 hi, decide_eq_true h⟩
theorem cntB_min {bs : List Int} {B : Nat} {t : Int} (h : 1 <= cntB bs B t) : bs.getD (pickB bs B) 0 <= t := by
 unfold cntB at h
 obtain ⟨i, hi, h1⟩ := List.countP_pos_iff.1 h
 have := pickB_min bs B i (List.mem_range.1 hi)
 have := of_decide_eq_true h1
 omega
def DomB (bs : List Int) (B : Nat) (bs' : List Int) (B' : Nat) : Prop := ∀ t, cntB bs B t <= cntB bs' B' t
theorem DomB.min {bs bs' : List Int} {B B' : Nat} (h : DomB bs B bs' B') (hB : 0 < B) : bs'.getD (pickB bs' B') 0 <= bs.getD (pickB bs B) 0 :=
 cntB_min (Nat.le_trans (cntB_pos (pickB_lt bs B hB) (Int.le_refl _)) (h _))
theorem DomB.step {bs bs' : List Int} {B B' : Nat} {v v' : Int} (h : DomB bs B bs' B') (hB : 0 < B) (hB' : 0 < B') (hl : B <= bs.length) (hl' : B' <= bs'.length)
  (hv : bs.getD (pickB bs B) 0 < v) (hv' : bs'.getD (pickB bs' B') 0 < v') (hvv : v' <= v) : DomB (bs.set (pickB bs B) v) B (bs'.set (pickB bs' B') v') B' := fun t => by
 have hp := pickB_lt bs B hB
 have hp' := pickB_lt bs' B' hB'
 have h1 := cntB_set bs (pickB bs B) v t (by omega) B
 have h2 := cntB_set bs' (pickB bs' B') v' t (by omega) B'
 have h3 := h t
 simp only [hp, hp', true_and] at h1 h2
 have hm := h.min hB
 by_cases c1 : bs.getD (pickB bs B) 0 <= t
 ·rw [if_pos c1] at h1
  rw [if_pos (by omega)] at h2
  by_cases c2 : v <= t
  ·rw [if_pos c2] at h1
   rw [if_pos (by omega)] at h2
   omega
  ·rw [if_neg c2] at h1
   omega
 ·rw [if_neg c1, if_neg (by omega)] at h1
  have : cntB bs B t = 0 := by
   rcases Nat.eq_zero_or_pos (cntB bs B t) with h0 | h0
   ·exact h0
   ·exact absurd (cntB_min h0) c1
  omega
theorem due_xs {n n' : HN} (h : n'.xs = n.xs) (js : List Int) (k : Nat) : n'.due js k = n.due js k := by simp [HN.due, h]
theorem late_mono {n n' : HN} (js : List Int) (mi mi' : Int) (hx : n'.xs = n.xs) (hn : n.notice <= n'.notice) (b1 : 1 <= n.barrows) (b4 : n.barrows <= 4) (b1' : 1 <= n'.barrows) (b4' : n'.barrows <= 4) (hm : mi' <= mi) (h1 : 1 <= mi') :
  ∀ (pl : List Nat) (bs bs' : List Int) (f : Nat), bs.length = 4 -> bs'.length = 4 -> DomB bs n.barrows.toNat bs' n'.barrows.toNat -> ∀ (i : Nat) (x y : Int), (lateG n' js mi' pl bs' f)[i]? = some x -> (lateG n js mi pl bs f)[i]? = some y -> x <= y
 | [], _, _, _, _, _, _, i, x, y, hx', _ => by simp [lateG] at hx'
 | m :: pl, bs, bs', f, hl, hl', hd, i, x, y, hx', hy' => by
  have hmin := hd.min (by omega)
  have hback : (rideF n' js bs' f m mi').back <= (rideF n js bs f m mi).back := by
   simp only [rideF, due_xs hx]
   omega
  have hv : bs.getD (pickB bs n.barrows.toNat) 0 < (rideF n js bs f m mi).back := by
   simp only [rideF]
   omega
  have hv' : bs'.getD (pickB bs' n'.barrows.toNat) 0 < (rideF n' js bs' f m mi').back := by
   simp only [rideF]
   omega
  have hd' := hd.step (by omega) (by omega) (by omega) (by omega) hv hv' hback
  rw [lateG] at hx' hy'
  have la : (lateR n' js (rideF n' js bs' f m mi') m f).length = m := by simp [lateR]
  have lb : (lateR n js (rideF n js bs f m mi) m f).length = m := by simp [lateR]
  by_cases hi : i < m
  ·rw [List.getElem?_append_left (by omega)] at hx' hy'
   simp only [lateR, List.getElem?_map, List.getElem?_range hi, Option.map_some, Option.some.injEq, due_xs hx] at hx' hy'
   omega
  ·rw [List.getElem?_append_right (by omega), la] at hx'
   rw [List.getElem?_append_right (by omega), lb] at hy'
   exact late_mono js mi mi' hx hn b1 b4 b1' b4' hm h1 pl _ _ _ (by simp [nextB, hl]) (by simp [nextB, hl']) hd' (i - m) x y hx' hy'
theorem cntB_mono (bs : List Int) (t : Int) : ∀ B B', B <= B' -> cntB bs B t <= cntB bs B' t
 | B, B', h => by
  obtain ⟨k, rfl⟩ := Nat.exists_eq_add_of_le h
  clear h
  induction k with
  | zero => exact Nat.le_refl _
  | succ k ih => rw [<- Nat.add_assoc, cntB_succ]; omega
theorem lateG_nonneg (n : HN) (js : List Int) (mi : Int) : ∀ (pl : List Nat) (bs : List Int) (f : Nat), ∀ x ∈ lateG n js mi pl bs f, 0 <= x
 | [], _, _, x, h => by simp [lateG] at h
 | m :: pl, bs, f, x, h => by
  rw [lateG, List.mem_append] at h
  rcases h with h | h
  ·rw [lateR, List.mem_map] at h
   obtain ⟨j, _, rfl⟩ := h
   omega
  ·exact lateG_nonneg n js mi pl _ _ x h
theorem fine_mono {n n' : HN} (js : List Int) (mi mi' : Int) (hx : n'.xs = n.xs) (hn : n.notice <= n'.notice) (b1 : 1 <= n.barrows) (b4 : n.barrows <= 4) (hbb : n.barrows <= n'.barrows) (b4' : n'.barrows <= 4) (hm : mi' <= mi) (h1 : 1 <= mi') (pl : List Nat)
  (hf : fineB n js mi pl = true) : fineB n' js mi' pl = true := by
 unfold fineB at *
 rw [List.all_eq_true] at *
 intro x hx'
 obtain ⟨i, hi⟩ := List.mem_iff_getElem?.1 hx'
 have hl : i < (lateG n js mi pl bs0 0).length := by
  have := (List.getElem?_eq_some_iff.1 hi).1
  rw [lateG_length] at this ⊢
  exact this
 have hy := List.getElem?_eq_getElem hl
 have := late_mono js mi mi' hx hn b1 b4 (by omega) b4' hm h1 pl bs0 bs0 0 rfl rfl (fun t => cntB_mono bs0 t _ _ (by omega)) i x _ hi hy
 have h2 := hf _ (List.getElem_mem hl)
 have h3 := lateG_nonneg n' js mi' pl _ _ x hx'
 simp only [beq_iff_eq] at h2 ⊢
 omega
end Go.Proofs.YtofmadjgbcopdaaGreatDoor
end
section
namespace Go.Proofs.YtofmadjgbcopdaaGreatDoor
open Go Go.X
def y53_50 := And.intro (fun H => loadAt_aggE (H := H) Tryz.underlying29 rfl Tryz.sizeOf29) (And.intro (fun H => loadAt_one (H := H) Tryz.underlying3 rfl) (And.intro @callF98 (And.intro (fun H => ex_alloc (H := H) (P := Tryz.prog) (h := Tryz.zeroValue81)) (And.intro (fun H => storeAt_ptr (H := H) Tryz.sizeOf81) (And.intro (fun H => ex_alloc (H := H) (P := Tryz.prog) (h := Tryz.zeroValue3)) (And.intro (fun H => storeAt_int (H := H) Tryz.sizeOf3) (And.intro (fun H => loadAt_one (H := H) Tryz.underlying81 rfl) (And.intro @callF99 @callF100))))))))
theorem comps_ones (m : Nat) (hm : 1 <= m) : ∀ N, (List.replicate N 1).map (fun x : Nat => (x : Int)) ∈ comps m N
 | 0 => by simp [comps]
 | N + 1 => by
  have := comps_mem m (N + 1) 0 (by omega) (l := (List.replicate N 1).map (fun x : Nat => (x : Int))) (by simpa using comps_ones m hm N)
  simpa [List.replicate_succ] using this
theorem wpX_forget {P : Program} {main : Md} {lp : Option Nat} {c : Code} {Q : Exit -> Act -> Hp -> Prop} {n : Nat} {e : Nat -> Value} {ds : List Deferred} {H : Hp} (p : (Nat -> Value) -> Prop) (hp : p e) (h : ∀ e, p e -> wpX P main lp c Q (act n e ds) H) : wpX P main lp c Q (act n e ds) H := h e hp
theorem wpX_range1 {P : Program} {main : Md} {Q : Exit -> Act -> Hp -> Prop} {n : Nat} {e : Nat -> Value} {ds : List Deferred} {H : Hp} {f : Operand} {t : Nat} {asg body : Code} {g : FuncId} {fi cap : Array Value} (hf : (act n e ds).eval f = .func (.func g) fi cap) (ht : t < n)
  (hcall : ∀ (args : Array Value) (H : Hp) (K : Next -> Hp -> Prop) (E : Value -> Hp -> Prop), wpS P (callFunc g args) H K E = K (.enter g args) H)
  (h : ∀ r l lo, H r = none -> (H.set r (.deferred (some []))) l = none -> lo.state = .ready -> lo.pending = none ->
   (∀ H v R, H l = some (true, .loop lo) -> wpX P main (some l) asg (thn (fun a H1 => H1 l = some (true, .loop lo) /\ wpX P main (some l) body (rnd l R) a (H1.set l (.loop { lo with state := .busy }))) fun _ _ _ => False) (act n (upd e t v) []) H -> CallV P main (.func (.yield l) #[] #[]) #[v] H R) ->
   Runs P main (Frame.enter P g (fi ++ #[.func (.yield l) #[] #[]] ++ cap) .normal) ((H.set r (.deferred (some []))).set l (.loop lo)) (behind l r (act n e ds) Q)) :
  wpX P main none (.rangeFunc f #[t] asg body) Q (act n e ds) H := by
 refine wpX_rangeFunc hf hcall fun fn r l hr hl => ?_
 refine h r l _ hr hl rfl rfl fun H' v R hl' hw => ?_
 intro K E hK1 hK2
 refine callK_yield ?_
 rw [hl', yieldK_some]
 refine ⟨rfl, hK2 _ _ _ _ _ _ (round_runs ?_)⟩
 have he : (((#[t] : Array Tmp).zip #[v]).foldl (fun tmps (x : Tmp × Value) => tmps.setIfInBounds x.1 x.2) (act n e ds).tmps) = (act n (upd e t v) []).tmps := by
  have := congrArg Act.tmps (act_put (n := n) (e := e) (ds := ds) (v := v) ht)
  simpa [Act.put, act] using this
 have he2 : ({ tmps := ((#[t] : Array Tmp).zip #[v]).foldl (fun tmps (x : Tmp × Value) => tmps.setIfInBounds x.1 x.2) (act n e ds).tmps, defers := [] } : Act) = act n (upd e t v) [] := by
  rw [he]; rfl
 rw [he2]
 refine wpX_mono hw fun e' a' H'' q => ?_
 cases e' with
 | normal => exact ⟨_, q.1, rfl, q.2⟩
 | _ => exact q
theorem behind_none {n : Nat} {e : Nat -> Value} {ds : List Deferred} {l r : Nat} {Q : Exit -> Act -> Hp -> Prop} {v : Value} {H : Hp} {q : Loop} (h : H l = some (true, .loop q)) (h1 : q.state = .ready) (h2 : q.pending = none)
  (hk : Q .normal (act n e (coll r :: ds)) (H.set l (.loop { q with state := .exhausted }))) : behind l r (act n e ds) Q (.returned v) H := by
 refine ⟨q, h, by rw [h1]; simp, ?_⟩
 cases q
 simp only [] at h1 h2
 subst h1 h2
 exact hk
def cntT (base : Hp) (n : HN) (js : List Int) (mi : Int) (cb l r thisb hb : Nat) (lo : Loop) (t : Bool) (L : List (List Int)) (H : Hp) : Prop :=
 t = true /\ base.le H /\ H thisb = some (true, .cells #[.pointer (some ⟨hb, 0, none⟩)] 81 (0, 0)) /\ H l = some (true, .loop lo) /\ H r = some (true, .deferred (some [])) /\
  ∃ z : Int, H cb = some (true, .cells #[.int .i64 z] 3 (0, 0)) /\ (L.length <= 1000 -> z = ((L.filter (fineI n js mi)).length : Nat))
theorem bcount_spec (main : Md) (H : Hp) (n : HN) (v : HV) (hd : HaulIn H n v) (mi : Int) (h1' : 1 <= mi) (h20 : mi <= 20) (hj4 : n.jobs.length <= 8) (hjb : ∀ i ∈ n.jobs, 0 <= i /\ i < n.xs.length) :
  FnX Tryz.prog main 53 #[n.agg v, .int .i64 mi] H fun e H' => e = .returned (.tuple #[.int .i64 (countF n mi : Nat), .int .i64 0]) /\ H.le H' := by
 have hdr := fun H' h' => driving_spec main H' n v h' mi h1' h20
 simp only [HN.agg] at hdr ⊢
 refine FnX_start Tryz.func53 rfl Tryz.ntmps53 (by simp) ?_
 (refine @unH _ ?_; refine zA y53_50 ?_; (repeat (refine inC ?_; intro hc)); try (refine inK ?_; intro K hK))
 intro ab hab mb hmb
 replace hmb : (Hp.set H ab _) mb = none := hmb
 generalize hG : Hp.set H ab _ = H1 at hmb ⊢
 have lH1 := le_of_set hG hab
 have vab := at_of_set hG
 clear hG
 generalize hG : Hp.set H1 mb _ = H2
 have lH2 := le_of_set hG hmb
 have vmb := at_of_set hG
 clear hG
 have hd1 := hd.le lH1
 have hd2 := hd1.le lH2
 have vab2 := lH2 _ _ vab
 have l12 : H.le H2 := Hp.le_trans lH1 lH2
 clear vab hd1 hd lH1 lH2 hab hmb
 ((try (refine @unH _ ?_; refine zX y53_50 ?_)); (try (refine hK _ _ ?_; clear hK K; (try simp only [nq, ↓reduceIte, Nat.reduceEqDiff]))); refine @unH _ ?_; refine zA y53_50 ?_; (repeat (refine inC ?_; intro hc)); try (refine inK ?_; intro K hK))
 refine (hdr H2 hd2).runs.mono ?_
 rintro _ H3 ⟨hb, jv, rfl, lH3, vhb, hj⟩
 have hd3 := hd2.le lH3
 have vmb3 := lH3 _ _ vmb
 clear hdr vab2 vmb hd2
 ((try (refine @unH _ ?_; refine zX y53_50 ?_)); (try (refine hK _ _ ?_; clear hK K; (try simp only [nq, ↓reduceIte, Nat.reduceEqDiff]))); refine @unH _ ?_; refine zA y53_50 ?_; (repeat (refine inC ?_; intro hc)); try (refine inK ?_; intro K hK))
 (intro pb hpb; generalize hG : Hp.set _ pb _ = H4; have lH4 := le_of_set hG hpb; have vpb := at_of_set hG; clear hG)
 have hd4 := hd3.le lH4
 have vmb4 := lH4 _ _ vmb3
 have vhb4 := lH4 _ _ vhb
 have hj4' := hj.le lH4
 have l14 := Hp.le_trans l12 (Hp.le_trans lH3 lH4)
 clear hd3 vmb3 vhb hj lH3 lH4 l12 hpb
 ((try (refine @unH _ ?_; refine zX y53_50 ?_)); (try (refine hK _ _ ?_; clear hK K; (try simp only [nq, ↓reduceIte, Nat.reduceEqDiff]))); refine @unH _ ?_; refine zA y53_50 ?_; (repeat (refine inC ?_; intro hc)); try (refine inK ?_; intro K hK))
 (intro cb hcb; generalize hG : Hp.set _ cb _ = H5; have lH5 := le_of_set hG hcb; have vcb := at_of_set hG; clear hG)
 have vmb5 := lH5 _ _ vmb4
 have l4 := lH5
 have vpb5 := lH5 _ _ vpb
 clear lH5
 ((try (refine @unH _ ?_; refine zX y53_50 ?_)); (try (refine hK _ _ ?_; clear hK K; (try simp only [nq, ↓reduceIte, Nat.reduceEqDiff]))); refine @unH _ ?_; refine zA y53_50 ?_; (repeat (refine inC ?_; intro hc)); try (refine inK ?_; intro K hK))
 refine (plans_spec main H5 hb).runs.mono ?_
 rintro _ H6 ⟨thisb, rfl, vthis, lH6⟩
 have vmb6 := lH6 _ _ vmb5
 have vcb6 := lH6 _ _ vcb
 have vpb6 := lH6 _ _ vpb5
 ((try (refine @unH _ ?_; refine zX y53_50 ?_)); (try (refine hK _ _ ?_; clear hK K; (try simp only [nq, ↓reduceIte, Nat.reduceEqDiff]))); refine @unH _ ?_; refine zA y53_50 ?_; (repeat (refine inC ?_; intro hc)); try (refine inK ?_; intro K hK))
 have l46 := Hp.le_trans l4 lH6
 refine wpX_forget (fun e => e 3 = .pointer (some ⟨mb, 0, none⟩) /\ e 6 = .pointer (some ⟨pb, 0, none⟩) /\ e 8 = .pointer (some ⟨cb, 0, none⟩) /\ e 20 = .func (.func 139) #[] #[.pointer (some ⟨thisb, 0, none⟩)]) ⟨rfl, rfl, rfl, rfl⟩ ?_
 rintro e ⟨e3, e6, e8, e20⟩
 clear vmb5 vpb5 vmb6 vpb6 vcb l4 lH6
 refine wpX_range1 (g := 139) (fi := #[]) (cap := #[.pointer (some ⟨thisb, 0, none⟩)]) (by rw [act_eval (by omega), e20]) (by omega) (fun _ _ _ _ => callF139 _ _ _) (fun r l lo hr hl hlo1 hlo2 hround => ?_)
 have hnl : H6 l = none := by
  by_cases e : l = r
  ·rw [e]; exact hr
  ·rwa [set_ne e] at hl
 have hlr : r ≠ l := fun e => by rw [<- e, set_at] at hl; cases hl
 have hn4l : H4 l = none := Hp.le_none l46 hnl
 have hAt : HaulAt H4 hb n v jv n.jobs := ⟨⟨_, vhb4⟩, hd4.times, hj4', hd4.b1, hd4.b4, hd4.n0, hd4.n30, hd4.ok.2.2, hjb, by omega⟩
 have hC : Client Tryz.prog main (.func (.yield l) #[] #[]) (fun b => H4 b ≠ none ∨ b = cb ∨ b = thisb ∨ b = l ∨ b = r) (fun H v xs => SlI H v xs) (fun xs => xs ∈ comps n.load.toNat n.jobs.length) (cntT H4 n n.jobs mi cb l r thisb hb lo) := by
  refine ⟨?_, ?_, ?_⟩
  ·rintro t L H H' ⟨rfl, hle, h1, h2, h3, z, h4, h5⟩ hk
   exact ⟨rfl, fun b x hx => hk b x (.inl (by rw [hx]; simp)) (hle b x hx), hk _ _ (.inr (.inr (.inl rfl))) h1, hk _ _ (.inr (.inr (.inr (.inl rfl)))) h2, hk _ _ (.inr (.inr (.inr (.inr rfl)))) h3, z, hk _ _ (.inr (.inl rfl)) h4, h5⟩
  ·rintro t L H b ⟨rfl, hle, h1, h2, h3, z, h4, h5⟩ hb
   rcases hb with hb | rfl | rfl | rfl | rfl
   ·obtain ⟨x, hx⟩ := Option.ne_none_iff_exists'.1 hb
    rw [hle _ _ hx]; simp
   ·rw [h4]; simp
   ·rw [h1]; simp
   ·rw [h2]; simp
   ·rw [h3]; simp
  ·rintro L H v' xs ⟨_, hle, h1, h2, h3, z, h4, h5⟩ hv hA
   obtain ⟨pl, rfl, hp1, hps⟩ := comps_parts _ _ _ hA
   refine hround H v' _ h2 ?_
   obtain ⟨va, vc, rfl, hvc, hvv⟩ := id hv
   (refine @unH _ ?_; refine zA (And.intro y53_50 @Bool.or_true) ?_; (repeat (refine inC ?_; intro hc)); try (refine inK ?_; intro K hK))
   refine ⟨h2, ?_⟩
   have hnlx : ∀ b x, H b = some x -> (∀ q, x ≠ (true, .loop q)) -> (H.set l (.loop { lo with state := .busy })) b = some x := fun b x hx hq => by
    rw [set_ne (fun e => hq lo (by rw [e, h2] at hx; exact (Option.some.inj hx).symm))]; exact hx
   generalize hB : Hp.set H l (.loop { lo with state := .busy }) = Hb at *
   have vl : Hb l = some (true, .loop { lo with state := .busy }) := by rw [<- hB, set_at]
   have l4b : H4.le Hb := fun b x hx => by
    rw [<- hB, set_ne (fun e : b = l => by rw [e, hn4l] at hx; cases hx)]
    exact hle b x hx
   have hvb := hv.move (H' := Hb) fun x p c fr hx => hnlx _ _ hx (fun q e => by cases e)
   have vcbB := hnlx _ _ h4 (fun q e => by cases e)
   have vthB := hnlx _ _ h1 (fun q e => by cases e)
   have vrB := hnlx _ _ h3 (fun q e => by cases e)
   have vpbB := l4b _ _ vpb
   have vmbB := l4b _ _ vmb4
   have hpl : pl.length <= 8 := by have := parts_len pl hp1; omega
   have hfin := fine_spec main Hb hb n v jv n.jobs (hAt.le l4b) _ pl hvb hp1 (by omega) (by omega) mi h1' h20 (fun r hr => by
    have := dS_back n n.jobs mi pl hAt.xb hAt.n0 hAt.b1 hAt.b4 h1' h20 pl.length (Nat.le_refl _) r hr
    omega)
   (refine @unH _ ?_; refine zS (And.intro y53_50 @Bool.or_true) ?_; (repeat (refine inC ?_; intro hc)); try (refine inK ?_; intro K hK))
   refine wpX_block ?_
   (refine @unH _ ?_; refine zS (And.intro y53_50 @Bool.or_true) ?_; (repeat (refine inC ?_; intro hc)); try (refine inK ?_; intro K hK))
   refine hfin.runs.mono ?_
   rintro _ Hf ⟨t, rfl, ht, lf⟩
   have vlf := lf _ _ vl
   have vcbf := lf _ _ vcbB
   have vthf := lf _ _ vthB
   have vrf := lf _ _ vrB
   have l4f := Hp.le_trans l4b lf
   have lHf : ∀ b x, b ≠ l -> H b = some x -> Hf b = some x := fun b x hb hx => lf _ _ (by rw [<- hB, set_ne hb]; exact hx)
   clear hfin hvb hnlx hround vl vcbB vthB vrB vpbB vmbB hB lf
   have hloe : ({ ({ lo with state := LoopState.busy } : Loop) with state := .ready, pending := none } : Loop) = lo := by
    cases lo; simp only [] at hlo1 hlo2; subst hlo1 hlo2; rfl
   have ncl : cb ≠ l := fun e => by rw [e, vlf] at vcbf; cases vcbf
   have ntl : thisb ≠ l := fun e => by rw [e, vlf] at vthf; cases vthf
   have nrl : r ≠ l := fun e => by rw [e, vlf] at vrf; cases vrf
   have nct : thisb ≠ cb := fun e => by rw [e, vcbf] at vthf; cases vthf
   have ncr : r ≠ cb := fun e => by rw [e, vcbf] at vrf; cases vrf
   have hend : ∀ (Hg : Hp) (z' : Int) (a : Act), a.defers = [] -> Hg l = Hf l -> Hg cb = some (true, .cells #[.int .i64 z'] 3 (0, 0)) -> (∀ b x, b ≠ cb -> Hf b = some x -> Hg b = some x) -> ((L ++ [pl.map (fun x : Nat => (x : Int))]).length <= 1000 -> z' = (((L ++ [pl.map (fun x : Nat => (x : Int))]).filter (fineI n n.jobs mi)).length : Nat)) ->
     rnd l (fun e H' => ∃ t, e = .returned (.bool t) /\ cntT H4 n n.jobs mi cb l r thisb hb lo t (L ++ [pl.map (fun x : Nat => (x : Int))]) H' /\ ∀ (b : Nat) (x : Bool × Obj), ¬(H4 b ≠ none ∨ b = cb ∨ b = thisb ∨ b = l ∨ b = r) -> H b = some x -> H' b = some x) .normal a Hg := by
    intro Hg z' a ha hg1 hg2 hg3 hz
    refine ⟨ha, _, hg1.trans vlf, true, rfl, ?_, ?_⟩
    ·rw [hloe]
     refine ⟨rfl, fun b x hx => ?_, ?_, set_at, ?_, z', ?_, hz⟩
     ·rw [set_ne (fun e : b = l => by rw [e, hn4l] at hx; cases hx)]
      exact hg3 _ _ (fun e => by rw [e, hcb] at hx; cases hx) (l4f _ _ hx)
     ·rw [set_ne ntl]; exact hg3 _ _ nct vthf
     ·rw [set_ne nrl]; exact hg3 _ _ ncr vrf
     ·rw [set_ne ncl]; exact hg2
    ·intro b x hb hx
     have n1 : b ≠ l := fun e => hb (.inr (.inr (.inr (.inl e))))
     rw [set_ne n1]
     exact hg3 _ _ (fun e => hb (.inr (.inl e))) (lHf _ _ n1 hx)
   have hfB : fineI n n.jobs mi (pl.map (fun x : Nat => (x : Int))) = t := by
    rw [fineI_map]
    have h9 := fineB_iff n n.jobs mi pl fun k hk => (dS_ok n n.jobs mi pl hAt.xb hAt.n0 hAt.b1 hAt.b4 h1' h20 k hk).2.2
    rw [Bool.eq_iff_iff, h9, ht]
   cases t with
   | true =>
    clear ht
    ((try (refine @unH _ ?_; refine zX (And.intro y53_50 @Bool.or_true) ?_)); (try (refine hK _ _ ?_; clear hK K; (try simp only [nq, ↓reduceIte, Nat.reduceEqDiff]))); refine @unH _ ?_; refine zA (And.intro y53_50 @Bool.or_true) ?_; (repeat (refine inC ?_; intro hc)); try (refine inK ?_; intro K hK))
    refine hend _ (IntKind.i64.wrap (z + 1)) _ rfl (set_ne (fun e => ncl e.symm)) set_at (fun b x hb hx => by rw [set_ne hb]; exact hx) fun hL => ?_
    rw [List.length_append] at hL
    have h9 := h5 (by omega)
    have h8 := List.length_filter_le (fineI n n.jobs mi) L
    rw [List.filter_append, List.length_append, List.filter_cons_of_pos hfB]
    have hw : IntKind.i64.wrap (z + 1) = z + 1 := w64 _ (by omega) (by omega)
    rw [hw, h9]
    simp
   | false =>
    clear ht
    ((try (refine @unH _ ?_; refine zX (And.intro y53_50 @Bool.or_true) ?_)); (try (refine hK _ _ ?_; clear hK K; (try simp only [nq, ↓reduceIte, Nat.reduceEqDiff]))); refine @unH _ ?_; refine zA (And.intro y53_50 @Bool.or_true) ?_; (repeat (refine inC ?_; intro hc)); try (refine inK ?_; intro K hK))
    refine hend _ z _ rfl rfl vcbf (fun b x hb hx => hx) fun hL => ?_
    rw [List.length_append] at hL
    have h9 := h5 (by omega)
    rw [List.filter_append, List.length_append, List.filter_cons_of_neg (by simp [hfB])]
    simpa using h9
 have hrun := plansOf_spec main n.load.toNat n.jobs.length (by have := hd4.l3; omega) (by omega) hC (fun L H ⟨_, hle, h1, _⟩ => by
  obtain ⟨ja, jc, hjs⟩ : ∃ ja jc, jv = .slice ja n.jobs.length jc := by obtain ⟨ja, jc, h, _⟩ := id hj4'; exact ⟨ja, jc, h⟩
  exact ⟨hb, n, v, ja, jc, h1, by rw [<- hjs]; exact hle _ _ vhb4, by have := hd4.l1; omega⟩) ((H6.set r (.deferred (some []))).set l (.loop lo)) ⟨rfl, fun b x hx => ?_, ?_, set_at, ?_, 0, ?_, fun _ => by simp⟩ (fun l h => h)
 ·refine hrun.runs.mono ?_
  clear hrun hC hround
  rintro _ H8 ⟨t, L', v', rfl, ⟨rfl, hle8, h1, h2, h3, z, h4, h5⟩, hL, _⟩
  have hL' := hL rfl
  clear hL
  subst hL'
  have hz := h5 (comps_len _ _ (by have := hd4.l3; omega) hj4)
  have hzc : z = (countF n mi : Nat) := hz
  have ncl : cb ≠ l := fun e => by rw [e, h2] at h4; cases h4
  have hle9 : H4.le (H8.set l (.loop { lo with state := .exhausted })) := fun b x hx => by
   rw [set_ne (fun e : b = l => by rw [e, hn4l] at hx; cases hx)]; exact hle8 _ _ hx
  have vcb9 : (H8.set l (.loop { lo with state := .exhausted })) cb = _ := (set_ne ncl).trans h4
  have vr9 : (H8.set l (.loop { lo with state := .exhausted })) r = _ := (set_ne hlr).trans h3
  refine behind_none h2 hlo1 hlo2 ?_
  generalize H8.set l (.loop { lo with state := .exhausted }) = H9 at *
  clear h1 h2 h3 h4 h5 hle8 hlo1 hlo2
  (try simp only [nq, ↓reduceIte, Nat.reduceEqDiff])
  (refine @unH _ ?_; refine zA y53_50 ?_; (repeat (refine inC ?_; intro hc)); try (refine inK ?_; intro K hK))
  refine wpX_ret ?_
  (try simp only [nq, ↓reduceIte, Nat.reduceEqDiff])
  refine bodyX_coll vr9 ?_
  rw [results_two Tryz.results53 (by decide) (by decide)]
  have hn4r : H4 r = none := Hp.le_none l46 hr
  exact ⟨by first | rfl | (rw [<- hzc]; rfl), fun b x hx => by
   have hx4 := l14 _ _ hx
   rw [set_ne (fun e : b = r => by rw [e, hn4r] at hx4; cases hx4)]
   exact hle9 _ _ hx4⟩
 ·have hn4r : H4 r = none := Hp.le_none l46 hr
  rw [set_ne (fun e : b = l => by rw [e, hn4l] at hx; cases hx), set_ne (fun e : b = r => by rw [e, hn4r] at hx; cases hx)]
  exact l46 _ _ hx
 ·rw [set_ne (fun e : thisb = l => by rw [e, hnl] at vthis; cases vthis), set_ne (fun e : thisb = r => by rw [e, hr] at vthis; cases vthis)]
  exact vthis
 ·rw [set_ne hlr, set_at]
 ·rw [set_ne (fun e : cb = l => by rw [e, hnl] at vcb6; cases vcb6), set_ne (fun e : cb = r => by rw [e, hr] at vcb6; cases vcb6)]
  exact vcb6
end Go.Proofs.YtofmadjgbcopdaaGreatDoor
end
section
namespace Go.Proofs.YtofmadjgbcopdaaGreatDoor
open Go Go.X
def y30_51 := And.intro (fun H => len_slice (H := H) Tryz.underlying22) (And.intro (fun H => indexAt_slice (H := H) Tryz.underlying22 Tryz.sizeOf3) (fun H => loadAt_one (H := H) Tryz.underlying3 rfl))
theorem SlI.get {H : Hp} {a : Option Addr} {n cap : Nat} {xs : List Int} (h : SlI H (.slice a n cap) xs) {i : Nat} {x : Int} (hx : xs[i]? = some x) : ∃ (b o : Nat) (p : Bool) (c : Array Value) (fr : Nat × Nat), a = some ⟨b, o, none⟩ /\ H b = some (p, .cells c 3 fr) /\ c[o + i]? = some (.int .i64 x) := by
 obtain ⟨a', cap', he, _, hg⟩ := h
 cases he
 exact hg i x hx
theorem likeInts_spec (m : Md) (H : Hp) (v w : Value) (xs ys : List Int) (hv : SlI H v xs) (hw : SlI H w ys) (hx : xs.length <= 1000000) (hy : ys.length <= 1000000) :
  FnX Tryz.prog m 30 #[v, w] H fun e H' => e = .returned (.bool (decide (xs = ys))) /\ H' = H := by
 have hv0 := hv
 have hw0 := hw
 obtain ⟨va, vc, rfl, hvc, _⟩ := id hv
 obtain ⟨wa, wc, rfl, hwc, _⟩ := id hw
 refine FnX_start Tryz.func30 rfl Tryz.ntmps30 (by simp) ?_
 by_cases hl : xs.length = ys.length
 ·have hll := hl
  replace hl : xs.length <= ys.length /\ ys.length <= xs.length := by omega
  clear hll
  (refine @unH _ ?_; refine zA y30_51 ?_; (repeat (refine inC ?_; intro hc)); try (refine inK ?_; intro K hK))
  refine wpX_loop (fun w a' H' => ∃ e j, w = xs.length - j /\ j <= xs.length /\ a' = act 26 e [] /\ e 0 = .slice va xs.length vc /\ e 1 = .slice wa ys.length wc /\ e 5 = .int .i64 (j : Nat) /\ H' = H /\ (∀ i, i < j -> xs[i]? = ys[i]?)) (n := xs.length) ?_ ?_
  ·exact ⟨_, 0, by omega, by omega, rfl, rfl, rfl, rfl, by trivial, fun i h => by omega⟩
  ·rintro w' a' H' ⟨e, j, rfl, hj, rfl, e0, e1, e5, hH, hd⟩
   rw [hH]; clear hH H'
   by_cases hlt : j < xs.length
   ·obtain ⟨b, o, p, c, fr, hva, hb, hcx⟩ := SlI.get hv0 (List.getElem?_eq_getElem hlt)
    have hlt2 : j < ys.length := by omega
    obtain ⟨b2, o2, p2, c2, fr2, hwa, hb2, hcy⟩ := SlI.get hw0 (List.getElem?_eq_getElem hlt2)
    have hxj := List.getElem?_eq_getElem hlt
    have hyj := List.getElem?_eq_getElem hlt2
    generalize xs[j] = x at *
    generalize ys[j] = y at *
    subst hva hwa
    have hcx' : c[o + (j : Int).toNat * 1]? = some (.int .i64 x) := by simpa using hcx
    have hcy' : c2[o2 + (j : Int).toNat * 1]? = some (.int .i64 y) := by simpa using hcy
    clear hv hw hv0 hw0
    by_cases hxy : x = y
    ·replace hxy : x <= y /\ y <= x := by omega
     have hd2 : ∀ i, i < j + 1 -> xs[i]? = ys[i]? := fun i hi => by
      by_cases he : i = j
      ·rw [he, hxj, hyj]; congr 1; omega
      ·exact hd i (by omega)
     clear hd hxj hyj
     (refine @unH _ ?_; refine zA y30_51 ?_; (repeat (refine inC ?_; intro hc)); try (refine inK ?_; intro K hK))
     (refine wpX_dst1 9 [(true, 0), (true, 1), (true, 2), (true, 3), (true, 4), (true, 5), (true, 6), (true, 7), (true, 8)] (by kernel_rfl) (by kernel_rfl) (by simp) (by kernel_rfl) ?_; intro K hK; (iterate 9 (refine @unH _ ?_; refine z3 y30_51 ?_)); refine plan_nil (hK _ _ ?_); clear hK K; (try simp only [nq, ↓reduceIte, Nat.reduceEqDiff]))
     (refine @unH _ ?_; refine zA y30_51 ?_; (repeat (refine inC ?_; intro hc)); try (refine inK ?_; intro K hK))
     exact ⟨_, by omega, _, j + 1, rfl, by omega, rfl, e0, e1, rfl, by trivial, hd2⟩
    ·have hne : xs ≠ ys := fun e => by rw [e, hyj] at hxj; exact hxy (Option.some.inj hxj).symm
     clear hd hxj hyj
     (refine @unH _ ?_; refine zA y30_51 ?_; (repeat (refine inC ?_; intro hc)); try (refine inK ?_; intro K hK))
     (refine wpX_dst1 9 [(true, 0), (true, 1), (true, 2), (true, 3), (true, 4), (true, 5), (true, 6), (true, 7), (true, 8)] (by kernel_rfl) (by kernel_rfl) (by simp) (by kernel_rfl) ?_; intro K hK; (iterate 9 (refine @unH _ ?_; refine z3 y30_51 ?_)); refine plan_nil (hK _ _ ?_); clear hK K; (try simp only [nq, ↓reduceIte, Nat.reduceEqDiff]))
     (refine @unH _ ?_; refine zA y30_51 ?_; (repeat (refine inC ?_; intro hc)); try (refine inK ?_; intro K hK))
     (refine @unH _ ?_; refine z9 Tryz.results30 ?_)
     rw [decide_eq_false hne]
     (refine ⟨?_, ?_⟩ <;> first | rfl | trivial | assumption)
   ·obtain rfl : j = xs.length := by omega
    (refine @unH _ ?_; refine zA y30_51 ?_; (repeat (refine inC ?_; intro hc)); try (refine inK ?_; intro K hK))
    (refine @unH _ ?_; refine z9 Tryz.results30 ?_)
    refine ⟨?_, by trivial⟩
    rw [decide_eq_true]
    exact List.ext_getElem? fun i => by
     by_cases hi : i < xs.length
     ·exact hd i hi
     ·rw [List.getElem?_eq_none (by omega), List.getElem?_eq_none (by omega)]
 ·have hne : xs ≠ ys := fun e => hl (by rw [e])
  (refine @unH _ ?_; refine zA y30_51 ?_; (repeat (refine inC ?_; intro hc)); try (refine inK ?_; intro K hK))
  (refine @unH _ ?_; refine z9 Tryz.results30 ?_)
  rw [decide_eq_false hne]
  (refine ⟨?_, ?_⟩ <;> first | rfl | trivial | assumption)
end Go.Proofs.YtofmadjgbcopdaaGreatDoor
end
section
namespace Go.Proofs.YtofmadjgbcopdaaGreatDoor
open Go Go.X
def y78_52 := And.intro @callF75 (And.intro (fun H => len_slice (H := H) Tryz.underlying45) (And.intro (fun H => indexAt_slice (H := H) Tryz.underlying45 Tryz.sizeOf61) (And.intro (fun H => loadAt_aggE (H := H) Tryz.underlying61 rfl Tryz.sizeOf61) (And.intro (fun H => ex_alloc (H := H) (P := Tryz.prog) (h := Tryz.zeroValue61)) (And.intro (fun H => storeAt_agg (H := H) Tryz.sizeOf61) (And.intro (fun H => indexAt_slice (H := H) Tryz.underlying22 Tryz.sizeOf3) (And.intro (fun H => loadAt_one (H := H) Tryz.underlying3 rfl) (And.intro (fun H => len_slice (H := H) Tryz.underlying22) (And.intro @callF119 (And.intro @meth_barrow_tardy (And.intro @nilm_barrow_tardy (And.intro @callF196 (And.intro @meth_barrow_timely (And.intro @nilm_barrow_timely (And.intro @callF197 @lit_22_1_0_0)))))))))))))))
theorem tardy_spec (m : Md) (H : Hp) (x : Int) : FnX Tryz.prog m 196 #[.int .i64 x] H fun e H' => e = .returned (.int .i64 x) /\ H' = H := by
 refine FnX_start Tryz.func196 rfl Tryz.ntmps196 (by simp) ?_
 (refine @unH _ ?_; refine zA trivial ?_; (repeat (refine inC ?_; intro hc)); try (refine inK ?_; intro K hK))
 (refine @unH _ ?_; refine z9 Tryz.results196 ?_)
 (refine ⟨?_, ?_⟩ <;> first | rfl | trivial | assumption)
theorem timely_spec (m : Md) (H : Hp) : FnX Tryz.prog m 197 #[.agg #[]] H fun e H' => e = .returned (.int .i64 0) /\ H.le H' := by
 refine FnX_start Tryz.func197 rfl Tryz.ntmps197 (by simp) ?_
 (refine @unH _ ?_; refine zA trivial ?_; (repeat (refine inC ?_; intro hc)); try (refine inK ?_; intro K hK))
 (intro b1 hb1; generalize hG : Hp.set _ b1 _ = H1; have lH1 := le_of_set hG hb1; have vb1 := at_of_set hG; clear hG)
 ((try (refine @unH _ ?_; refine zX trivial ?_)); (try (refine hK _ _ ?_; clear hK K; (try simp only [nq, ↓reduceIte, Nat.reduceEqDiff]))); refine @unH _ ?_; refine zA trivial ?_; (repeat (refine inC ?_; intro hc)); try (refine inK ?_; intro K hK))
 (refine @unH _ ?_; refine z9 Tryz.results197 ?_)
 exact ⟨by trivial, lH1⟩
theorem late_hspec (main : Md) (H : Hp) (hb : Nat) (n : HN) (v : HV) (jv : Value) (js : List Int) (hh : HaulAt H hb n v jv js) (pv : Value) (pl : List Nat) (hp : SlI H pv (pl.map fun m : Nat => (m : Int))) (hp1 : ∀ m ∈ pl, 1 <= m) (hps : pl.sum <= js.length) (hpl : pl.length <= 1000) (mi : Int) (hm1 : 1 <= mi) (hm2 : mi <= 20) :
  FnX Tryz.prog main 78 #[.pointer (some ⟨hb, 0, none⟩), pv, .int .i64 mi] H fun e H' => ∃ lv, e = .returned lv /\ RowX none H H' lv 3 (ints (lateG n js mi pl bs0 0)) := by
 have hpS := hp
 obtain ⟨pa, pc, rfl, hpc, _⟩ := hp
 have hjl := hh.jl
 simp only [List.length_map] at hpc
 simp only [List.length_map]
 have hdok := dS_ok n js mi pl hh.xb hh.n0 hh.b1 hh.b4 hm1 hm2
 have hbk := dS_back n js mi pl hh.xb hh.n0 hh.b1 hh.b4 hm1 hm2
 have hdr := drive_spec main H hb n v jv js hh _ pl hpS hp1 hps hpl mi hm1 hm2
 simp only [List.length_map] at hdr
 rw [<- lateD_all]
 have hlD := lateD_length n js mi pl
 have hsucc : ∀ k, lateD n js mi pl (k + 1) = lateD n js mi pl k ++ lateR n js (rideF n js (dS n js mi pl k).1 (dS n js mi pl k).2.1 (pl.getD k 0) mi) (pl.getD k 0) (dS n js mi pl k).2.1 := fun _ => rfl
 have hget := fun i (h : i < pl.length) => dS_get n js mi pl pl.length i h (hdok _ (Nat.le_refl _)).2.2.2 fun j hj => (hdok j (by omega)).2.2.2
 have hbk' := hbk pl.length (Nat.le_refl _)
 have hdf : ∀ k, k <= pl.length -> (dS n js mi pl k).2.1 = (pl.take k).sum := fun k hk => (hdok k hk).2.2.1
 have hlen := (hdok pl.length (Nat.le_refl _)).2.2.2
 generalize (dS n js mi pl pl.length).2.2 = rs at hbk' hdr hlen hget
 have hrk : ∀ k, k < pl.length -> lateD n js mi pl (k + 1) = lateD n js mi pl k ++ lateR n js (rs.getD k ⟨0, 0, 0⟩) (pl.getD k 0) (pl.take k).sum := fun k hk => by
  have := hget k hk
  rw [hsucc, show rs.getD k ⟨0, 0, 0⟩ = rs[k]?.getD ⟨0, 0, 0⟩ by simp [List.getD], this, hdf k (by omega)]
  rfl
 have hlz : lateD n js mi pl 0 = [] := rfl
 generalize lateD n js mi pl = LD at *
 clear hdok hbk hsucc hdf hget
 refine FnX_start Tryz.func78 rfl Tryz.ntmps78 (by simp) ?_
 (refine @unH _ ?_; refine zAi y78_52 ?_; (repeat (refine inC ?_; intro hc)); try (refine inK ?_; intro K hK))
 refine hdr.runs.mono ?_
 rintro _ H1 ⟨rv, rfl, hrow⟩
 have hh1 := hh.le hrow.1.toLe
 have hp1' := hpS.le hrow.1.toLe
 obtain ⟨ra, rc, rfl⟩ := rowZ_len hrow
 ((try (refine @unH _ ?_; refine zXi y78_52 ?_)); (try (refine hK _ _ ?_; clear hK K; (try simp only [nq, ↓reduceIte, Nat.reduceEqDiff]))); refine @unH _ ?_; refine zAi y78_52 ?_; (repeat (refine inC ?_; intro hc)); try (refine inK ?_; intro K hK))
 refine wpX_loop (fun w a' H' => ∃ e i lv, w = pl.length - i /\ i <= pl.length /\ a' = act 38 e [] /\ e 0 = .pointer (some ⟨hb, 0, none⟩) /\ e 1 = .slice pa pl.length pc /\ e 7 = lv /\ e 13 = .slice ra pl.length rc /\ e 14 = .int .i64 pl.length /\ e 15 = .int .i64 (i : Nat) /\ RowX none H1 H' lv 3 (ints (LD i))) (n := pl.length) ?_ ?_
 ·exact ⟨_, 0, .slice none 0 0, rfl, by omega, rfl, rfl, rfl, rfl, rfl, rfl, rfl, by rw [hlz]; exact RowX.nil⟩
 ·rintro w a' H2 ⟨e, i, lv, rfl, hi, rfl, e0, e1, e7, e13, e14, e15, hlv⟩
  have lH2 := hlv.1.toLe
  by_cases hlt : i < pl.length
  ·have hlr : i < rs.length := by omega
   have hri : rs[i]? = some (rs.getD i ⟨0, 0, 0⟩) := by simp [List.getD, List.getElem?_eq_getElem hlr]
   have hrb := hbk' _ (List.mem_of_getElem? hri)
   have hnext := hrk i hlt
   generalize rs.getD i ⟨0, 0, 0⟩ = r at hri hrb hnext
   obtain ⟨g1, g2, g3⟩ := rcells_get rs i r hri
   have hh2 := hh1.le lH2
   have hp2 := hp1'.le lH2
   have hrow2 := hrow.2
   rcases hrow2 with ⟨h9, h8, _⟩ | ⟨b, c, cap, _, vb, hve, hcs, hcap, hcl, hget⟩
   ·omega
   ·cases hve
    have vb2 := lH2 _ _ vb
    have hex := extract3 (hget _ _ g1) (hget _ _ g2) (hget _ _ g3)
    have hsz : i * 3 + 3 <= c.size := by omega
    obtain ⟨b3, o3, cap3, p3, c3, fr3, hve, _, vb3, hx⟩ := hp2.cons (fun h => absurd (congrArg List.length h) (by simp only [List.length_nil, List.length_map]; omega))
    cases hve
    have hxi := hx i (pl[i] : Nat) (by rw [List.getElem?_map, List.getElem?_eq_getElem hlt]; rfl)
    have hg : pl.getD i 0 = pl[i] := by simp [List.getD, List.getElem?_eq_getElem hlt]
    have hsum : (pl.take (i + 1)).sum <= pl.sum := by
     have h9 : pl.sum = (pl.take (i + 1)).sum + (pl.drop (i + 1)).sum := by rw [<- List.sum_append, List.take_append_drop]
     omega
    have hs2 : (pl.take (i + 1)).sum = (pl.take i).sum + pl[i] := by
     rw [List.take_add_one, List.getElem?_eq_getElem hlt, List.sum_append]
     simp
    rw [<- hg] at hxi hs2
    have hli := hlD i (by omega)
    generalize hsi1 : (pl.take (i + 1)).sum = S1 at hsum hs2
    generalize hsi : (pl.take i).sum = S0 at hs2 hli hnext
    generalize hpi : pl.getD i 0 = mi' at hxi hs2 hnext
    generalize hL0 : LD i = L0 at hlv hli hnext
    replace hli : L0.length <= S0 /\ S0 <= L0.length := by omega
    clear hx hg g1 g2 g3 hget hcs hcl hp2 vb
    replace hs2 : S1 <= S0 + mi' /\ S0 + mi' <= S1 := by omega
    have hi3 : 0 + i * 3 = i * 3 := by omega
    obtain ⟨la, lc, rfl⟩ := hlv.len
    (refine @unH _ ?_; refine zAi y78_52 ?_; (repeat (refine inC ?_; intro hc)); try (refine inK ?_; intro K hK))
    (intro cb hcb; generalize hG : Hp.set _ cb _ = H3; have lH3 := le_of_set hG hcb; have vcb := at_of_set hG; clear hG)
    have vb33 := lH3 _ _ vb3
    have hh3 := hh2.le lH3
    have hlv3 := hlv.le lH3
    have hcb1 : H1 cb = none := hlv.1.gone hcb
    clear vb3 vb2 hh2 hlv
    ((try (refine @unH _ ?_; refine zXi y78_52 ?_)); (try (refine hK _ _ ?_; clear hK K; (try simp only [nq, ↓reduceIte, Nat.reduceEqDiff]))); refine @unH _ ?_; refine zAi y78_52 ?_; (repeat (refine inC ?_; intro hc)); try (refine inK ?_; intro K hK))
    refine wpX_loop (fun w a' H' => ∃ e j lv, w = mi' - j /\ j <= mi' /\ a' = act 38 e [] /\ e 0 = .pointer (some ⟨hb, 0, none⟩) /\ e 1 = .slice (some ⟨b3, o3, none⟩) pl.length pc /\ e 7 = lv /\ e 9 = .pointer (some ⟨cb, 0, none⟩) /\ e 13 = .slice (some ⟨b, 0, none⟩) pl.length rc /\ e 14 = .int .i64 pl.length /\ e 15 = .int .i64 (i : Nat) /\ e 23 = .int .i64 (mi' : Nat) /\ e 24 = .int .i64 (j : Nat) /\
     H' cb = some (true, .cells #[.int .i64 r.barrow, .int .i64 r.out, .int .i64 r.back] 61 (0, 0)) /\ RowX none H1 H' lv 3 (ints (L0 ++ lateR n js r j S0))) (n := mi') ?_ ?_
    ·exact ⟨_, 0, .slice la (ints L0).length lc, rfl, by omega, rfl, e0, e1, e7, rfl, e13, e14, e15, rfl, rfl, vcb, by simpa [lateR] using hlv3⟩
    ·clear e0 e1 e7 e13 e14 e15 vcb hlv3 hh3
     rename_i eold
     clear eold
     rintro w a' H4 ⟨e, j, lv, rfl, hj, rfl, e0, e1, e7, e9, e13, e14, e15, e23, e24, vcb4, hlv4⟩
     have hh4 := hh1.le hlv4.1.toLe
     obtain ⟨la4, lc4, rfl⟩ := hlv4.len
     have hll : (ints (L0 ++ lateR n js r j S0)).length = L0.length + j := by rw [ints_len]; simp [lateR]
     have hstep : lateR n js r (j + 1) S0 = lateR n js r j S0 ++ [max 0 (r.back - n.due js (S0 + j))] := by simp [lateR, List.range_succ]
     by_cases hltj : j < mi'
     ·rw [hll] at e7
      have hout := outcome_spec main H4 hb n v jv js hh4 (S0 + j) (by omega) r (by omega)
      rw [show S0 + j = L0.length + j by omega] at hout
      (refine @unH _ ?_; refine zAi y78_52 ?_; (repeat (refine inC ?_; intro hc)); try (refine inK ?_; intro K hK))
      refine hout.runs.mono ?_
      rintro _ H5 ⟨rfl, lH5⟩
      have vcb5 := lH5 _ _ vcb4
      have hlv5 := hlv4.le lH5
      rw [show L0.length + j = S0 + j by omega]
      rw [hll, show L0.length + j = S0 + j by omega] at hlv5
      by_cases hlate : 0 < r.back - n.due js (S0 + j)
      ·rw [show outV (r.back - n.due js (S0 + j)) = .iface 199 (.int .i64 (r.back - n.due js (S0 + j))) from if_pos hlate]
       rw [show max 0 (r.back - n.due js (S0 + j)) = r.back - n.due js (S0 + j) by omega] at hstep
       generalize r.back - n.due js (S0 + j) = z at *
       ((try (refine @unH _ ?_; refine zXi y78_52 ?_)); (try (refine hK _ _ ?_; clear hK K; (try simp only [nq, ↓reduceIte, Nat.reduceEqDiff]))); refine @unH _ ?_; refine zAi y78_52 ?_; (repeat (refine inC ?_; intro hc)); try (refine inK ?_; intro K hK))
       refine (tardy_spec main H5 z).runs.mono ?_
       rintro _ H6 ⟨rfl, hH6⟩
       rw [hH6]; clear hH6 H6
       ((try (refine @unH _ ?_; refine zXi y78_52 ?_)); (try (refine hK _ _ ?_; clear hK K; (try simp only [nq, ↓reduceIte, Nat.reduceEqDiff]))); refine @unH _ ?_; refine zAi y78_52 ?_; (repeat (refine inC ?_; intro hc)); try (refine inK ?_; intro K hK))
       intro g hg
       refine append_i hlv5 hg (by simp [lateR]; omega) _ _ _ _ ?_
       intro v' H7 hr7 ho7
       have vcb7 := ho7.cells vcb5 (by decide)
       rw [List.append_assoc, <- hstep] at hr7
       ((try (refine @unH _ ?_; refine zXi y78_52 ?_)); (try (refine hK _ _ ?_; clear hK K; (try simp only [nq, ↓reduceIte, Nat.reduceEqDiff]))); refine @unH _ ?_; refine zAi y78_52 ?_; (repeat (refine inC ?_; intro hc)); try (refine inK ?_; intro K hK))
       exact ⟨_, by omega, _, j + 1, v', rfl, hltj, rfl, e0, e1, rfl, e9, e13, e14, e15, e23, rfl, vcb7, hr7⟩
      ·rw [show outV (r.back - n.due js (S0 + j)) = .iface 200 (.agg #[]) from if_neg hlate]
       rw [show max 0 (r.back - n.due js (S0 + j)) = 0 by omega] at hstep
       ((try (refine @unH _ ?_; refine zXi y78_52 ?_)); (try (refine hK _ _ ?_; clear hK K; (try simp only [nq, ↓reduceIte, Nat.reduceEqDiff]))); refine @unH _ ?_; refine zAi y78_52 ?_; (repeat (refine inC ?_; intro hc)); try (refine inK ?_; intro K hK))
       refine (timely_spec main H5).runs.mono ?_
       rintro _ H6 ⟨rfl, lH6⟩
       have vcb6 := lH6 _ _ vcb5
       have hlv6 := hlv5.le lH6
       clear vcb5 hlv5
       ((try (refine @unH _ ?_; refine zXi y78_52 ?_)); (try (refine hK _ _ ?_; clear hK K; (try simp only [nq, ↓reduceIte, Nat.reduceEqDiff]))); refine @unH _ ?_; refine zAi y78_52 ?_; (repeat (refine inC ?_; intro hc)); try (refine inK ?_; intro K hK))
       intro g hg
       refine append_i hlv6 hg (by simp [lateR]; omega) _ _ _ _ ?_
       intro v' H7 hr7 ho7
       have vcb7 := ho7.cells vcb6 (by decide)
       rw [List.append_assoc, <- hstep] at hr7
       ((try (refine @unH _ ?_; refine zXi y78_52 ?_)); (try (refine hK _ _ ?_; clear hK K; (try simp only [nq, ↓reduceIte, Nat.reduceEqDiff]))); refine @unH _ ?_; refine zAi y78_52 ?_; (repeat (refine inC ?_; intro hc)); try (refine inK ?_; intro K hK))
       exact ⟨_, by omega, _, j + 1, v', rfl, hltj, rfl, e0, e1, rfl, e9, e13, e14, e15, e23, rfl, vcb7, hr7⟩
     ·obtain rfl : j = mi' := by omega
      (refine @unH _ ?_; refine zAi y78_52 ?_; (repeat (refine inC ?_; intro hc)); try (refine inK ?_; intro K hK))
      exact ⟨_, by omega, _, i + 1, _, rfl, hlt, rfl, e0, e1, e7, e13, e14, rfl, by rw [hnext]; exact hlv4⟩
  ·obtain rfl : i = pl.length := by omega
   (refine @unH _ ?_; refine zAi y78_52 ?_; (repeat (refine inC ?_; intro hc)); try (refine inK ?_; intro K hK))
   (refine @unH _ ?_; refine z9 Tryz.results78 ?_)
   exact ⟨lv, rfl, hlv.base hrow.1⟩
end Go.Proofs.YtofmadjgbcopdaaGreatDoor
end
