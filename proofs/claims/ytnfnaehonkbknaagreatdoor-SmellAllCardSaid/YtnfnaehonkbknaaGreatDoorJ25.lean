/- Texts SmPr LSAll PSmellAll SSmellAll. -/
import Derived.Test.YtnfnaehonkbknaaGreatDoorJ24
import Derived.Test.YtnfnaehonkbknaaGreatDoorAFactA
import Derived.Test.YtnfnaehonkbknaaGreatDoorAFactSB
import Derived.Test.YtnfnaehonkbknaaGreatDoorAFactSC
set_option linter.defProp false
set_option linter.unusedSimpArgs false
set_option linter.unusedVariables false
set_option maxRecDepth 100000
set_option maxHeartbeats 2000000
section
namespace Go.Proofs.YtnfnaehonkbknaaGreatDoor
open Go Go.X Go.Proofs.Tryz
def y21_173 := aN @Dyy (aN @Exk (aN @Eqc (aN @Eqy @Eqd)))
def y25_173 := aN @Exv (aN @Eqa (aN @Eqy (aN @Eqb (aN @Djr (aN @Exd (aN @Ayy @Bvw))))))
theorem wider_spec (m : Md) (H : Hp) (b : Int × Int) (n : Int) :
  FnX Tryz.prog m 25 #[.agg #[.int .i64 b.1, .int .i64 b.2], .int .i64 n] H fun e H' => e = .returned (.agg #[.int .i64 (widF b n).1, .int .i64 (widF b n).2]) /\ H.le H' := by
 obtain ⟨b1, b2⟩ := b
 unfold widF
 simp only
 by_cases h : b2 < b1
 ·rw [if_pos h]
  refine Aql func25 rfl ntmps25 (by simp) ?_
  (refine @unH _ (zA y25_173 ?_); (try clear hK K); intro K hK hc)
  (intro bb hbb rb hrb; replace hrb : (Hp.set _ bb _) rb = none := hrb; generalize hG : Hp.set _ bb _ = H1 at hrb ⊢; have lH1 := Aqc hG hbb; have wbb := Aqb hG; clear hG; generalize hG : Hp.set _ rb _ = H2; have lH2 := Aqc hG hrb; have vrb := Aqb hG; have vbb := lH2 _ _ wbb; have nbbrb := Aqq wbb hrb; clear hG wbb)
  have l2 := Hp.le_trans lH1 lH2
  (refine @unH _ (zU y25_173 ?_); (try clear hK K); intro K hK hc)
  refine (Bxc m H2 n n).runs.mono ?_
  rintro _ H3 ⟨rfl, l3⟩
  have vrb3 := l3 _ _ vrb
  have l13 := Hp.le_trans l2 l3
  have hrb0 := Hp.le_none lH1 hrb
  clear vbb lH1 lH2 l2 l3 hbb hrb vrb
  (refine @unH _ (zU y25_173 ?_); (try clear hK K); intro K hK hc)
  (refine Axs ?_; (try simp only [nq, ↓reduceIte, Nat.reduceEqDiff]); rw [Aq8, Ax3 results25 (by decide) (b := rb) (o := 0) rfl underlying34 rfl sizeOf34]; simp -implicitDefEqProofs (disch := first | omega | (simp only [qd] <;> omega)) only [xq, ↓xp, qc, Nat.reduceAdd, List.range, List.range.loop, fine, Nat.reduceEqDiff, ↓reduceIte, yielded, reduceCtorEq, Nat.reduceLT, Nat.reduceMul, Nat.reduceSub, one, Nat.reduceLeDiff, Aqg, y25_173, Axm, List.extract_toArray])
  exact Az8 l13 hrb0
 ·rw [if_neg h]
  have hm1 : min b1 n = if n < b1 then n else b1 := by split <;> omega
  have hm2 : max b2 n = if b2 < n then n else b2 := by split <;> omega
  rw [hm1, hm2]
  clear hm1 hm2
  refine Aql func25 rfl ntmps25 (by simp) ?_
  (refine @unH _ (zA y25_173 ?_); (try clear hK K); intro K hK hc)
  (intro bb hbb rb hrb; replace hrb : (Hp.set _ bb _) rb = none := hrb; generalize hG : Hp.set _ bb _ = H1 at hrb ⊢; have lH1 := Aqc hG hbb; have wbb := Aqb hG; clear hG; generalize hG : Hp.set _ rb _ = H2; have lH2 := Aqc hG hrb; have vrb := Aqb hG; have vbb := lH2 _ _ wbb; have nbbrb := Aqq wbb hrb; clear hG wbb)
  have l2 := Hp.le_trans lH1 lH2
  (refine @unH _ (zU y25_173 ?_); (try clear hK K); intro K hK hc)
  refine (Bxc m H2 _ _).runs.mono ?_
  rintro _ H3 ⟨rfl, l3⟩
  have vrb3 := l3 _ _ vrb
  have l13 := Hp.le_trans l2 l3
  have hrb0 := Hp.le_none lH1 hrb
  clear vbb lH1 lH2 l2 l3 hbb hrb vrb
  (refine @unH _ (zU y25_173 ?_); (try clear hK K); intro K hK hc)
  (refine Axs ?_; (try simp only [nq, ↓reduceIte, Nat.reduceEqDiff]); rw [Aq8, Ax3 results25 (by decide) (b := rb) (o := 0) rfl underlying34 rfl sizeOf34]; simp -implicitDefEqProofs (disch := first | omega | (simp only [qd] <;> omega)) only [xq, ↓xp, qc, Nat.reduceAdd, List.range, List.range.loop, fine, Nat.reduceEqDiff, ↓reduceIte, yielded, reduceCtorEq, Nat.reduceLT, Nat.reduceMul, Nat.reduceSub, one, Nat.reduceLeDiff, Aqg, y25_173, Axm, List.extract_toArray])
  exact Az8 l13 hrb0
theorem wid_yes {l : List EvT} {k : Nat} {y : EvT} {P : EvT -> Prop} {g : EvT -> Int} {b : Int × Int} (hy : l[k]? = some y) (hP : P y) (h : WidOf (fun x => ∃ j z, j < k /\ l[j]? = some z /\ P z /\ x = g z) b) : WidOf (fun x => ∃ j z, j < k + 1 /\ l[j]? = some z /\ P z /\ x = g z) (widF b (g y)) :=
 h.add fun x => by
  constructor
  ·rintro ⟨j, z, hj, hz, hp, hx⟩
   by_cases e : j = k
   ·subst e
    rw [hy] at hz
    cases hz
    exact .inr hx
   ·exact .inl ⟨j, z, by omega, hz, hp, hx⟩
  ·rintro (⟨j, z, hj, hz, hp, hx⟩ | hx)
   ·exact ⟨j, z, by omega, hz, hp, hx⟩
   ·exact ⟨k, y, by omega, hy, hP, hx⟩
theorem wid_no {l : List EvT} {k : Nat} {y : EvT} {P : EvT -> Prop} {g : EvT -> Int} {b : Int × Int} (hy : l[k]? = some y) (hP : ¬ P y) (h : WidOf (fun x => ∃ j z, j < k /\ l[j]? = some z /\ P z /\ x = g z) b) : WidOf (fun x => ∃ j z, j < k + 1 /\ l[j]? = some z /\ P z /\ x = g z) b :=
 h.same fun x => by
  constructor
  ·rintro ⟨j, z, hj, hz, hp, hx⟩
   by_cases e : j = k
   ·subst e
    rw [hy] at hz
    cases hz
    exact absurd hp hP
   ·exact ⟨j, z, by omega, hz, hp, hx⟩
  ·rintro ⟨j, z, hj, hz, hp, hx⟩
   exact ⟨j, z, by omega, hz, hp, hx⟩
theorem wid_end {l : List EvT} {P : EvT -> Prop} {g : EvT -> Int} {b : Int × Int} {n : Nat} (hn : n = l.length) (h : WidOf (fun x => ∃ j z, j < n /\ l[j]? = some z /\ P z /\ x = g z) b) : WidOf (fun x => ∃ z ∈ l, P z /\ x = g z) b :=
 h.same fun x => by
  constructor
  ·rintro ⟨z, hz, hp, hx⟩
   obtain ⟨j, hj⟩ := List.getElem?_of_mem hz
   exact ⟨j, z, by rw [hn]; exact (List.getElem?_eq_some_iff.1 hj).1, hj, hp, hx⟩
  ·rintro ⟨j, z, -, hz, hp, hx⟩
   exact ⟨z, List.mem_of_getElem? hz, hp, hx⟩
theorem sbBandS {H : Hp} (a b : Int) (K : Value -> Hp -> Prop) (E : Value -> Hp -> Prop) :
  wpS Tryz.prog (binOp .neq 34 (.agg #[.int .i64 a, .int .i64 b]) (.agg #[.int .i64 a, .int .i64 b])) H K E = K (.bool false) H := by
 rw [sbin_neq2 Dzg, beq_self_eq_true, beq_self_eq_true]
 rfl
theorem append_iS {t : Option Nat} {H₀ H : Hp} {v : Value} {xs : List Int} (h : RowX t H₀ H v 3 (ints xs)) {g : Nat} {x : Int} (hg : H g = none) (hn : xs.length <= 1000000) (ty : TypeId) (cb : Array Bool) (K : Next -> Hp -> Prop) (E : Value -> Hp -> Prop)
  (h' : ∀ v' H', RowX t H₀ H' v' 3 (ints (xs ++ [x])) -> (∀ b u, H b = some u -> rowB v ≠ some b -> H' b = some u) -> (∀ b, rowB v' = some b -> rowB v = some b ∨ H b = none) -> K (.value v') H') :
  wpS Tryz.prog (builtin .append #[22, 22] ty cb #[v, .slice (some ⟨g, 0, none⟩) 1 1]) (H.set g (.cells #[.int .i64 x] 3 (0, 0))) K E :=
 append_row2 underlying22 sizeOf3 zeroValue3 rfl typeInfo3 (by decide) (by decide) h hg rfl (by rw [Aqz]; exact hn) ty cb K E fun v' H' hr hk hnw => h' v' H' (by rw [Cz4]; exact hr) hk hnw
theorem pairs_spec (m : Md) (H : Hp) (a : Option Addr) (cap : Nat) (rows : List (List Value)) (es : List EvT) (hr : RowG 41 4 H (.slice a rows.length cap) rows) (hs : EvR H rows es) (hl : rows.length <= 100000) :
  FnX Tryz.prog m 21 #[.slice a rows.length cap] H fun e H' => e = .returned (.int .i64 (prN es es.length : Nat)) /\ H.le H' := by
 have hG := RowG.slG (by decide) hr
 have hle := hs.1
 have hcs : ∀ (k : Nat) (x : EvT), es[k]? = some x -> ∃ tv cv, rows[k]? = some [Value.int .i64 (x.1 : Nat), Value.int .i64 (x.2.1 : Nat), tv, cv] := fun k x h => by
  obtain ⟨tv, cv, h1, -, -⟩ := hs.2 k x h
  exact ⟨tv, cv, h1⟩
 replace hcs : Aqk _ := hcs
 replace hle : Aqk _ := hle
 clear hr hs
 refine Aql func21 rfl ntmps21 (by simp) ?_
 (refine @unH _ (zA y21_173 ?_); (try clear hK K); intro K hK hc)
 refine Axc (fun w a' H' => ∃ e, ∃ k : Nat, w = rows.length - k /\ k <= rows.length /\ a' = act 44 e [] /\ e 0 = .slice a rows.length cap /\ e 3 = .int .i64 (prN es k : Nat) /\ e 4 = .int .i64 (k : Nat) /\ H' = H) (n := rows.length) ?_ ?_
 ·exact ⟨_, 0, by omega, by omega, rfl, rfl, rfl, rfl, rfl⟩
 rintro w a' HQ ⟨e, k, rfl, hk, rfl, e0, e3, e4, hHQ⟩
 rw [hHQ]
 clear hHQ HQ
 have hpn := prN_le es k
 by_cases hlk : k < rows.length
 ·have hlk' : (k : Int) < rows.length := by omega
  obtain ⟨x, hx⟩ : ∃ x, es[k]? = some x := ⟨_, List.getElem?_eq_getElem (by rw [<- (show rows.length = es.length from hle)]; exact hlk)⟩
  by_cases hk0 : 0 < k
  ·have hk0' : (0 : Int) < (k : Int) := by omega
   have hk1' : 0 <= (k : Int) - 1 := by omega
   have hk2' : (k : Int) - 1 < rows.length := by omega
   obtain ⟨y, hy⟩ : ∃ y, es[k - 1]? = some y := ⟨_, List.getElem?_eq_getElem (by rw [<- (show rows.length = es.length from hle)]; omega)⟩
   obtain ⟨tv, cv, hrow⟩ := (show ∀ k x, _ -> _ from hcs) k x hx
   obtain ⟨tv', cv', hrow'⟩ := (show ∀ k x, _ -> _ from hcs) (k - 1) y hy
   obtain ⟨db, dof, dp, dcl, dfr, hdae, hdb, hdsz, -, hdext⟩ := SlG.get hG (i := k) hrow
   obtain ⟨db', dof', dp', dcl', dfr', hdae', hdb', hdsz', -, hdext'⟩ := SlG.get hG (i := k - 1) hrow'
   subst hdae
   simp only [Option.some.injEq, Addr.mk.injEq, and_true] at hdae'
   obtain ⟨rfl, rfl⟩ := hdae'
   rw [hdb] at hdb'
   simp only [Option.some.injEq, Prod.mk.injEq, Obj.cells.injEq, true_and] at hdb'
   obtain ⟨-, rfl, -⟩ := hdb'
   have q0 : dcl[dof + k * 4]? = some (.int .i64 (x.1 : Nat)) := Bzb (k := 0) hdext hdsz rfl
   have q1 : dcl[dof + k * 4 + 1]? = some (.int .i64 (x.2.1 : Nat)) := Bzb (k := 1) hdext hdsz rfl
   have q2 : dcl[dof + ((k : Int) - 1).toNat * 4]? = some (.int .i64 (y.1 : Nat)) := by
    rw [show ((k : Int) - 1).toNat = k - 1 by omega]
    exact Bzb (k := 0) hdext' hdsz' rfl
   have q3 : dcl[dof + ((k : Int) - 1).toNat * 4 + 1]? = some (.int .i64 (y.2.1 : Nat)) := by
    rw [show ((k : Int) - 1).toNat = k - 1 by omega]
    exact Bzb (k := 1) hdext' hdsz' rfl
   have hkx := evK_get hx
   have hky := evK_get hy
   have hst : prN es (k + 1) = if x.1 = y.1 /\ x.2.1 = y.2.1 then prN es k else prN es k + 1 := by
    show (if 0 < k /\ evK es k = evK es (k - 1) then prN es k else prN es k + 1) = _
    rw [hkx, hky]
    simp only [hk0, true_and, Prod.mk.injEq]
   replace hst : Aqk _ := hst
   have hq : ∀ o, Hp.cell H ⟨db, o, none⟩ = dcl[o]? := fun o => cell_of hdb
   clear hdext hdext' hrow hrow' hkx hky hx hy hdsz' hdb
   generalize hpk : prN es k = pk at *
   replace hpk : Aqk _ := hpk
   by_cases h1 : ((x.1 : Nat) : Int) = (y.1 : Nat)
   ·by_cases h2 : ((x.2.1 : Nat) : Int) = (y.2.1 : Nat)
    ·have hs2 : prN es (k + 1) = pk := by
      rw [show prN es (k + 1) = _ from hst, if_pos ⟨by omega, by omega⟩]
     replace hs2 : Aqk _ := hs2
     (refine @unH _ (zA y21_173 ?_); (try clear hK K); intro K hK hc)
     refine Axn (fun HX => HX = H) [] (.free 0 (.free 1 (.free 2 (.free 3 (.free 4 (.free 5 (.free 6 (.take 7 (.free 8 (.free 9 (.free 10 (.free 11 (.free 12 (.take 13 (.free 14 (.free 15 (.free 16 (.free 17 (.free 18 (.free 19 (.free 20 (.take 21 (.free 22 (.free 23 (.free 24 (.free 25 (.free 26 (.take 27 (.free 28 (.free 29 .nil)))))))))))))))))))))))))))))) (by kernel_rfl) (by kernel_rfl) (by decide) (by kernel_rfl) ?_; intro K hK
     refine Ax5 fun ops hOz => ?_
     (iterate 3 (refine @unH _ ?_; refine zF y21_173 ?_))
     (iterate 4 (refine @unH _ ?_; refine zG y21_173 ?_))
     (apply Ay1 hOz rfl rfl rfl rfl (by simp -implicitDefEqProofs (disch := omega) only [act_get?, Axh, Nat.reduceEqDiff, ↓reduceIte, beq_self_eq_true, Bool.and_self, Bool.not_true, Bool.not_false, *]) (by rfl); (focus (intro HX hHX; subst hHX; simp -implicitDefEqProofs (disch := first | omega | (simp only [qd] <;> omega)) only [xq, ↓xp, qc, Nat.reduceAdd, List.range, List.range.loop, fine, Nat.reduceEqDiff, ↓reduceIte, yielded, reduceCtorEq, Nat.reduceLT, Nat.reduceMul, Nat.reduceSub, one, Nat.reduceLeDiff, Aqg, y21_173, aq, ↓ap, qe0, qe1, qe2, *, -hK, Axa, exists_eq_left'] <;> (first | exact rfl | exact ⟨rfl, rfl⟩ | exact ⟨rfl, trivial⟩))); simp -implicitDefEqProofs (disch := first | omega | (simp only [qd] <;> omega)) only [Aq3, Aqm])
     (iterate 5 (refine @unH _ ?_; refine zG y21_173 ?_))
     (apply Ay1 hOz rfl rfl rfl rfl (by simp -implicitDefEqProofs (disch := omega) only [act_get?, Axh, Nat.reduceEqDiff, ↓reduceIte, beq_self_eq_true, Bool.and_self, Bool.not_true, Bool.not_false, *]) (by rfl); (focus (intro HX hHX; subst hHX; simp -implicitDefEqProofs (disch := first | omega | (simp only [qd] <;> omega)) only [xq, ↓xp, qc, Nat.reduceAdd, List.range, List.range.loop, fine, Nat.reduceEqDiff, ↓reduceIte, yielded, reduceCtorEq, Nat.reduceLT, Nat.reduceMul, Nat.reduceSub, one, Nat.reduceLeDiff, Aqg, y21_173, aq, ↓ap, qe0, qe1, qe2, *, -hK, Axa, exists_eq_left'] <;> (first | exact rfl | exact ⟨rfl, rfl⟩ | exact ⟨rfl, trivial⟩))); simp -implicitDefEqProofs (disch := first | omega | (simp only [qd] <;> omega)) only [Aq3, Aqm])
     (refine @unH _ ?_; refine zG y21_173 ?_)
     (iterate 2 (refine @unH _ ?_; refine zF y21_173 ?_))
     (iterate 4 (refine @unH _ ?_; refine zG y21_173 ?_))
     (apply Ay1 hOz rfl rfl rfl rfl (by simp -implicitDefEqProofs (disch := omega) only [act_get?, Axh, Nat.reduceEqDiff, ↓reduceIte, beq_self_eq_true, Bool.and_self, Bool.not_true, Bool.not_false, *]) (by rfl); (focus (intro HX hHX; subst hHX; simp -implicitDefEqProofs (disch := first | omega | (simp only [qd] <;> omega)) only [xq, ↓xp, qc, Nat.reduceAdd, List.range, List.range.loop, fine, Nat.reduceEqDiff, ↓reduceIte, yielded, reduceCtorEq, Nat.reduceLT, Nat.reduceMul, Nat.reduceSub, one, Nat.reduceLeDiff, Aqg, y21_173, aq, ↓ap, qe0, qe1, qe2, *, -hK, Axa, exists_eq_left'] <;> (first | exact rfl | exact ⟨rfl, rfl⟩ | exact ⟨rfl, trivial⟩))); simp -implicitDefEqProofs (disch := first | omega | (simp only [qd] <;> omega)) only [Aq3, Aqm])
     (iterate 5 (refine @unH _ ?_; refine zG y21_173 ?_))
     (apply Ay1 hOz rfl rfl rfl rfl (by simp -implicitDefEqProofs (disch := omega) only [act_get?, Axh, Nat.reduceEqDiff, ↓reduceIte, beq_self_eq_true, Bool.and_self, Bool.not_true, Bool.not_false, *]) (by rfl); (focus (intro HX hHX; subst hHX; simp -implicitDefEqProofs (disch := first | omega | (simp only [qd] <;> omega)) only [xq, ↓xp, qc, Nat.reduceAdd, List.range, List.range.loop, fine, Nat.reduceEqDiff, ↓reduceIte, yielded, reduceCtorEq, Nat.reduceLT, Nat.reduceMul, Nat.reduceSub, one, Nat.reduceLeDiff, Aqg, y21_173, aq, ↓ap, qe0, qe1, qe2, *, -hK, Axa, exists_eq_left'] <;> (first | exact rfl | exact ⟨rfl, rfl⟩ | exact ⟨rfl, trivial⟩))); simp -implicitDefEqProofs (disch := first | omega | (simp only [qd] <;> omega)) only [Aq3, Aqm])
     (refine @unH _ ?_; refine zG y21_173 ?_)
     (refine @unH _ ?_; refine zF y21_173 ?_)
     (refine Aja (hK _ _ ?_); clear hK K; (try simp only [nq, ↓reduceIte, Nat.reduceEqDiff]))
     (refine @unH _ (zA y21_173 ?_); (try clear hK K); intro K hK hc)
     exact ⟨rows.length - (k + 1), by omega, _, k + 1, rfl, by omega, rfl, e0, by rw [show prN es (k + 1) = pk from hs2]; exact e3, rfl, trivial⟩
    ·have hs2 : prN es (k + 1) = pk + 1 := by
      rw [show prN es (k + 1) = _ from hst, if_neg fun h => h2 (by omega)]
     replace hs2 : Aqk _ := hs2
     (refine @unH _ (zA y21_173 ?_); (try clear hK K); intro K hK hc)
     refine Axn (fun HX => HX = H) [] (.free 0 (.free 1 (.free 2 (.free 3 (.free 4 (.free 5 (.free 6 (.take 7 (.free 8 (.free 9 (.free 10 (.free 11 (.free 12 (.take 13 (.free 14 (.free 15 (.free 16 (.free 17 (.free 18 (.free 19 (.free 20 (.take 21 (.free 22 (.free 23 (.free 24 (.free 25 (.free 26 (.take 27 (.free 28 (.free 29 .nil)))))))))))))))))))))))))))))) (by kernel_rfl) (by kernel_rfl) (by decide) (by kernel_rfl) ?_; intro K hK
     refine Ax5 fun ops hOz => ?_
     (iterate 3 (refine @unH _ ?_; refine zF y21_173 ?_))
     (iterate 4 (refine @unH _ ?_; refine zG y21_173 ?_))
     (apply Ay1 hOz rfl rfl rfl rfl (by simp -implicitDefEqProofs (disch := omega) only [act_get?, Axh, Nat.reduceEqDiff, ↓reduceIte, beq_self_eq_true, Bool.and_self, Bool.not_true, Bool.not_false, *]) (by rfl); (focus (intro HX hHX; subst hHX; simp -implicitDefEqProofs (disch := first | omega | (simp only [qd] <;> omega)) only [xq, ↓xp, qc, Nat.reduceAdd, List.range, List.range.loop, fine, Nat.reduceEqDiff, ↓reduceIte, yielded, reduceCtorEq, Nat.reduceLT, Nat.reduceMul, Nat.reduceSub, one, Nat.reduceLeDiff, Aqg, y21_173, aq, ↓ap, qe0, qe1, qe2, *, -hK, Axa, exists_eq_left'] <;> (first | exact rfl | exact ⟨rfl, rfl⟩ | exact ⟨rfl, trivial⟩))); simp -implicitDefEqProofs (disch := first | omega | (simp only [qd] <;> omega)) only [Aq3, Aqm])
     (iterate 5 (refine @unH _ ?_; refine zG y21_173 ?_))
     (apply Ay1 hOz rfl rfl rfl rfl (by simp -implicitDefEqProofs (disch := omega) only [act_get?, Axh, Nat.reduceEqDiff, ↓reduceIte, beq_self_eq_true, Bool.and_self, Bool.not_true, Bool.not_false, *]) (by rfl); (focus (intro HX hHX; subst hHX; simp -implicitDefEqProofs (disch := first | omega | (simp only [qd] <;> omega)) only [xq, ↓xp, qc, Nat.reduceAdd, List.range, List.range.loop, fine, Nat.reduceEqDiff, ↓reduceIte, yielded, reduceCtorEq, Nat.reduceLT, Nat.reduceMul, Nat.reduceSub, one, Nat.reduceLeDiff, Aqg, y21_173, aq, ↓ap, qe0, qe1, qe2, *, -hK, Axa, exists_eq_left'] <;> (first | exact rfl | exact ⟨rfl, rfl⟩ | exact ⟨rfl, trivial⟩))); simp -implicitDefEqProofs (disch := first | omega | (simp only [qd] <;> omega)) only [Aq3, Aqm])
     (refine @unH _ ?_; refine zG y21_173 ?_)
     (iterate 2 (refine @unH _ ?_; refine zF y21_173 ?_))
     (iterate 4 (refine @unH _ ?_; refine zG y21_173 ?_))
     (apply Ay1 hOz rfl rfl rfl rfl (by simp -implicitDefEqProofs (disch := omega) only [act_get?, Axh, Nat.reduceEqDiff, ↓reduceIte, beq_self_eq_true, Bool.and_self, Bool.not_true, Bool.not_false, *]) (by rfl); (focus (intro HX hHX; subst hHX; simp -implicitDefEqProofs (disch := first | omega | (simp only [qd] <;> omega)) only [xq, ↓xp, qc, Nat.reduceAdd, List.range, List.range.loop, fine, Nat.reduceEqDiff, ↓reduceIte, yielded, reduceCtorEq, Nat.reduceLT, Nat.reduceMul, Nat.reduceSub, one, Nat.reduceLeDiff, Aqg, y21_173, aq, ↓ap, qe0, qe1, qe2, *, -hK, Axa, exists_eq_left'] <;> (first | exact rfl | exact ⟨rfl, rfl⟩ | exact ⟨rfl, trivial⟩))); simp -implicitDefEqProofs (disch := first | omega | (simp only [qd] <;> omega)) only [Aq3, Aqm])
     (iterate 5 (refine @unH _ ?_; refine zG y21_173 ?_))
     (apply Ay1 hOz rfl rfl rfl rfl (by simp -implicitDefEqProofs (disch := omega) only [act_get?, Axh, Nat.reduceEqDiff, ↓reduceIte, beq_self_eq_true, Bool.and_self, Bool.not_true, Bool.not_false, *]) (by rfl); (focus (intro HX hHX; subst hHX; simp -implicitDefEqProofs (disch := first | omega | (simp only [qd] <;> omega)) only [xq, ↓xp, qc, Nat.reduceAdd, List.range, List.range.loop, fine, Nat.reduceEqDiff, ↓reduceIte, yielded, reduceCtorEq, Nat.reduceLT, Nat.reduceMul, Nat.reduceSub, one, Nat.reduceLeDiff, Aqg, y21_173, aq, ↓ap, qe0, qe1, qe2, *, -hK, Axa, exists_eq_left'] <;> (first | exact rfl | exact ⟨rfl, rfl⟩ | exact ⟨rfl, trivial⟩))); simp -implicitDefEqProofs (disch := first | omega | (simp only [qd] <;> omega)) only [Aq3, Aqm])
     (refine @unH _ ?_; refine zG y21_173 ?_)
     (refine @unH _ ?_; refine zF y21_173 ?_)
     (refine Aja (hK _ _ ?_); clear hK K; (try simp only [nq, ↓reduceIte, Nat.reduceEqDiff]))
     (refine @unH _ (zA y21_173 ?_); (try clear hK K); intro K hK hc)
     exact ⟨rows.length - (k + 1), by omega, _, k + 1, rfl, by omega, rfl, e0, by rw [show prN es (k + 1) = pk + 1 from hs2]; rfl, rfl, trivial⟩
   ·have hs2 : prN es (k + 1) = pk + 1 := by
     rw [show prN es (k + 1) = _ from hst, if_neg fun h => h1 (by omega)]
    replace hs2 : Aqk _ := hs2
    (refine @unH _ (zA y21_173 ?_); (try clear hK K); intro K hK hc)
    refine Axn (fun HX => HX = H) [] (.free 0 (.free 1 (.free 2 (.free 3 (.free 4 (.free 5 (.free 6 (.take 7 (.free 8 (.free 9 (.free 10 (.free 11 (.free 12 (.take 13 (.free 14 (.free 15 (.free 16 (.free 17 (.free 18 (.free 19 (.free 20 (.free 21 (.free 22 (.free 23 (.free 24 (.free 25 (.free 26 (.free 27 (.free 28 (.free 29 .nil)))))))))))))))))))))))))))))) (by kernel_rfl) (by kernel_rfl) (by decide) (by kernel_rfl) ?_; intro K hK
    refine Ax5 fun ops hOz => ?_
    (iterate 3 (refine @unH _ ?_; refine zF y21_173 ?_))
    (iterate 4 (refine @unH _ ?_; refine zG y21_173 ?_))
    (apply Ay1 hOz rfl rfl rfl rfl (by simp -implicitDefEqProofs (disch := omega) only [act_get?, Axh, Nat.reduceEqDiff, ↓reduceIte, beq_self_eq_true, Bool.and_self, Bool.not_true, Bool.not_false, *]) (by rfl); (focus (intro HX hHX; subst hHX; simp -implicitDefEqProofs (disch := first | omega | (simp only [qd] <;> omega)) only [xq, ↓xp, qc, Nat.reduceAdd, List.range, List.range.loop, fine, Nat.reduceEqDiff, ↓reduceIte, yielded, reduceCtorEq, Nat.reduceLT, Nat.reduceMul, Nat.reduceSub, one, Nat.reduceLeDiff, Aqg, y21_173, aq, ↓ap, qe0, qe1, qe2, *, -hK, Axa, exists_eq_left'] <;> (first | exact rfl | exact ⟨rfl, rfl⟩ | exact ⟨rfl, trivial⟩))); simp -implicitDefEqProofs (disch := first | omega | (simp only [qd] <;> omega)) only [Aq3, Aqm])
    (iterate 5 (refine @unH _ ?_; refine zG y21_173 ?_))
    (apply Ay1 hOz rfl rfl rfl rfl (by simp -implicitDefEqProofs (disch := omega) only [act_get?, Axh, Nat.reduceEqDiff, ↓reduceIte, beq_self_eq_true, Bool.and_self, Bool.not_true, Bool.not_false, *]) (by rfl); (focus (intro HX hHX; subst hHX; simp -implicitDefEqProofs (disch := first | omega | (simp only [qd] <;> omega)) only [xq, ↓xp, qc, Nat.reduceAdd, List.range, List.range.loop, fine, Nat.reduceEqDiff, ↓reduceIte, yielded, reduceCtorEq, Nat.reduceLT, Nat.reduceMul, Nat.reduceSub, one, Nat.reduceLeDiff, Aqg, y21_173, aq, ↓ap, qe0, qe1, qe2, *, -hK, Axa, exists_eq_left'] <;> (first | exact rfl | exact ⟨rfl, rfl⟩ | exact ⟨rfl, trivial⟩))); simp -implicitDefEqProofs (disch := first | omega | (simp only [qd] <;> omega)) only [Aq3, Aqm])
    (refine @unH _ ?_; refine zG y21_173 ?_)
    (iterate 2 (refine @unH _ ?_; refine zF y21_173 ?_))
    (iterate 12 (refine planZ_skip (w := .bool false) hOz rfl rfl rfl ?_ rfl ?_; (focus (simp -implicitDefEqProofs (disch := omega) only [act_get?, Axh, Aq3, Aqm, Nat.reduceEqDiff, ↓reduceIte, beq_self_eq_true, Bool.and_self]; done)); simp -implicitDefEqProofs (disch := first | omega | (simp only [qd] <;> omega)) only [Aq3, Aqm]))
    (refine @unH _ ?_; refine zF y21_173 ?_)
    (refine Aja (hK _ _ ?_); clear hK K; (try simp only [nq, ↓reduceIte, Nat.reduceEqDiff]))
    (refine @unH _ (zA y21_173 ?_); (try clear hK K); intro K hK hc)
    exact ⟨rows.length - (k + 1), by omega, _, k + 1, rfl, by omega, rfl, e0, by rw [show prN es (k + 1) = pk + 1 from hs2]; rfl, rfl, trivial⟩
  ·obtain rfl : k = 0 := by omega
   have hk0' : ¬ (0 : Int) < ((0 : Nat) : Int) := by omega
   (refine @unH _ (zA y21_173 ?_); (try clear hK K); intro K hK hc)
   refine Axn (fun HX => HX = H) [] (.free 0 (.free 1 (.free 2 (.free 3 (.free 4 (.free 5 (.free 6 (.free 7 (.free 8 (.free 9 (.free 10 (.free 11 (.free 12 (.free 13 (.free 14 (.free 15 (.free 16 (.free 17 (.free 18 (.free 19 (.free 20 (.free 21 (.free 22 (.free 23 (.free 24 (.free 25 (.free 26 (.free 27 (.free 28 (.free 29 .nil)))))))))))))))))))))))))))))) (by kernel_rfl) (by kernel_rfl) (by decide) (by kernel_rfl) ?_; intro K hK
   refine Ax5 fun ops hOz => ?_
   (iterate 3 (refine @unH _ ?_; refine zF y21_173 ?_))
   (iterate 12 (refine planZ_skip (w := .bool false) hOz rfl rfl rfl ?_ rfl ?_; (focus (simp -implicitDefEqProofs (disch := omega) only [act_get?, Axh, Aq3, Aqm, Nat.reduceEqDiff, ↓reduceIte, beq_self_eq_true, Bool.and_self]; done)); simp -implicitDefEqProofs (disch := first | omega | (simp only [qd] <;> omega)) only [Aq3, Aqm]))
   (iterate 2 (refine @unH _ ?_; refine zF y21_173 ?_))
   (iterate 12 (refine planZ_skip (w := .bool false) hOz rfl rfl rfl ?_ rfl ?_; (focus (simp -implicitDefEqProofs (disch := omega) only [act_get?, Axh, Aq3, Aqm, Nat.reduceEqDiff, ↓reduceIte, beq_self_eq_true, Bool.and_self]; done)); simp -implicitDefEqProofs (disch := first | omega | (simp only [qd] <;> omega)) only [Aq3, Aqm]))
   (refine @unH _ ?_; refine zF y21_173 ?_)
   (refine Aja (hK _ _ ?_); clear hK K; (try simp only [nq, ↓reduceIte, Nat.reduceEqDiff]))
   (refine @unH _ (zA y21_173 ?_); (try clear hK K); intro K hK hc)
   exact ⟨rows.length - (0 + 1), by omega, _, 0 + 1, rfl, by omega, rfl, e0, rfl, rfl, trivial⟩
 ·obtain rfl : k = rows.length := by omega
  rw [show prN es rows.length = prN es es.length by rw [show rows.length = es.length from hle]] at e3
  generalize prN es es.length = pn at *
  (refine @unH _ (zA y21_173 ?_); (try clear hK K); intro K hK hc)
  (refine @unH _ ?_; refine z9 results21 ?_)
  exact ⟨trivial, Hp.le_refl _⟩
def y5_178 := aN @callF8 (aN @callF7 (aN @Exs (aN @Exc (aN @Eq4 (aN @callF9 (aN @Djo (aN @callF21 (aN @Djp (aN @Dyy (aN @Dyv (aN @callF13 (aN @Exk (aN @Eqc (aN @Eqy (aN @Eqd (aN (fun H => Aqd (H := H) underlying41 (i := 2) rfl (off := 2) rfl sizeOf22) (aN @Eqv (aN @Djq (aN @Dy8 (aN @Djr (aN @Exv (aN @Exd (aN @Eq5 (aN @callF25 (aN @Djs (aN @Eqa (aN @Eqb (aN @Aza (aN @Bq0 (aN @Dy6 (aN (fun H => Aqd (H := H) underlying41 (i := 3) rfl (off := 3) rfl sizeOf22) (aN @Exh (aN @Djl (aN @Djm (aN @callF27 @callF28)))))))))))))))))))))))))))))))))))
theorem lsall_spec (H : Hp) (sa : Option Addr) (sl sc : Nat) (hs : ∀ i : Nat, i < sl -> ∃ sb so c e fr x, sa = some ⟨sb, so, none⟩ /\ H sb = some (false, .cells c e fr) /\ c[so + i]? = some (.int .i64 x)) :
  FnX Tryz.prog (.wg Tryz.prog) 5 #[.slice sa sl sc] H fun e _ => e = .returned (.bool true) := by
 refine Aql func5 rfl ntmps5 (by simp) ?_
 (refine @unH _ (zA y5_178 ?_); (try clear hK K); intro K hK hc)
 refine (newTin_spec _ H sa sl sc hs 240 (by omega)).runs.mono ?_
 rintro _ H1 ⟨tb, rfl, l1, hT⟩
 (refine @unH _ (zU y5_178 ?_); (try clear hK K); intro K hK hc)
 refine (smellOf_spec _ H1 tb 180 4 false (by omega) (by omega) hT).runs.mono ?_
 rintro _ H2 ⟨s, dv, hv, nv, cv, i, hr, ts, rfl, hs2, ok, hp5, hdl, hnl, hil, hr12, htk, hcv, htr, lex2, hT2, -⟩
 clear hT hs l1 lex2
 obtain ⟨da, dc, ha, kc, na, nc, rfl, rfl, rfl, l1, l2, l3⟩ := hs2.forms
 (refine @unH _ (zU y5_178 ?_); intro _ _ hc)
 (intro sb hsb; generalize hG : Hp.set _ sb _ = H3; have lH3 := Aqc hG hsb; have vsb := Aqb hG; clear hG)
 have hs3 := hs2.le lH3
 have hT3 := hT2.le lH3
 have hsn := hT2.ne hsb
 have hp0 := ok.p0
 have hp6 := ok.p1
 have hh0 := ok.h0
 have hh1 := ok.h1
 have hd4 : s.doors.length <= 4 := by omega
 clear hs2 lH3 hsb hT2 hcv htk hdl htr
 (refine @unH _ (zU y5_178 ?_); (try clear hK K); intro K hK hc)
 refine (events_spec _ H3 s _ _ _ hs3 ok hd4).runs.mono ?_
 rintro _ H4 ⟨lv, rows, rfl, rL, sL, l34⟩
 obtain ⟨la, lc, rfl⟩ := rL.form
 have hrl : rows.length <= 100000 := by
  have h1 := evA_len s (Nat.le_trans (takesN_pow _) (Nat.pow_le_pow_right (n := 5) (by decide) hd4)) s.hampers.length
  have h3 := sL.1
  unfold evF at h3
  omega
 have vsb4 := l34 _ _ vsb
 have hs4 := hs3.le l34
 have hT4 := hT3.le l34
 have hrlen := sL.1
 replace rL : Aqk _ := rL
 replace sL : Aqk _ := sL
 replace hrlen : Aqk _ := hrlen
 clear hs3 l34 vsb hT3
 have hCt := Cxk H4 s _ _ _ hs4 ok
 have hFi := fun H (l : H4.le H) => Cxl H s _ _ _ (hs4.le l) ok
 have hpr := pr_all ok
 generalize Azi s = ns at *
 replace hCt : Aqk _ := hCt
 replace hFi : Aqk _ := hFi
 replace hpr : Aqk _ := hpr
 (refine @unH _ (zU y5_178 ?_); (try clear hK K); intro K hK hc)
 refine (show FnX _ _ _ _ _ _ from hCt).runs.mono ?_
 rintro _ H5 ⟨rfl, l45⟩
 have vsb5 := l45 _ _ vsb4
 have hPa := pairs_spec (.wg Tryz.prog) H5 la lc rows (evF s) (RowG.le (show RowG _ _ H4 _ rows from rL) l45) ((show EvR H4 rows (evF s) from sL).mono fun _ _ h => h.le l45) hrl
 rw [show prN _ _ = _ from hpr] at hPa
 replace hPa : Aqk _ := hPa
 clear hCt hpr vsb4
 (refine @unH _ (zU y5_178 ?_); (try clear hK K); intro K hK hc)
 refine (show FnX _ _ _ _ _ _ from hPa).runs.mono ?_
 rintro _ H6 ⟨rfl, l56⟩
 have l46 := Hp.le_trans l45 l56
 have vsb6 := l56 _ _ vsb5
 clear hPa vsb5
 (refine @unH _ ?_; refine zX y5_178 ?_)
 refine hK _ _ ?_
 clear hK K
 (try refine @unH _ (zQ ?_))
 first
 | (refine Axz rfl ?_; intro K hK; simp -implicitDefEqProofs (disch := first | omega | (simp only [qd] <;> omega)) only [xq, ↓xp, qc, Nat.reduceAdd, List.range, List.range.loop, fine, Nat.reduceEqDiff, ↓reduceIte, yielded, reduceCtorEq, Nat.reduceLT, Nat.reduceMul, Nat.reduceSub, one, Nat.reduceLeDiff, Aqg, y5_178, aq, ↓ap, qe0, qe1, qe2, *, -hK]; try (refine hK _ _ ?_; clear hK K))
 | (refine Azx rfl ?_; intro K hK; simp -implicitDefEqProofs (disch := first | omega | (simp only [qd] <;> omega)) only [xq, ↓xp, qc, Nat.reduceAdd, List.range, List.range.loop, fine, Nat.reduceEqDiff, ↓reduceIte, yielded, reduceCtorEq, Nat.reduceLT, Nat.reduceMul, Nat.reduceSub, one, Nat.reduceLeDiff, Aqg, y5_178, aq, ↓ap, qe0, qe1, qe2, *, -hK]; try (refine hK _ _ ?_; clear hK K; (try simp only [nq, ↓reduceIte, Nat.reduceEqDiff])))
 | (refine Aze ?_; (try simp only [nq, ↓reduceIte, Nat.reduceEqDiff]))
 | (refine Azh ?_; (try simp only [nq, ↓reduceIte, Nat.reduceEqDiff]))
 | (refine Az6 ?_; (try simp only [nq, ↓reduceIte, Nat.reduceEqDiff]))
 | (refine Ajc ?_; (try simp only [nq, ↓reduceIte, Nat.reduceEqDiff]))
 | (refine Azw (by simp only [Aq6, Axh, Nat.reduceEqDiff, Nat.reduceLT, ↓reduceIte, *]; rfl) ?_ ?_ <;> (intro hc; first | (exfalso; simp -implicitDefEqProofs (disch := omega) only [*, bq, reduceCtorEq] at hc; done) | (simp only [dq, qe3, qe4, qe5, qe6] at hc) | skip))
 | (refine Azy ?_)
 | (refine Ax7 ?_)
 | (refine Axp ?_)
 first
 | (refine Axz rfl ?_; intro K hK; simp -implicitDefEqProofs (disch := first | omega | (simp only [qd] <;> omega)) only [xq, ↓xp, qc, Nat.reduceAdd, List.range, List.range.loop, fine, Nat.reduceEqDiff, ↓reduceIte, yielded, reduceCtorEq, Nat.reduceLT, Nat.reduceMul, Nat.reduceSub, one, Nat.reduceLeDiff, Aqg, y5_178, aq, ↓ap, qe0, qe1, qe2, *, -hK]; try (refine hK _ _ ?_; clear hK K))
 | (refine Azx rfl ?_; intro K hK; simp -implicitDefEqProofs (disch := first | omega | (simp only [qd] <;> omega)) only [xq, ↓xp, qc, Nat.reduceAdd, List.range, List.range.loop, fine, Nat.reduceEqDiff, ↓reduceIte, yielded, reduceCtorEq, Nat.reduceLT, Nat.reduceMul, Nat.reduceSub, one, Nat.reduceLeDiff, Aqg, y5_178, aq, ↓ap, qe0, qe1, qe2, *, -hK]; try (refine hK _ _ ?_; clear hK K; (try simp only [nq, ↓reduceIte, Nat.reduceEqDiff])))
 | (refine Aze ?_; (try simp only [nq, ↓reduceIte, Nat.reduceEqDiff]))
 | (refine Azh ?_; (try simp only [nq, ↓reduceIte, Nat.reduceEqDiff]))
 | (refine Az6 ?_; (try simp only [nq, ↓reduceIte, Nat.reduceEqDiff]))
 | (refine Ajc ?_; (try simp only [nq, ↓reduceIte, Nat.reduceEqDiff]))
 | (refine Azw (by simp only [Aq6, Axh, Nat.reduceEqDiff, Nat.reduceLT, ↓reduceIte, *]; rfl) ?_ ?_ <;> (intro hc; first | (exfalso; simp -implicitDefEqProofs (disch := omega) only [*, bq, reduceCtorEq] at hc; done) | (simp only [dq, qe3, qe4, qe5, qe6] at hc) | skip))
 | (refine Azy ?_)
 | (refine Ax7 ?_)
 | (refine Axp ?_)
 first
 | (refine Axz rfl ?_; intro K hK; simp -implicitDefEqProofs (disch := first | omega | (simp only [qd] <;> omega)) only [xq, ↓xp, qc, Nat.reduceAdd, List.range, List.range.loop, fine, Nat.reduceEqDiff, ↓reduceIte, yielded, reduceCtorEq, Nat.reduceLT, Nat.reduceMul, Nat.reduceSub, one, Nat.reduceLeDiff, Aqg, y5_178, aq, ↓ap, qe0, qe1, qe2, *, -hK]; try (refine hK _ _ ?_; clear hK K))
 | (refine Azx rfl ?_; intro K hK; simp -implicitDefEqProofs (disch := first | omega | (simp only [qd] <;> omega)) only [xq, ↓xp, qc, Nat.reduceAdd, List.range, List.range.loop, fine, Nat.reduceEqDiff, ↓reduceIte, yielded, reduceCtorEq, Nat.reduceLT, Nat.reduceMul, Nat.reduceSub, one, Nat.reduceLeDiff, Aqg, y5_178, aq, ↓ap, qe0, qe1, qe2, *, -hK]; try (refine hK _ _ ?_; clear hK K; (try simp only [nq, ↓reduceIte, Nat.reduceEqDiff])))
 | (refine Aze ?_; (try simp only [nq, ↓reduceIte, Nat.reduceEqDiff]))
 | (refine Azh ?_; (try simp only [nq, ↓reduceIte, Nat.reduceEqDiff]))
 | (refine Az6 ?_; (try simp only [nq, ↓reduceIte, Nat.reduceEqDiff]))
 | (refine Ajc ?_; (try simp only [nq, ↓reduceIte, Nat.reduceEqDiff]))
 | (refine Azw (by simp only [Aq6, Axh, Nat.reduceEqDiff, Nat.reduceLT, ↓reduceIte, *]; rfl) ?_ ?_ <;> (intro hc; first | (exfalso; simp -implicitDefEqProofs (disch := omega) only [*, bq, reduceCtorEq] at hc; done) | (simp only [dq, qe3, qe4, qe5, qe6] at hc) | skip))
 | (refine Azy ?_)
 | (refine Ax7 ?_)
 | (refine Axp ?_)
 refine ((show ∀ H, _ -> _ from hFi) H6 l46).runs.mono ?_
 rintro _ H7 ⟨fw, rfl, hfw, l67⟩
 have l47 := Hp.le_trans l46 l67
 have vsb7 := l67 _ _ vsb6
 obtain ⟨fa, fc, rfl, -⟩ := id hfw
 clear hFi vsb6 l45 l56 l46 l67
 rcases hev : evF s with _ | ⟨x, L⟩
 ·have hn : ¬ ∃ i b ts, Tr s i b ts := fun ⟨i, b, ts, h⟩ => by
   have := h.ev
   rw [hev] at this
   cases this
  have hsu : susp s = [] := Classical.not_not.1 fun h => hn ((Bwa ok).1 h)
  have hfe : fstE s = (0, 0, [], 11) := by
   unfold fstE
   rw [hsu]
  have hr0 : rows.length = 0 := by
   rw [show rows.length = _ from hrlen, hev]
   rfl
  have hr0' : (rows.length : Int) = 0 := by omega
  rw [hfe] at hfw ⊢
  simp only at hfw ⊢
  replace hr0 : Aqk _ := hr0
  clear hev hn hsu hfe hfw
  (refine @unH _ (zU y5_178 ?_); (try clear hK K); intro K hK hc)
  refine (smelled_spec H7).runs.mono ?_
  rintro _ H8 ⟨rfl, -⟩
  (refine @unH _ (zU y5_178 ?_); (try clear hK K); intro K hK hc)
  (refine Axs ?_; (try simp only [nq, ↓reduceIte, Nat.reduceEqDiff]); rw [Aq8, Ay2 results5 (by decide)]; simp only [Axh, Nat.reduceEqDiff, ↓reduceIte])
 ·have hfe := first_ev ok hev
  rw [hfe] at hfw ⊢
  simp only at hfw ⊢
  have hr0 : ¬ (rows.length : Int) = 0 := by
   have h : rows.length = _ := hrlen
   rw [hev] at h
   simp only [List.length_cons] at h
   omega
  obtain ⟨tv, cv0, hrow, htv, -⟩ := (show EvR H4 rows (evF s) from sL).2 0 x (by rw [hev]; rfl)
  obtain ⟨db, dof, dp, dcl, dfr, hdae, hdb, hdsz, -, hdext⟩ := SlG.get ((RowG.slG (by decide) (show RowG _ _ H4 _ rows from rL)).le l47) (i := 0) hrow
  have q0 : dcl[dof + Int.toNat 0 * 4]? = some (.int .i64 (x.1 : Nat)) := by have h := Bzb (k := 0) hdext hdsz rfl; simpa using h
  have q1 : dcl[dof + Int.toNat 0 * 4 + 1]? = some (.int .i64 (x.2.1 : Nat)) := by have h := Bzb (k := 1) hdext hdsz rfl; simpa using h
  have q2 : dcl[dof + Int.toNat 0 * 4 + 2]? = some tv := by have h := Bzb (k := 2) hdext hdsz rfl; simpa using h
  have htv7 := htv.le l47
  obtain ⟨ta, tn, tc, rfl⟩ := htv.isSlice
  have hr1 : (0 : Int) < rows.length := by omega
  have htr := (ev_tr.1 (show x ∈ evF s by rw [hev]; exact List.mem_cons_self)).1
  have hxl : x.2.2.1.length <= 1000000 := by rw [Akq htr.t]; omega
  subst hdae
  replace htr : Aqk _ := htr
  clear hev hfe htv hrow hdext
  (refine @unH _ (zU y5_178 ?_); (try clear hK K); intro K hK hc)
  refine Bk6 (fun e => e 3 = .pointer (some ⟨tb, 0, none⟩) /\ e 4 = .pointer (some ⟨sb, 0, none⟩) /\ e 8 = .slice (some ⟨db, dof, none⟩) rows.length lc /\ e 11 = .int .i64 (x.1 : Nat) /\ e 12 = .int .i64 (x.2.1 : Nat) /\ e 13 = .slice fa x.2.2.1.length fc /\ e 14 = .int .i64 0) ⟨rfl, rfl, rfl, rfl, rfl, rfl, rfl⟩ ?_
  rintro e ⟨e3, e4, e8, e11, e12, e13, e14⟩
  have hq : ∀ o, Hp.cell H7 ⟨db, o, none⟩ = dcl[o]? := fun o => cell_of hdb
  have hLi := Bql (.wg Tryz.prog) H7 _ _ _ _ hfw htv7 hxl hxl
  rw [decide_eq_true rfl] at hLi
  replace hLi : Aqk _ := hLi
  refine wpX_rz 27 (by rfl) ?_
  intro K hK ops hOz
  (iterate 25 (refine @unH _ ?_; refine zR y5_178 ?_))
  refine (show FnX _ _ _ _ _ _ from hLi).runs.mono ?_
  rintro _ HQ ⟨rfl, hHQ⟩
  rw [hHQ]
  clear hHQ HQ hLi
  simp -implicitDefEqProofs (disch := omega) only [Azs, Aq3, Aqm]
  (iterate 2 (refine @unH _ ?_; refine zR y5_178 ?_))
  (refine RZ_nil ?_; refine hK _ _ ?_; clear hK K; (try simp only [nq, ↓reduceIte, Nat.reduceEqDiff]))
  have hget : ∀ (k : Nat) (y : EvT), (evF s)[k]? = some y -> ∃ cv, dcl[dof + k * 4]? = some (Value.int .i64 (y.1 : Nat)) /\ dcl[dof + k * 4 + 1]? = some (Value.int .i64 (y.2.1 : Nat)) /\ dcl[dof + k * 4 + 3]? = some cv /\ SlI H7 cv y.2.2.2 := fun k y hy => by
   obtain ⟨tv', cv', h1, -, h2⟩ := (show EvR H4 rows (evF s) from sL).2 k y hy
   obtain ⟨db', dof', dp', dcl', dfr', hdae', hdb', hdsz', -, hdext'⟩ := SlG.get ((RowG.slG (by decide) (show RowG _ _ H4 _ rows from rL)).le l47) (i := k) h1
   simp only [Option.some.injEq, Addr.mk.injEq, and_true] at hdae'
   obtain ⟨rfl, rfl⟩ := hdae'
   rw [hdb] at hdb'
   simp only [Option.some.injEq, Prod.mk.injEq, Obj.cells.injEq, true_and] at hdb'
   obtain ⟨-, rfl, -⟩ := hdb'
   exact ⟨cv', Bzb (k := 0) hdext' hdsz' rfl, Bzb (k := 1) hdext' hdsz' rfl, Bzb (k := 3) hdext' hdsz' rfl, h2.le l47⟩
  replace hget : Aqk _ := hget
  have hs7 := hs4.le l47
  have hT7 := hT4.le l47
  clear e11 e12 e13 e14 hfw htv7 q0 q1 q2 hq hdsz hxl hr1 hr0 sL rL hs4 hT4 l47
  (refine @unH _ (zA y5_178 ?_); (try clear hK K); intro K hK hc)
  clear hOz
  refine Axc (fun w a' H' => ∃ e v xs, ∃ i : Nat, w = s.hampers.length - i /\ i <= s.hampers.length /\ a' = act 298 e [] /\ e 3 = .pointer (some ⟨tb, 0, none⟩) /\ e 4 = .pointer (some ⟨sb, 0, none⟩) /\ e 8 = .slice (some ⟨db, dof, none⟩) rows.length lc /\ e 15 = v /\ e 16 = .int .i64 (i : Nat) /\ Aqk (RowX none H7 H' v 3 (ints xs)) /\ Aqk (AscOf (fun i => ∃ b ts, Tr s i b ts) i xs)) (n := s.hampers.length) ?_ ?_
  ·exact ⟨_, _, [], 0, by omega, by omega, rfl, e3, e4, e8, rfl, rfl, RowX.nil, AscOf.nil _⟩
  clear e3 e4 e8 e
  rintro w a' H8 ⟨e, v, xs, i, rfl, hi, rfl, e3, e4, e8, e15, e16, hv, hxs⟩
  have l78 := (show RowX none H7 H8 v _ _ from hv).1.toLe
  have vsb8 := l78 _ _ vsb7
  by_cases hli : i < s.hampers.length
  ·have hli' : (i : Int) < s.hampers.length := by omega
   (refine @unH _ (zA y5_178 ?_); (try clear hK K); intro K hK hc)
   refine (Bxc _ H8 1 0).runs.mono ?_
   rintro _ H9 ⟨rfl, l89⟩
   (refine @unH _ (zU y5_178 ?_); intro _ _ hc)
   (intro wb hwb; generalize hG : Hp.set _ wb _ = H10; have lH10 := Aqc hG hwb; have vwb := Aqb hG; clear hG)
   have hwb8 := Hp.le_none l89 hwb
   have l810 := Hp.le_trans l89 lH10
   clear hwb lH10 l89 vsb8
   (refine @unH _ (zU y5_178 ?_); (try clear hK K); intro K hK hc)
   refine Axc (fun w a' H' => ∃ e, ∃ b : Int × Int, ∃ k : Nat, w = rows.length - k /\ k <= rows.length /\ a' = act 298 e [] /\ e 3 = .pointer (some ⟨tb, 0, none⟩) /\ e 4 = .pointer (some ⟨sb, 0, none⟩) /\ e 8 = .slice (some ⟨db, dof, none⟩) rows.length lc /\ e 15 = v /\ e 16 = .int .i64 (i : Nat) /\ e 17 = .pointer (some ⟨wb, 0, none⟩) /\ e 18 = .int .i64 (k : Nat) /\ H8.le H' /\ H' wb = some (true, .cells #[.int .i64 b.1, .int .i64 b.2] 34 (0, 0)) /\ Aqk (WidOf (fun x => ∃ j y, j < k /\ (evF s)[j]? = some y /\ y.1 = i /\ x = (y.2.1 : Int)) b)) (n := rows.length) ?_ ?_
   ·exact ⟨_, (1, 0), 0, by omega, by omega, rfl, e3, e4, e8, e15, e16, rfl, rfl, l810, vwb, WidOf.nil fun x ⟨j, y, hj, _⟩ => absurd hj (Nat.not_lt_zero j)⟩
   clear e3 e4 e8 e15 e16 e l810 vwb H10
   rintro w a' H10 ⟨e, b, k, rfl, hk, rfl, e3, e4, e8, e15, e16, e17, e18, l810, vwb, hwd⟩
   have hdb10 := l810 _ _ (l78 _ _ hdb)
   by_cases hlk : k < rows.length
   ·have hlk' : (k : Int) < rows.length := by omega
    obtain ⟨y, hy⟩ : ∃ y, (evF s)[k]? = some y := ⟨_, List.getElem?_eq_getElem (by rw [<- (show rows.length = _ from hrlen)]; exact hlk)⟩
    obtain ⟨cv, q0, q1, -, -⟩ := (show ∀ (k : Nat) (y : EvT), _ from hget) k y hy
    have hq : ∀ o, Hp.cell H10 ⟨db, o, none⟩ = dcl[o]? := fun o => cell_of hdb10
    replace hy : Aqk _ := hy
    by_cases hyi : ((y.1 : Nat) : Int) = (i : Nat)
    ·have hwd' := wid_yes (P := fun y => y.1 = i) (g := fun y => (y.2.1 : Int)) (show (evF s)[k]? = some y from hy) (show y.1 = i by omega) hwd
     have hWi := wider_spec (.wg Tryz.prog) H10 b (y.2.1 : Nat)
     replace hwd' : Aqk _ := hwd'
     replace hWi : Aqk _ := hWi
     simp only at hwd'
     generalize widF b ((y.2.1 : Nat) : Int) = b2 at *
     clear hwd
     (refine @unH _ (zA y5_178 ?_); (try clear hK K); intro K hK hc)
     refine Axn (fun HX => HX = H10) [6, 7] (.take 0 (.free 1 (.free 2 (.free 3 (.free 4 (.take 5 (.one 6 (.one 7 .nil)))))))) (by kernel_rfl) (by kernel_rfl) (by decide) (by kernel_rfl) ?_; intro K hK
     refine Ax5 fun ops hOz => ?_
     (refine @unH _ ?_; refine zL y5_178 ?_)
     (iterate 4 (refine @unH _ ?_; refine zF y5_178 ?_))
     (refine @unH _ ?_; refine zL (aN y5_178 @exists_eq_left'.{1}) ?_)
     (refine @unH _ ?_; refine zM y5_178 ?_)
     refine (show FnX _ _ _ _ _ _ from hWi).runs.mono ?_
     rintro _ H11 ⟨rfl, l1011⟩
     have vwb11 := l1011 _ _ vwb
     simp -implicitDefEqProofs (disch := omega) only [Azs, Aq3, Aqm]
     refine ⟨.inl (by decide), ?_⟩
     (refine @unH _ ?_; refine zM y5_178 ?_)
     refine ⟨.inl (by decide), ?_⟩
     (refine Aja (hK _ _ ?_); clear hK K; (try simp only [nq, ↓reduceIte, Nat.reduceEqDiff]))
     have l812 : H8.le (H11.set wb (.cells #[.int .i64 b2.1, .int .i64 b2.2] 34 (0, 0))) := Az8 (Hp.le_trans l810 l1011) hwb8
     (refine @unH _ (zA y5_178 ?_); (try clear hK K); intro K hK hc)
     exact ⟨rows.length - (k + 1), by omega, _, b2, k + 1, rfl, by omega, rfl, e3, e4, e8, e15, e16, e17, rfl, l812, Axf, hwd'⟩
    ·have hwd' := wid_no (P := fun y => y.1 = i) (g := fun y => (y.2.1 : Int)) (show (evF s)[k]? = some y from hy) (show ¬ y.1 = i by omega) hwd
     replace hwd' : Aqk _ := hwd'
     (refine @unH _ (zA y5_178 ?_); (try clear hK K); intro K hK hc)
     exact ⟨rows.length - (k + 1), by omega, _, b, k + 1, rfl, by omega, rfl, e3, e4, e8, e15, e16, e17, rfl, l810, vwb, hwd'⟩
   ·obtain rfl : k = rows.length := by omega
    have hw2 := since_wid ok hli (wid_end hrlen hwd)
    have hSi := Cxp H10 s _ _ _ (hs7.le (Hp.le_trans l78 l810)) ok (i : Nat)
    have vsb10 := l810 _ _ (l78 _ _ vsb7)
    obtain ⟨va, vc, rfl⟩ := RowX.len hv
    rw [Aqz] at *
    clear hwd
    rcases hw2 with ⟨rfl, hsi, hno⟩ | ⟨hle, hsi, hyes⟩
    ·rw [hsi] at hSi
     replace hSi : Aqk _ := hSi
     replace hno : Aqk _ := hno
     clear hsi
     (refine @unH _ (zA y5_178 ?_); (try clear hK K); intro K hK hc)
     refine (show FnX _ _ _ _ _ _ from hSi).runs.mono ?_
     rintro _ H11 ⟨rfl, l1011⟩
     have vwb11 := l1011 _ _ vwb
     (refine @unH _ (zU y5_178 ?_); intro _ _ hc)
     (intro gb hgb; generalize hG : Hp.set _ gb _ = H12; have lH12 := Aqc hG hgb; have vgb := Aqb hG; clear hG)
     have vwb12 := lH12 _ _ vwb11
     have l812 := Hp.le_trans l810 (Hp.le_trans l1011 lH12)
     clear hSi vwb11 l1011 lH12
     (refine @unH _ (zU y5_178 ?_); (try clear hK K); intro K hK hc)
     exact ⟨s.hampers.length - (i + 1), by omega, _, _, xs, i + 1, rfl, by omega, rfl, e3, e4, e8, e15, rfl, RowX.le hv l812, AscOf.no hxs hno⟩
    ·rw [hsi] at hSi
     replace hSi : Aqk _ := hSi
     replace hyes : Aqk _ := hyes
     clear hsi
     obtain ⟨b1, b2⟩ := b
     simp only at hle
     have hle' : ¬ b2 < b1 := by omega
     (refine @unH _ (zA y5_178 ?_); (try clear hK K); intro K hK hc)
     refine (show FnX _ _ _ _ _ _ from hSi).runs.mono ?_
     rintro _ H11 ⟨rfl, l1011⟩
     have vwb11 := l1011 _ _ vwb
     (refine @unH _ (zU y5_178 ?_); intro _ _ hc)
     (intro gb hgb; generalize hG : Hp.set _ gb _ = H12; have lH12 := Aqc hG hgb; have vgb := Aqb hG; clear hG)
     have vwb12 := lH12 _ _ vwb11
     have l811 := Hp.le_trans l810 l1011
     have l812 := Hp.le_trans l811 lH12
     have hgb8 := Hp.le_none l811 hgb
     clear hSi vwb11 l1011 lH12 l811
     (refine @unH _ (zU y5_178 ?_); (try clear hK K); intro K hK hc)
     have hrv : ∀ b, rowB (.slice va xs.length vc) = some b -> H8 b ≠ none := fun b hb hn => by
      obtain ⟨c, h⟩ := OwnR.at (ownR_of (show RowX none H7 H8 _ _ _ from hv)) hb
      rw [hn] at h
      cases h
     have hxl : xs.length <= 1000000 := by have := AscOf.len hxs; omega
     have hv12 := RowX.le (show RowX none H7 H8 _ _ _ from hv) l812
     intro g hg
     (refine @unH _ (zU y5_178 ?_); intro _ _ hc)
     refine append_iS hv12 hg hxl _ _ _ _ (fun v2 H13 hv2 hk2 hn2 => ?_)
     have vwb13 := hk2 _ _ vwb12 fun e => hrv _ e hwb8
     have vgb13 := hk2 _ _ vgb fun e => hrv _ e hgb8
     clear hv12 hk2 hn2 hrv vwb12 vgb hg l812 hgb8 vwb hgb vsb10 hdb10 hle
     obtain ⟨v2a, v2c, rfl⟩ := hv2.len
     (refine @unH _ (zU (aN y5_178 (aN @Aq2 @sbBandS)) ?_); (try clear hK K); intro K hK hc)
     exact ⟨s.hampers.length - (i + 1), by omega, _, _, _, i + 1, rfl, by omega, rfl, e3, e4, e8, rfl, rfl, hv2, AscOf.yes hxs hyes⟩
  ·obtain rfl : i = s.hampers.length := by omega
   obtain rfl := asc_suspects ok hxs
   have hs8 := hs7.le l78
   have hT8 := hT7.le l78
   have hdb8 := l78 _ _ hdb
   obtain ⟨va, vc, rfl⟩ := RowX.len hv
   have hvI : SlI H8 _ _ := RowX.ints hv
   rw [Aqz] at *
   (refine @unH _ (zA y5_178 ?_); (try clear hK K); intro K hK hc)
   refine (Bj7 _ H8 tb 179 12 (by omega) hT8).runs.mono ?_
   rintro _ H9 ⟨at_, at0, at1, rfl, x9, hT9⟩
   have ha12 : at_ <= 12 := by omega
   have vsb9 := x9.keeps vsb8 hsn
   have hs9 := hs8.lexT hT8 x9
   have hdb9 := x9.keeps hdb8 (hT8.off hdb8 (by decide))
   have hvI9 : SlI H9 _ _ := hvI.lex x9 hT8
   have hgc : ∀ (k : Nat) (y : EvT), (evF s)[k]? = some y -> ∃ cv, dcl[dof + k * 4 + 3]? = some cv /\ SlI H9 cv y.2.2.2 := fun k y hy => by
    obtain ⟨cv, -, -, h1, h2⟩ := (show ∀ (k : Nat) (y : EvT), _ from hget) k y hy
    exact ⟨cv, h1, (h2.le l78).lex x9 hT8⟩
   have hol : (Bq8 (Cka (susp s))).length <= 1000000 := by have := AscOf.len (show AscOf _ _ _ from hxs); omega
   replace hgc : Aqk _ := hgc
   generalize hsus : Bq8 (Cka (susp s)) = sus at *
   replace hsus : Aqk _ := hsus
   clear hget hs7 hs8 hT7 hT8 hT9 hdb8 hvI hv hxs vsb8 vsb7 hdb x9 hsn at1 l78 e16 hi hli
   (refine @unH _ (zU y5_178 ?_); (try clear hK K); intro K hK hc)
   refine Axc (fun w a' H' => ∃ e v ys, ∃ p : Nat, w = s.places.toNat - p /\ p <= s.places.toNat /\ a' = act 298 e [] /\ e 4 = .pointer (some ⟨sb, 0, none⟩) /\ e 8 = .slice (some ⟨db, dof, none⟩) rows.length lc /\ e 15 = .slice va sus.length vc /\ e 21 = .int .i64 at_ /\ e 22 = v /\ e 23 = .int .i64 (p : Nat) /\ Aqk (RowX none H9 H' v 3 (ints ys)) /\ Aqk (AscOf (fun p => Av1 (arrL (susp s) (p : Nat)) at_ = 1) p ys)) (n := s.places.toNat) ?_ ?_
   ·exact ⟨_, _, [], 0, by omega, by omega, rfl, e4, e8, e15, rfl, rfl, rfl, RowX.nil, AscOf.nil _⟩
   clear e3 e4 e8 e15 e
   rintro w a' H10 ⟨e, v, ys, p, rfl, hp, rfl, e4, e8, e15, e21, e22, e23, hv, hys⟩
   have l910 := (show RowX none H9 H10 v _ _ from hv).1.toLe
   have vsb10 := l910 _ _ vsb9
   by_cases hlp : p < s.places.toNat
   ·have hlp' : (p : Int) < s.places := by omega
    (refine @unH _ (zA y5_178 ?_); (try clear hK K); intro K hK hc)
    refine (Bxc _ H10 1 0).runs.mono ?_
    rintro _ H11 ⟨rfl, l1011⟩
    (refine @unH _ (zU y5_178 ?_); intro _ _ hc)
    (intro wb hwb; generalize hG : Hp.set _ wb _ = H12; have lH12 := Aqc hG hwb; have vwb := Aqb hG; clear hG)
    have hwb10 := Hp.le_none l1011 hwb
    have l1012 := Hp.le_trans l1011 lH12
    clear hwb lH12 l1011 vsb10
    (refine @unH _ (zU y5_178 ?_); (try clear hK K); intro K hK hc)
    refine Axc (fun w a' H' => ∃ e, ∃ b : Int × Int, ∃ k : Nat, w = rows.length - k /\ k <= rows.length /\ a' = act 298 e [] /\ e 4 = .pointer (some ⟨sb, 0, none⟩) /\ e 8 = .slice (some ⟨db, dof, none⟩) rows.length lc /\ e 15 = .slice va sus.length vc /\ e 21 = .int .i64 at_ /\ e 22 = v /\ e 23 = .int .i64 (p : Nat) /\ e 24 = .pointer (some ⟨wb, 0, none⟩) /\ e 25 = .int .i64 (someN s (p : Nat) at_ k : Nat) /\ e 26 = .int .i64 (k : Nat) /\ H10.le H' /\ H' wb = some (true, .cells #[.int .i64 b.1, .int .i64 b.2] 34 (0, 0)) /\ Aqk (WidOf (fun x => ∃ j z, j < k /\ (evF s)[j]? = some z /\ gI z.2.2.2 (p : Nat) < 1000 /\ x = gI z.2.2.2 (p : Nat)) b)) (n := rows.length) ?_ ?_
    ·exact ⟨_, (1, 0), 0, by omega, by omega, rfl, e4, e8, e15, e21, e22, e23, rfl, rfl, rfl, l1012, vwb, WidOf.nil fun x ⟨j, y, hj, _⟩ => absurd hj (Nat.not_lt_zero j)⟩
    clear e4 e8 e15 e21 e22 e23 e l1012 vwb H12
    rintro w a' H12 ⟨e, b, k, rfl, hk, rfl, e4, e8, e15, e21, e22, e23, e24, e25, e26, l1012, vwb, hwd⟩
    by_cases hlk : k < rows.length
    ·have hlk' : (k : Int) < rows.length := by omega
     obtain ⟨y, hy⟩ : ∃ y, (evF s)[k]? = some y := ⟨_, List.getElem?_eq_getElem (by rw [<- (show rows.length = _ from hrlen)]; exact hlk)⟩
     obtain ⟨cv, q3, hcv⟩ := (show ∀ (k : Nat) (y : EvT), _ from hgc) k y hy
     have hlc : y.2.2.2.length = s.places.toNat := by rw [(ev_tr.1 (List.mem_of_getElem? hy)).2, Bzt]
     have hgx : y.2.2.2[p]? = some (gI y.2.2.2 (p : Nat)) := by
      have := Awg (c := y.2.2.2) (p := (p : Int)) (by omega) (by rw [hlc]; omega)
      rw [Int.toNat_natCast] at this
      exact this
     obtain ⟨cb, co, ccap, cp, ccl, cfr, rfl, -, hcb, hccell⟩ := hcv.cons (fun e => by rw [e] at hgx; simp at hgx)
     have hcg := hccell _ _ hgx
     have hpl : (p : Int) < y.2.2.2.length := by omega
     have hcb10 := l910 _ _ hcb
     have hdb12 := l1012 _ _ (l910 _ _ hdb9)
     have hcb12 := l1012 _ _ hcb10
     have hwy := fun h => wid_yes (P := fun y => gI y.2.2.2 (p : Nat) < 1000) (g := fun y => gI y.2.2.2 (p : Nat)) hy h hwd
     have hwn := fun h => wid_no (P := fun y => gI y.2.2.2 (p : Nat) < 1000) (g := fun y => gI y.2.2.2 (p : Nat)) hy h hwd
     have hsn := someN_succ (p := (p : Nat)) (a := at_) hy
     have hsl := someN_le s (p : Nat) at_ k
     have hq : ∀ o, Hp.cell H12 ⟨db, o, none⟩ = dcl[o]? := fun o => cell_of hdb12
     have hq' : ∀ o, Hp.cell H12 ⟨cb, o, none⟩ = ccl[o]? := fun o => cell_of hcb12
     generalize gI y.2.2.2 (p : Nat) = g at *
     generalize hcn : y.2.2.2.length = cn at *
     generalize hs0 : someN s (p : Nat) at_ k = sn at *
     replace hwy : Aqk _ := hwy
     replace hwn : Aqk _ := hwn
     replace hsn : Aqk _ := hsn
     replace hcn : Aqk _ := hcn
     replace hs0 : Aqk _ := hs0
     clear hwd hy hcv hlc hgx hccell hcb
     by_cases hg : g < 1000
     ·have hwd' := (show g < 1000 -> _ from hwy) hg
      have hWi := wider_spec (.wg Tryz.prog) H12 b g
      replace hwd' : Aqk _ := hwd'
      replace hWi : Aqk _ := hWi
      generalize widF b g = b2 at *
      clear hwy hwn
      (refine @unH _ (zA y5_178 ?_); (try clear hK K); intro K hK hc)
      refine Axn (fun HX => HX = H12) [9, 10] (.take 0 (.free 1 (.free 2 (.free 3 (.free 4 (.take 5 (.free 6 (.free 7 (.take 8 (.one 9 (.one 10 .nil))))))))))) (by kernel_rfl) (by kernel_rfl) (by decide) (by kernel_rfl) ?_; intro K hK
      refine Ax5 fun ops hOz => ?_
      (refine @unH _ ?_; refine zL y5_178 ?_)
      (iterate 4 (refine @unH _ ?_; refine zF y5_178 ?_))
      (refine @unH _ ?_; refine zL (aN y5_178 @exists_eq_left'.{1}) ?_)
      (iterate 2 (refine @unH _ ?_; refine zF y5_178 ?_))
      (refine @unH _ ?_; refine zL (aN y5_178 @exists_eq_left'.{1}) ?_)
      (refine @unH _ ?_; refine zM y5_178 ?_)
      refine (show FnX _ _ _ _ _ _ from hWi).runs.mono ?_
      rintro _ H13 ⟨rfl, l1213⟩
      have vwb13 := l1213 _ _ vwb
      simp -implicitDefEqProofs (disch := omega) only [Azs, Aq3, Aqm]
      refine ⟨.inl (by decide), ?_⟩
      (refine @unH _ ?_; refine zM y5_178 ?_)
      refine ⟨.inl (by decide), ?_⟩
      (refine Aja (hK _ _ ?_); clear hK K; (try simp only [nq, ↓reduceIte, Nat.reduceEqDiff]))
      have l1014 : H10.le (H13.set wb (.cells #[.int .i64 b2.1, .int .i64 b2.2] 34 (0, 0))) := Az8 (Hp.le_trans l1012 l1213) hwb10
      have vwb14 : (H13.set wb (.cells #[.int .i64 b2.1, .int .i64 b2.2] 34 (0, 0))) wb = _ := Axf
      generalize H13.set wb (.cells #[.int .i64 b2.1, .int .i64 b2.2] 34 (0, 0)) = H14 at *
      have hdb14 := l1014 _ _ (l910 _ _ hdb9)
      have hcb14 := l1014 _ _ hcb10
      have hq14 : ∀ o, Hp.cell H14 ⟨db, o, none⟩ = dcl[o]? := fun o => cell_of hdb14
      have hq14' : ∀ o, Hp.cell H14 ⟨cb, o, none⟩ = ccl[o]? := fun o => cell_of hcb14
      clear hq hq' hdb12 hcb12 vwb13 hcb10 hWi hOz l1213 vwb
      by_cases hga : g <= at_
      ·have hsn' : someN s (p : Nat) at_ (k + 1) = sn + 1 := by rw [show someN s (p : Nat) at_ (k + 1) = _ from hsn, if_pos hga]
       replace hsn' : Aqk _ := hsn'
       (refine @unH _ (zA y5_178 ?_); (try clear hK K); intro K hK hc)
       exact ⟨rows.length - (k + 1), by omega, _, b2, k + 1, rfl, by omega, rfl, e4, e8, e15, e21, e22, e23, e24, by rw [show someN s (p : Nat) at_ (k + 1) = sn + 1 from hsn']; rfl, rfl, l1014, vwb14, hwd'⟩
      ·have hsn' : someN s (p : Nat) at_ (k + 1) = sn := by rw [show someN s (p : Nat) at_ (k + 1) = _ from hsn, if_neg hga]
       replace hsn' : Aqk _ := hsn'
       (refine @unH _ (zA y5_178 ?_); (try clear hK K); intro K hK hc)
       exact ⟨rows.length - (k + 1), by omega, _, b2, k + 1, rfl, by omega, rfl, e4, e8, e15, e21, e22, e23, e24, by rw [show someN s (p : Nat) at_ (k + 1) = sn from hsn']; exact e25, rfl, l1014, vwb14, hwd'⟩
     ·have hwd' := (show ¬ g < 1000 -> _ from hwn) hg
      have hga : ¬ g <= at_ := by omega
      have hsn' : someN s (p : Nat) at_ (k + 1) = sn := by rw [show someN s (p : Nat) at_ (k + 1) = _ from hsn, if_neg hga]
      replace hwd' : Aqk _ := hwd'
      replace hsn' : Aqk _ := hsn'
      clear hwy hwn
      (refine @unH _ (zA y5_178 ?_); (try clear hK K); intro K hK hc)
      exact ⟨rows.length - (k + 1), by omega, _, b, k + 1, rfl, by omega, rfl, e4, e8, e15, e21, e22, e23, e24, by rw [show someN s (p : Nat) at_ (k + 1) = sn from hsn']; exact e25, rfl, l1012, vwb, hwd'⟩
    ·obtain rfl : k = rows.length := by omega
     have hcw := comes_wid ok (p := (p : Nat)) (by omega) hlp' (show Tr s _ _ _ from htr) (wid_end (P := fun y => gI y.2.2.2 (p : Nat) < 1000) (g := fun y => gI y.2.2.2 (p : Nat)) hrlen hwd)
     obtain ⟨hvd, hvA⟩ := verd_due ok (p := (p : Nat)) (by omega) hlp' at0 ha12 (show Tr s _ _ _ from htr)
     rw [<- show rows.length = (evF s).length from hrlen] at hvd hvA
     have hb0 := Dzr ok (show Tr s _ _ _ from htr) (p := (p : Nat)) (by omega) hlp' at0 ha12
     have hCo := Cxj H12 s _ _ _ (hs9.le (Hp.le_trans l910 l1012)) ok (p : Nat)
     have hVe := fun H (l : H9.le H) => Bv6 H s _ _ _ (hs9.le l) ok (p : Nat) at_
     rw [hvd, hb0] at hVe
     have vsb12 := l1012 _ _ (l910 _ _ vsb9)
     have hrn : 0 < rows.length := by
      have h := (show Tr s _ _ _ from htr).ev
      rw [show rows.length = (evF s).length from hrlen]
      exact List.length_pos_of_mem h
     have hsl := someN_le s (p : Nat) at_ rows.length
     generalize someN s (p : Nat) at_ rows.length = sn at *
     obtain ⟨va2, vc2, rfl⟩ := RowX.len hv
     rw [Aqz] at *
     replace hvA : Aqk _ := hvA
     replace hVe : Aqk _ := hVe
     replace hrn : Aqk _ := hrn
     replace hsl : Aqk _ := hsl
     generalize comE s (p : Nat) = C at *
     obtain ⟨c1, c2, ce⟩ := C
     simp only at hCo
     replace hcw : Aqk _ := hcw
     replace hCo : Aqk _ := hCo
     obtain ⟨b1, b2⟩ := b
     simp only at vwb
     clear hwd hvd hb0
     (refine @unH _ (zA y5_178 ?_); (try clear hK K); intro K hK hc)
     refine (show FnX _ _ _ _ _ _ from hCo).runs.mono ?_
     rintro _ H13 ⟨rfl, l1213⟩
     have vwb13 := l1213 _ _ vwb
     (refine @unH _ (zU y5_178 ?_); intro _ _ hc)
     (intro gb hgb; generalize hG : Hp.set _ gb _ = H14; have lH14 := Aqc hG hgb; have vgb := Aqb hG; clear hG)
     have vwb14 := lH14 _ _ vwb13
     have l1013 := Hp.le_trans l1012 l1213
     have l1014 := Hp.le_trans l1013 lH14
     have l1214 := Hp.le_trans l1213 lH14
     have vsb14 := l1214 _ _ vsb12
     have hgb10 := Hp.le_none l1013 hgb
     clear hCo vwb13 l1213 lH14 l1013 vwb l1012 vsb12 hgb
     (refine @unH _ (zV y5_178 ?_); (try clear hK K); intro K hK hc)
     refine Bk6 (fun e => e 4 = .pointer (some ⟨sb, 0, none⟩) /\ e 8 = .slice (some ⟨db, dof, none⟩) rows.length lc /\ e 15 = .slice va sus.length vc /\ e 21 = .int .i64 at_ /\ e 22 = .slice va2 ys.length vc2 /\ e 23 = .int .i64 (p : Nat) /\ e 24 = .pointer (some ⟨wb, 0, none⟩) /\ e 25 = .int .i64 (sn : Nat) /\ e 27 = .pointer (some ⟨gb, 0, none⟩) /\ e 28 = .int .i64 ce) ⟨e4, e8, e15, e21, e22, e23, e24, e25, rfl, rfl⟩ ?_
     clear e4 e8 e15 e21 e22 e23 e24 e25 e26 e
     rintro e ⟨e4, e8, e15, e21, e22, e23, e24, e25, e27, e28⟩
     refine Av3 (fun a' H' => ∃ e, a' = act 298 e [] /\ e 4 = .pointer (some ⟨sb, 0, none⟩) /\ e 8 = .slice (some ⟨db, dof, none⟩) rows.length lc /\ e 15 = .slice va sus.length vc /\ e 21 = .int .i64 at_ /\ e 22 = .slice va2 ys.length vc2 /\ e 23 = .int .i64 (p : Nat) /\ e 25 = .int .i64 (sn : Nat) /\ H' = H14) ?_ ?_
     ·rcases (show _ ∨ _ from hcw) with ⟨hb, hce⟩ | ⟨hle, hce⟩
      ·cases hb
       cases hce
       refine Axp (wpX_rz 25 (by rfl) ?_)
       intro K hK ops hOz
       (iterate 25 (refine @unH _ ?_; refine zR y5_178 ?_))
       (refine RZ_nil ?_; refine hK _ _ ?_; clear hK K; (try simp only [nq, ↓reduceIte, Nat.reduceEqDiff]))
       (refine @unH _ (zA y5_178 ?_); (try clear hK K); intro K hK hc)
       exact ⟨_, rfl, e4, e8, e15, e21, e22, e23, e25, trivial⟩
      ·cases hce
       simp only at hle
       have hle' : ¬ b2 < b1 := by omega
       refine Axp (wpX_rz 25 (by rfl) ?_)
       intro K hK ops hOz
       (iterate 25 (refine @unH _ ?_; refine zR (aN y5_178 (aN @Aq2 @sbBandS)) ?_))
       (refine RZ_nil ?_; refine hK _ _ ?_; clear hK K; (try simp only [nq, ↓reduceIte, Nat.reduceEqDiff]))
       (refine @unH _ (zA y5_178 ?_); (try clear hK K); intro K hK hc)
       exact ⟨_, rfl, e4, e8, e15, e21, e22, e23, e25, trivial⟩
     clear e4 e8 e15 e21 e22 e23 e24 e25 e27 e28 e hcw
     rintro _ H' ⟨e, rfl, e4, e8, e15, e21, e22, e23, e25, hHQ⟩
     rw [hHQ]
     clear hHQ H' vwb14 vgb
     have hrn' := (show 0 < rows.length from hrn)
     have hsl' := (show sn <= rows.length from hsl)
     by_cases hn0 : sn = 0
     ·have hV := (show ∀ H, H9.le H -> FnX _ _ _ _ _ _ from hVe) H14 (Hp.le_trans l910 l1014)
      rw [show dueF sn rows.length = 2 by unfold dueF; rw [if_pos hn0]] at hV
      have hno : ¬ Av1 (arrL (susp s) (p : Nat)) at_ = 1 := fun h => by have := (show _ ↔ _ from hvA).1 h; omega
      have hn0' : (sn : Int) = 0 := by omega
      replace hV : Aqk _ := hV
      replace hno : Aqk _ := hno
      clear hVe hvA
      (refine @unH _ (zA y5_178 ?_); (try clear hK K); intro K hK hc)
      refine (show FnX _ _ _ _ _ _ from hV).runs.mono ?_
      rintro _ H15 ⟨rfl, l15⟩
      (refine @unH _ (zU y5_178 ?_); (try clear hK K); intro K hK hc)
      exact ⟨s.places.toNat - (p + 1), by omega, _, _, ys, p + 1, rfl, by omega, rfl, e4, e8, e15, e21, e22, rfl, RowX.le hv (Hp.le_trans l1014 l15), AscOf.no hys hno⟩
     ·have hn0' : ¬ (sn : Int) = 0 := by omega
      by_cases hnl : sn = rows.length
      ·have hVe2 := (show ∀ H, H9.le H -> FnX _ _ _ _ _ _ from hVe)
       rw [show dueF sn rows.length = 1 by unfold dueF; rw [if_neg hn0, if_pos hnl]] at hVe2
       have hyes := (show _ ↔ _ from hvA).2 hnl
       have hnl' : (sn : Int) = rows.length := by omega
       replace hVe2 : Aqk _ := hVe2
       replace hyes : Aqk _ := hyes
       have hyl : ys.length <= 1000000 := by have := AscOf.len hys; omega
       have hv14 := RowX.le (show RowX none H9 H10 _ _ _ from hv) l1014
       clear hVe hvA hnl hn0
       (refine @unH _ (zA y5_178 ?_); (try clear hK K); intro K hK hc)
       intro g hg
       (refine @unH _ (zU y5_178 ?_); intro _ _ hc)
       refine append_iS hv14 hg hyl _ _ _ _ (fun v2 H15 hv2 hk2 hn2 => ?_)
       have l915 := hv2.1.toLe
       have vsb15 := l915 _ _ vsb9
       have hV := (show ∀ H, H9.le H -> FnX _ _ _ _ _ _ from hVe2) H15 l915
       replace hV : Aqk _ := hV
       obtain ⟨v2a, v2c, rfl⟩ := hv2.len
       clear hVe2 hv14 hk2 hn2 hg vsb14 l1014 l1214
       (refine @unH _ (zU y5_178 ?_); (try clear hK K); intro K hK hc)
       refine (show FnX _ _ _ _ _ _ from hV).runs.mono ?_
       rintro _ H16 ⟨rfl, l16⟩
       (refine @unH _ (zU y5_178 ?_); (try clear hK K); intro K hK hc)
       exact ⟨s.places.toNat - (p + 1), by omega, _, _, _, p + 1, rfl, by omega, rfl, e4, e8, e15, e21, rfl, rfl, RowX.le hv2 l16, AscOf.yes hys hyes⟩
      ·have hV := (show ∀ H, H9.le H -> FnX _ _ _ _ _ _ from hVe) H14 (Hp.le_trans l910 l1014)
       rw [show dueF sn rows.length = 3 by unfold dueF; rw [if_neg hn0, if_neg hnl]] at hV
       have hno : ¬ Av1 (arrL (susp s) (p : Nat)) at_ = 1 := fun h => hnl ((show _ ↔ _ from hvA).1 h)
       have hnl' : ¬ (sn : Int) = rows.length := by omega
       replace hV : Aqk _ := hV
       replace hno : Aqk _ := hno
       clear hVe hvA
       (refine @unH _ (zA y5_178 ?_); (try clear hK K); intro K hK hc)
       refine (show FnX _ _ _ _ _ _ from hV).runs.mono ?_
       rintro _ H15 ⟨rfl, l15⟩
       (refine @unH _ (zU y5_178 ?_); (try clear hK K); intro K hK hc)
       exact ⟨s.places.toNat - (p + 1), by omega, _, _, ys, p + 1, rfl, by omega, rfl, e4, e8, e15, e21, e22, rfl, RowX.le hv (Hp.le_trans l1014 l15), AscOf.no hys hno⟩
   ·have hpe : p = s.places.toNat := by omega
    subst hpe
    have hlp' : ¬ ((s.places.toNat : Nat) : Int) < s.places := by omega
    obtain rfl := asc_surely ok (show AscOf _ _ _ from hys)
    have hs10 := hs9.le l910
    have hSu := sSuspects_spec H10 s _ _ _ hs10 ok
    have hSy := fun H (l : H10.le H) => sSurelyN_spec H s _ _ _ (hs10.le l) ok at_
    have hne := (Dxy ok).2 ⟨_, _, _, (show Tr s _ _ _ from htr)⟩
    rw [if_neg hne, if_neg hne, show Bq8 (Cka (susp s)) = sus from hsus] at hSu
    have hb0 := Dz4 ok (show Tr s _ _ _ from htr) (ps := []) (fun p hp => by cases hp) at0 ha12
    rw [hb0, if_pos rfl] at hSy
    obtain ⟨va2, vc2, rfl⟩ := RowX.len hv
    have hvS : SlI H10 _ _ := RowX.ints hv
    have hyl := AscOf.len (show AscOf _ _ _ from hys)
    rw [Aqz] at *
    generalize Bq8 (surM (susp s) at_ s.places.toNat) = sur at *
    replace hSu : Aqk _ := hSu
    replace hSy : Aqk _ := hSy
    clear hys hb0 hv hsus hne
    (refine @unH _ (zA y5_178 ?_); (try clear hK K); intro K hK hc)
    refine (show FnX _ _ _ _ _ _ from hSu).runs.mono ?_
    rintro _ H11 ⟨w1, rfl, hw1, l1011⟩
    have vsb11 := l1011 _ _ vsb10
    obtain ⟨wa1, wc1, rfl, -⟩ := id hw1
    clear hSu
    (refine @unH _ (zU y5_178 ?_); (try clear hK K); intro K hK hc)
    refine ((show ∀ H, H10.le H -> FnX _ _ _ _ _ _ from hSy) H11 l1011).runs.mono ?_
    rintro _ H12 ⟨w2, rfl, hw2, l1112, -⟩
    obtain ⟨wa2, wc2, rfl, -⟩ := id hw2
    have l1012 := Hp.le_trans l1011 l1112
    clear hSy
    (refine @unH _ (zV y5_178 ?_); (try clear hK K); intro K hK hc)
    refine (Bql _ H12 _ _ _ _ (hw1.le l1112) (hvI9.le (Hp.le_trans l910 l1012)) hol hol).runs.mono ?_
    rintro _ HQ ⟨rfl, hHQ⟩
    rw [hHQ, decide_eq_true rfl]
    clear hHQ HQ
    (refine @unH _ (zU y5_178 ?_); intro _ _ hc)
    refine (Bql _ H12 _ _ _ _ hw2 (hvS.le l1012) (by omega) (by omega)).runs.mono ?_
    rintro _ HQ ⟨rfl, hHQ⟩
    rw [hHQ, decide_eq_true rfl]
    clear hHQ HQ
    (refine @unH _ (zU y5_178 ?_); intro _ _ hc)
    refine (smelled_spec H12).runs.mono ?_
    rintro _ H13 ⟨rfl, -⟩
    (refine @unH _ (zU y5_178 ?_); (try clear hK K); intro K hK hc)
    (refine Axs ?_; (try simp only [nq, ↓reduceIte, Nat.reduceEqDiff]); rw [Aq8, Ay2 results5 (by decide)]; simp only [Axh, Nat.reduceEqDiff, ↓reduceIte])
end Go.Proofs.YtnfnaehonkbknaaGreatDoor
end
section
namespace Go.Proofs.YtnfnaehonkbknaaGreatDoor
open Go Go.X Go.ChangeShapes Go.WideShapes Go.RowKit Go.Proofs.Tryz
set_option maxRecDepth 100000 in
theorem law_lifted (os : Os) (started : os.Started) (H : Type) (enc : TypeId × Value -> H) :
  ReturnsInLeavingWide {} Tryz.checked os 5 .any (fun w args => (Rows.smellAllSpec.pre enc Tryz.prog Tryz.f5 [] false w args /\ laidMetH Tryz.prog [("errors.errorType", Rows.laid_errors_errorType)] w) /\ sizedMet enc Tryz.prog Tryz.f5 (OpenSpec.ofChange Rows.smellAllSpec) false w args)
   (Rows.smellAllSpec.post enc Tryz.prog Tryz.f5 false true false false) := by
 refine leaving_of_change_and (C := Tryz.checked) (X := fun w _ => laidMetH Tryz.prog [("errors.errorType", Rows.laid_errors_errorType)] w) (fun _ _ _ hh h => h.of_heap hh) ownK started func5
  (ChangeSpec.witness_at (enc := enc) (C := Tryz.checked) (os := os) (X := fun w _ => laidMetH Tryz.prog [("errors.errorType", Rows.laid_errors_errorType)] w) false (laidWorld os) #[.slice none 0 0] 8 rfl (by kernel_rfl) (by kernel_rfl) (by kernel_rfl) (by kernel_rfl) (by kernel_rfl) (laidWorld_met os _)) ?_
 intro W base args ds gs before hval0 hW hL
 have hval : ∀ (j : Nat) t v, Tryz.f5.params[j]? = some t -> args[j]? = some v -> Value.okWide Tryz.prog W .any base t v := hval0
 have hW' := hW
 obtain ⟨p, q, hA0, hV0, rfl, hfz, hnd⟩ := hW
 have hA : DataW.TrodAll enc Tryz.prog W 0 (fun _ => true) true Tryz.f5.params.toList args.toList ds p := hA0
 have hV : DataW.TrodVars enc Tryz.prog W (fun _ => true) [] gs q := hV0
 rw [params5] at hA hval
 obtain ⟨v0, d0, rfl, rfl, h0⟩ := trodAll_one hA
 obtain ⟨a0, len, cap, rfl⟩ := okWide_slice underlying22 (hval 0 22 v0 rfl rfl)
 have h0k := h0
 obtain ⟨fuel, hf⟩ := h0
 obtain ⟨rfl, rfl⟩ : gs = [] /\ q = [] := by
  cases gs with
  | nil => exact ⟨rfl, hV⟩
  | cons g r => exact absurd hV (by intro h; cases h)
 have e1 : Rows.smellAllSpec.fn H ([d0] ++ []) = { results := [.lit (.bool true)], args := [d0] } := by simp [Rows.smellAllSpec]
 have hcells : ∀ i : Nat, i < len -> ∃ sb so c e fr x, a0 = some ⟨sb, so, none⟩ /\ Bqa W sb = some (false, .cells c e fr) /\ c[so + i]? = some (.int .i64 x) := by
  rcases open_ints underlying22 underlying3 cellsK hf with ⟨hcs, _⟩ | ⟨a, len', cap', zs, hcs, _, hl, hm, hz, hx, hcell, hwz⟩
  ·simp [Value.cells] at hcs
   intro i hi
   omega
  ·simp [Value.cells] at hcs
   obtain ⟨rfl, rfl, rfl⟩ := hcs
   intro i hi
   simp only [if_true] at hz
   have hc := hcell i (by omega)
   obtain ⟨b, off, spot⟩ := a
   have hspot : spot = none := by simpa [Addr.add] using World.cell?_spot (hcell 0 (by omega))
   subst hspot
   rw [add_plain] at hc
   unfold World.cell? at hc
   split at hc
   ·rename_i c e fr hb
    exact ⟨b, off, c, e, fr, _, rfl, by simp [Bqa, hb], by simpa using hc⟩
   ·cases hc
 have hlt : ∀ x ∈ p, x.block < W.heap.size := fun x hx => by simpa using hW'.lt x (by simpa using hx)
 obtain ⟨N, last, o, w', t', r1, r2, r3, v, hv, ⟨rfl, hB⟩, r4⟩ := (lsall_spec (Bqa W) a0 len cap hcells).goodW func5 (results_tmp results5 _) (by kernel_rfl)
 refine ⟨N, last, o, w', t', r1, r2, r3, _, hv, ?_, r4⟩
 have hb := hB.below
 refine ⟨_, _, _, [], p, [], hW', ?_, ?_, ?_, hB.kept _, fun h => by cases h⟩
 ·rw [e1]; exact trodAll_mk1 (shut_bool underlying4 true)
 ·rw [e1]
  have t := trodAll_mk1 (DataW.Trod.of_heap (w := { w' with tape := W.tape }) (w' := w') rfl (Below.trod laidOutK (by kernel_rfl) (of_decide_eq_true (by kernel_rfl)) h0k hb hlt))
  exact t
 ·rw [e1]; rfl
end Go.Proofs.YtnfnaehonkbknaaGreatDoor
end
section
namespace Go.Proofs.YtnfnaehonkbknaaGreatDoor
open Go Go.X Go.ChangeShapes Go.WideShapes Go.RowKit Go.Proofs.Tryz
theorem jEnter : Program.mayEnter Tryz.pinned.checked.prog = true := factEnter
theorem jLift : (Rows.smellAllRow.lifted == Program.liftsFinal Tryz.pinned.checked.prog) = true := by rw [show Program.liftsFinal Tryz.pinned.checked.prog = Rows.smellAllRow.lifted from factLift]; exact beq_self_eq_true _
theorem jMake : (Program.make Tryz.pinned.checked.prog == some Rows.smellAllRow.make) = true := by rw [show Program.make Tryz.pinned.checked.prog = some Rows.smellAllRow.make from factMake]; exact beq_self_eq_true _
set_option maxRecDepth 100000 in
theorem jf : joinedFacts Tryz.pinned.checked.prog 5 Tryz.f5 Rows.smellAllSpec Rows.smellAllRow = true := by
 unfold joinedFacts
 simp only [jEnter, jLift, jMake, Bool.and_true]
 kernel_rfl
set_option maxRecDepth 100000 in
theorem smellAll_said : Rows.SmellAllSaid :=
 OpenClaim.holds_of_wide_leaving 5 Tryz.f5 rfl rfl rfl rfl rfl rfl rfl ⟨rfl, rfl, rfl, rfl, rfl⟩ rfl rfl rfl rfl rfl (by kernel_rfl) func5 jf
  (of_decide_eq_true (by kernel_rfl)) (by unfold Func.isWrapper; rw [if_neg (of_decide_eq_false (by kernel_rfl))]; exact ⟨rfl, rfl⟩)
  (fun os started H enc _ => law_lifted os started H enc)
end Go.Proofs.YtnfnaehonkbknaaGreatDoor
end
