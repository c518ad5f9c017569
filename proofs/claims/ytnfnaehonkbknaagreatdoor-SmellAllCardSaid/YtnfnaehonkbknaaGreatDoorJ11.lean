/- Texts Tin Data Kit Grow Calls Haul Office Maps Days Auto Scope LdO Check. -/
import Derived.Test.YtnfnaehonkbknaaGreatDoorJ10
import Derived.IntWalk
set_option linter.defProp false
set_option linter.unusedSimpArgs false
set_option linter.unusedVariables false
set_option maxRecDepth 100000
set_option maxHeartbeats 2000000
section
namespace Go.Proofs.YtnfnaehonkbknaaGreatDoor
open Go Go.X Go.Proofs.Tryz
def Bk7 := aN @Dj4 (aN @Ex6 (fun H => Bvo (H := H) underlying78 underlying3))
def Dqa := @Bq0
def Dqb := @Bq0
def Ayo := aN (fun H => Aqd (H := H) underlying80 (i := 1) rfl (off := 1) rfl sizeOf3) (aN @Eqy (aN @Ex6 (aN (fun H => Aqd (H := H) underlying80 (i := 0) rfl (off := 0) rfl sizeOf22) (aN @Eqv (aN @Dyv (aN @Exh (aN @Ex2 (aN (fun H => Aqd (H := H) underlying80 (i := 2) rfl (off := 2) rfl sizeOf78) (aN (fun H => Aqh (H := H) underlying78 rfl) (fun H => Axb (H := H) sizeOf78))))))))))
def TinI (H : Hp) (b k : Nat) : Prop :=
 ∃ (sa : Option Addr) (sl sc : Nat) (g st : Int), H b = some (true, .cells #[.slice sa sl sc, .int .i64 g, .int .u64 st] 80 (0, 0)) /\ 0 <= g /\ g + k <= 4611686018427387904 /\
  ∀ i : Nat, i < sl -> ∃ sb so c e fr x, sa = some ⟨sb, so, none⟩ /\ H sb = some (false, .cells c e fr) /\ c[so + i]? = some (.int .i64 x)
theorem TinI.new {H : Hp} {b k b2 : Nat} {o : Obj} (h : TinI H b k) (hb : H b2 = none) : TinI (H.set b2 o) b k := by
 obtain ⟨sa, sl, sc, g, st, h1, h2, h3, h4⟩ := h
 refine ⟨sa, sl, sc, g, st, Hp.le_set hb _ _ h1, h2, h3, fun i hi => ?_⟩
 obtain ⟨sb, so, c, e, fr, x, ha, hs, hx⟩ := h4 i hi
 exact ⟨sb, so, c, e, fr, x, ha, Hp.le_set hb _ _ hs, hx⟩
theorem TinI.own {H : Hp} {b k b2 : Nat} {o o' : Obj} (h : TinI H b k) (hb : H b2 = some (true, o)) (hn : b ≠ b2) : TinI (H.set b2 o') b k := by
 obtain ⟨sa, sl, sc, g, st, h1, h2, h3, h4⟩ := h
 refine ⟨sa, sl, sc, g, st, by rw [Axo, if_neg hn]; exact h1, h2, h3, fun i hi => ?_⟩
 obtain ⟨sb, so, c, e, fr, x, ha, hs, hx⟩ := h4 i hi
 exact ⟨sb, so, c, e, fr, x, ha, by rw [Axo, if_neg (fun e => by subst e; rw [hb] at hs; cases hs)]; exact hs, hx⟩
theorem TinI.less {H : Hp} {b k k' : Nat} (h : TinI H b k) (hk : k' <= k) : TinI H b k' := by
 obtain ⟨sa, sl, sc, g, st, h1, h2, h3, h4⟩ := h
 exact ⟨sa, sl, sc, g, st, h1, h2, by omega, h4⟩
theorem Cyy (n : Int) : 0 <= IntKind.u64.wrap n /\ IntKind.u64.wrap n < 18446744073709551616 := by
 unfold IntKind.wrap
 simp only [IntKind.bits, IntKind.signed, Bool.false_and, Bool.false_eq_true, if_false]
 omega
theorem shr9 (x : Int) (h : 0 <= x) (h' : x < 18446744073709551616) : 0 <= x.fdiv (2 ^ (min (9 : Int).toNat IntKind.u64.bits)) /\ x.fdiv (2 ^ (min (9 : Int).toNat IntKind.u64.bits)) < 36028797018963968 := by
 have e : (2 : Int) ^ (min (9 : Int).toNat IntKind.u64.bits) = 512 := rfl
 rw [e, Int.fdiv_eq_ediv_of_nonneg _ (by omega)]
 omega
theorem Bx9 (f : (n : Nat) -> BitVec n -> BitVec n -> BitVec n) (x y : Int) : 0 <= bitv f .u64 x y /\ bitv f .u64 x y < 18446744073709551616 := Cyy _
theorem Cw2 (m : Md) (H : Hp) (b k : Nat) (hT : TinI H b (k + 1)) :
  FnX Tryz.prog m 50 #[.pointer (some ⟨b, 0, none⟩)] H fun e H' => ∃ v : Int, 0 <= v /\ v < 36028797018963968 /\ e = .returned (.int .u64 v) /\ ∃ o, H' = H.set b o /\ TinI H' b k := by
 obtain ⟨sa, sl, sc, g, st, hb, hg, hg', hs⟩ := hT
 refine Aql func50 rfl ntmps50 (by simp) ?_
 (refine @unH _ ?_; refine z1 Ayo ?_)
 (refine Aye ?_; intro K hK; simp -implicitDefEqProofs (disch := first | omega | (simp only [qd] <;> omega)) only [xq, ↓xp, qc, Nat.reduceAdd, List.range, List.range.loop, fine, Nat.reduceEqDiff, ↓reduceIte, yielded, reduceCtorEq, Nat.reduceLT, Nat.reduceMul, Nat.reduceSub, one, Nat.reduceLeDiff, Aqg, Ayo, cell_of hb, exists_eq_left']; refine hK _ _ ?_; clear hK K)
 refine Av3 (fun a' H' => ∃ e x, a' = act 76 e [] /\ H' = H /\ e 0 = .pointer (some ⟨b, 0, none⟩) /\ e 3 = .int .u64 x) ?_ ?_
 ·refine Cji 10 [(true, 0), (true, 1), (true, 2), (true, 3), (true, 4), (true, 5), (true, 6), (true, 7), (true, 8), (true, 9)] (by kernel_rfl) (by kernel_rfl) (by simp) (by kernel_rfl) ?_; intro K hK
  iterate 10 (apply Aku rfl rfl rfl; (focus (simp -implicitDefEqProofs (disch := first | omega | (simp only [qd] <;> omega)) only [xq, ↓xp, qc, Nat.reduceAdd, List.range, List.range.loop, fine, Nat.reduceEqDiff, ↓reduceIte, yielded, reduceCtorEq, Nat.reduceLT, Nat.reduceMul, Nat.reduceSub, one, Nat.reduceLeDiff, Aqg, Ayo, cell_of hb, exists_eq_left', and_true, true_and] <;> (first | exact rfl | exact ⟨rfl, rfl⟩))); simp -implicitDefEqProofs (disch := first | omega | (simp only [qd] <;> omega)) only [Aq3, Aqm])
  refine Ak8 (hK _ _ ?_); clear hK K
  refine Av2 (by simp -implicitDefEqProofs (disch := first | omega | (simp only [qd] <;> omega)) only [Aq6, Axh, Nat.reduceEqDiff, ↓reduceIte]; rfl) ?_
  by_cases hlt : g < sl
  ·simp only [hlt, decide_true, if_true]
   obtain ⟨sb, so, c, e, fr, x, rfl, hsb, hcx⟩ := hs g.toNat (by omega)
   have hcx' : c[so + g.toNat * 1]? = some (.int .i64 x) := by simpa using hcx
   refine Akm 15 [(true, 0), (true, 1), (true, 2), (true, 3), (true, 4), (true, 5), (true, 6), (true, 7), (true, 8), (true, 9), (true, 10), (true, 11), (true, 12), (true, 13), (true, 14)] (by kernel_rfl) (by kernel_rfl) (by simp) (by kernel_rfl) ?_; intro K hK
   iterate 15 (apply Aku rfl rfl rfl; (focus (simp -implicitDefEqProofs (disch := first | omega | (simp only [qd] <;> omega)) only [xq, ↓xp, qc, Nat.reduceAdd, List.range, List.range.loop, fine, Nat.reduceEqDiff, ↓reduceIte, yielded, reduceCtorEq, Nat.reduceLT, Nat.reduceMul, Nat.reduceSub, one, Nat.reduceLeDiff, Aqg, Ayo, cell_of hb, cell_of hsb, hcx', exists_eq_left', and_true, true_and] <;> (first | exact rfl | exact ⟨rfl, rfl⟩))); simp -implicitDefEqProofs (disch := first | omega | (simp only [qd] <;> omega)) only [Aq3, Aqm])
   refine Ak8 (hK _ _ ?_); clear hK K
   exact ⟨_, _, rfl, rfl, rfl, rfl⟩
  ·simp only [hlt, decide_false, Bool.false_eq_true, if_false]
   exact Aze ⟨_, _, rfl, rfl, rfl, rfl⟩
 ·rintro a' H' ⟨e, x, rfl, rfl, h0, h3⟩
  (refine Aye ?_; intro K hK; simp -implicitDefEqProofs (disch := first | omega | (simp only [qd] <;> omega)) only [xq, ↓xp, qc, Nat.reduceAdd, List.range, List.range.loop, fine, Nat.reduceEqDiff, ↓reduceIte, yielded, reduceCtorEq, Nat.reduceLT, Nat.reduceMul, Nat.reduceSub, one, Nat.reduceLeDiff, Aqg, Ayo, h0, h3, cell_of hb, exists_eq_left', Avc hb, true_and]; refine hK _ _ ?_; clear hK K)
  (refine @unH _ ?_; refine z1 (aN Ayo (aN @h0 (aN @h3 (aN @exists_eq_left'.{1} @true_and)))) ?_)
  refine Cji 13 [(true, 0), (true, 1), (true, 2), (true, 3), (true, 4), (true, 5), (true, 6), (true, 7), (true, 8), (true, 9), (true, 10), (true, 11), (true, 12), (false, 13)] (by kernel_rfl) (by kernel_rfl) (by simp) (by kernel_rfl) ?_; intro K hK
  iterate 13 (apply Aku rfl rfl rfl; (focus (simp -implicitDefEqProofs (disch := first | omega | (simp only [qd] <;> omega)) only [xq, ↓xp, qc, Nat.reduceAdd, List.range, List.range.loop, fine, Nat.reduceEqDiff, ↓reduceIte, yielded, reduceCtorEq, Nat.reduceLT, Nat.reduceMul, Nat.reduceSub, one, Nat.reduceLeDiff, Aqg, Ayo, h0, h3, exists_eq_left', and_true, true_and] <;> (first | exact rfl | exact ⟨rfl, rfl⟩))); simp -implicitDefEqProofs (disch := first | omega | (simp only [qd] <;> omega)) only [Aq3, Aqm])
  refine Bja ?_
  (refine @unH _ ?_; refine z0 (aN Ayo (aN @h0 (aN @h3 (aN @exists_eq_left'.{1} @true_and)))) ?_)
  refine hK _ _ ?_; clear hK K
  (refine @unH _ ?_; refine z1 (aN Ayo (aN @h0 (aN @h3 (aN @exists_eq_left'.{1} @true_and)))) ?_)
  (refine @unH _ ?_; refine z1 (aN Ayo (aN @h0 (aN @h3 (aN @exists_eq_left'.{1} @true_and)))) ?_)
  (refine @unH _ ?_; refine z9 results50 ?_)
  refine ⟨_, (shr9 _ (Bx9 _ _ _).1 (Bx9 _ _ _).2).1, (shr9 _ (Bx9 _ _ _).1 (Bx9 _ _ _).2).2, rfl, _, rfl, ?_⟩
  refine ⟨sa, sl, sc, g + 1, _, by rw [Axo, if_pos rfl], by omega, by omega, fun i hi => ?_⟩
  obtain ⟨sb, so, c, e', fr, x', h1, h2, h4⟩ := hs i hi
  exact ⟨sb, so, c, e', fr, x', h1, by rw [Axo, if_neg (fun h => by subst h; rw [hb] at h2; cases h2)]; exact h2, h4⟩
theorem Awu (m : Md) (H : Hp) (b k : Nat) (n : Int) (hn : n < 36028797018963967) (hT : TinI H b (k + 1)) :
  FnX Tryz.prog m 15 #[.pointer (some ⟨b, 0, none⟩), .int .i64 n] H fun e H' => ∃ r : Int, 0 <= r /\ (r <= n ∨ r = 0) /\ e = .returned (.int .i64 r) /\ ∃ o, H' = H.set b o /\ TinI H' b k := by
 refine Aql func15 rfl ntmps15 (by simp) ?_
 (refine @unH _ ?_; refine z1 Bk7 ?_)
 (refine @unH _ ?_; refine z8 Bk7 ?_; (try clear hK K); intro K hK _)
 refine (Cw2 m H b k hT).runs.mono ?_; rintro _ _ ⟨v, hv0, hv1, rfl, o, rfl, hT'⟩; simp -implicitDefEqProofs (disch := first | omega | (simp only [qd] <;> omega)) only [xq, ↓xp, qc, Nat.reduceAdd, List.range, List.range.loop, fine, Nat.reduceEqDiff, ↓reduceIte, yielded, reduceCtorEq, Nat.reduceLT, Nat.reduceMul, Nat.reduceSub, one, Nat.reduceLeDiff, Aqg, Bk7]
 refine hK _ _ ?_; clear hK K
 refine Av3 (fun a' H' => ∃ e, 1 <= n /\ a' = act 16 e [] /\ H' = H.set b o /\ e 1 = .int .i64 n /\ e 5 = .int .u64 v) ?_ ?_
 ·(refine @unH _ ?_; refine z1 Bk7 ?_)
  refine Av2 (by simp -implicitDefEqProofs (disch := first | omega | (simp only [qd] <;> omega)) only [Aq6, Axh, Nat.reduceEqDiff, ↓reduceIte]; rfl) ?_
  by_cases h : n < 1
  ·simp only [h, decide_true, if_true]
   (refine @unH _ ?_; refine z1 Bk7 ?_)
   refine Axs ?_
   simp only [thn]
   rw [Aq8, Ay2 results15 (by decide)]
   exact ⟨0, by omega, .inr rfl, rfl, o, rfl, hT'⟩
  ·simp only [h, decide_false, Bool.false_eq_true, if_false]
   exact Aze ⟨_, by omega, rfl, rfl, rfl, rfl⟩
 ·rintro a' H' ⟨e, h1, rfl, rfl, e1, e5⟩
  have hw : IntKind.u64.wrap n = n := IntWalk.u64_in n (by omega)
  have hw' : IntKind.u64.wrap (n + 1) = n + 1 := IntWalk.u64_in _ (by omega)
  have hm : v.tmod (n + 1) = v % (n + 1) := Int.tmod_eq_emod_of_nonneg hv0
  have hr0 := Int.emod_nonneg v (show n + 1 ≠ 0 by omega)
  have hr1 := Int.emod_lt_of_pos v (show 0 < n + 1 by omega)
  have hw2 : IntKind.i64.wrap (v % (n + 1)) = v % (n + 1) := IntWalk.i64_in _ (by omega)
  (refine @unH _ ?_; refine z1 (aN Bk7 (aN @e1 (aN @e5 (aN @hw (aN @hw' (aN @hm @hw2)))))) ?_)
  (refine @unH _ ?_; refine z9 results15 ?_)
  exact ⟨_, hr0, .inl (by omega), rfl, o, rfl, hT'⟩
theorem Cx3 (m : Md) (H : Hp) (b k : Nat) (lo hi : Int) (h0 : -1000000 <= lo) (h1 : lo <= 1000000) (h2 : -1000000 <= hi) (h3 : hi <= 1000000) (hT : TinI H b (k + 1)) :
  FnX Tryz.prog m 36 #[.pointer (some ⟨b, 0, none⟩), .int .i64 lo, .int .i64 hi] H fun e H' => ∃ r : Int, lo <= r /\ (r <= hi ∨ r = lo) /\ e = .returned (.int .i64 r) /\ ∃ o, H' = H.set b o /\ TinI H' b k := by
 refine Aql func36 rfl ntmps36 (by simp) ?_
 (refine @unH _ ?_; refine z1 @Dqb ?_)
 (refine @unH _ ?_; refine z8 @Dqb ?_; (try clear hK K); intro K hK _)
 refine (Awu m H b k (hi - lo) (by omega) hT).runs.mono ?_
 rintro _ _ ⟨r, hr0, hr1, rfl, o, rfl, hT'⟩
 have hr2 : r <= 2000000 := by omega
 (refine @unH _ ?_; refine z0 @Dqb ?_)
 refine hK _ _ ?_; clear hK K
 (refine @unH _ ?_; refine z9 results36 ?_)
 exact ⟨_, by omega, by omega, rfl, o, rfl, hT'⟩
theorem Cxg (m : Md) (H : Hp) (b k : Nat) (n : Int) (h0 : -1000000 <= n) (h1 : n <= 1000000) (hT : TinI H b (k + 1)) :
  FnX Tryz.prog m 16 #[.pointer (some ⟨b, 0, none⟩), .int .i64 n] H fun e H' => ∃ r : Bool, e = .returned (.bool r) /\ ∃ o, H' = H.set b o /\ TinI H' b k := by
 refine Aql func16 rfl ntmps16 (by simp) ?_
 (refine @unH _ ?_; refine z1 @Dqa ?_)
 (refine @unH _ ?_; refine z8 @Dqa ?_; (try clear hK K); intro K hK _)
 refine (Awu m H b k (n - 1) (by omega) hT).runs.mono ?_; rintro _ _ ⟨r, hr0, hr1, rfl, o, rfl, hT'⟩; simp -implicitDefEqProofs (disch := first | omega | (simp only [qd] <;> omega)) only [xq, ↓xp, qc, Nat.reduceAdd, List.range, List.range.loop, fine, Nat.reduceEqDiff, ↓reduceIte, yielded, reduceCtorEq, Nat.reduceLT, Nat.reduceMul, Nat.reduceSub, one, Nat.reduceLeDiff, Aqg, Dqa]
 refine hK _ _ ?_; clear hK K
 (refine @unH _ ?_; refine z9 results16 ?_)
 exact ⟨_, rfl, o, rfl, hT'⟩
def Dqc := aN @Dyv (aN @Bq0 (aN @Exh @Eqy))
def SlI (H : Hp) (v : Value) (xs : List Int) : Prop :=
 ∃ (a : Option Addr) (cap : Nat), v = .slice a xs.length cap /\ xs.length <= cap /\ ∀ (i : Nat) (x : Int), xs[i]? = some x -> ∃ (b o : Nat) (p : Bool) (c : Array Value) (fr : Nat × Nat), a = some ⟨b, o, none⟩ /\ H b = some (p, .cells c 3 fr) /\ c[o + i]? = some (.int .i64 x)
theorem SlI.le {H H' : Hp} {v : Value} {xs : List Int} (h : SlI H v xs) (hl : H.le H') : SlI H' v xs := by
 obtain ⟨a, cap, hv, hc, h⟩ := h
 refine ⟨a, cap, hv, hc, fun i x hi => ?_⟩
 obtain ⟨b, o, p, c, fr, ha, hb, hx⟩ := h i x hi
 exact ⟨b, o, p, c, fr, ha, hl _ _ hb, hx⟩
theorem SlI.nil (H : Hp) (a : Option Addr) (cap : Nat) : SlI H (.slice a 0 cap) [] := ⟨a, cap, rfl, Nat.zero_le _, fun i x hi => by simp at hi⟩
theorem SlI.cons {H : Hp} {v : Value} {xs : List Int} (h : SlI H v xs) (hx : xs ≠ []) : ∃ (b o cap : Nat) (p : Bool) (c : Array Value) (fr : Nat × Nat), v = .slice (some ⟨b, o, none⟩) xs.length cap /\ xs.length <= cap /\ H b = some (p, .cells c 3 fr) /\ ∀ (i : Nat) (x : Int), xs[i]? = some x -> c[o + i]? = some (.int .i64 x) := by
 obtain ⟨a, cap, hv, hc, h⟩ := h
 cases xs with
 | nil => exact absurd rfl hx
 | cons y ys =>
  obtain ⟨b, o, p, c, fr, rfl, hb, _⟩ := h 0 y rfl
  refine ⟨b, o, cap, p, c, fr, hv, hc, hb, fun i x hi => ?_⟩
  obtain ⟨b', o', p', c', fr', ha, hb', hx'⟩ := h i x hi
  simp only [Option.some.injEq, Addr.mk.injEq] at ha
  obtain ⟨rfl, rfl, _⟩ := ha
  rw [hb] at hb'
  simp only [Option.some.injEq, Prod.mk.injEq, Obj.cells.injEq] at hb'
  obtain ⟨_, rfl, _⟩ := hb'
  exact hx'
def ints (xs : List Int) : List Value := xs.map (Value.int .i64)
theorem Akg {xs : List Int} {i : Nat} {x : Int} (h : xs[i]? = some x) : (ints xs)[i]? = some (.int .i64 x) := by simp [ints, h]
theorem Cz4 (xs ys : List Int) : ints (xs ++ ys) = ints xs ++ ints ys := by simp [ints]
theorem Aqz (xs : List Int) : (ints xs).length = xs.length := by simp [ints]
theorem Bzd (xs : List Int) : ∀ u ∈ ints xs, one u = true := fun u hu => by
 simp only [ints, List.mem_map] at hu
 obtain ⟨x, _, rfl⟩ := hu
 rfl
theorem Bzl {H₀ H : Hp} {v : Value} {n : Nat} {xs : List Int} (hrow : Aj9 H₀ H v 3 1 n (ints xs)) {Hx : Hp} (hx : H.le Hx) {g o m cap : Nat} {ys : List Int} (hm : ys.length = m)
  (hg : H₀ g = none -> H g = none) (hys : ∀ (j : Nat) (y : Int), ys[j]? = some y -> Hx.cell ⟨g, o + j, none⟩ = some (.int .i64 y)) (hn : n + m <= 1073741824)
  (ty : TypeId) (cb : Array Bool) (K : Next -> Hp -> Prop) (E : Value -> Hp -> Prop)
  (h : ∀ v' H' H'', Aj9 H₀ H' v' 3 1 (n + m) (ints (xs ++ ys)) -> H'.le H'' -> K (.value v') H'') :
  wpS Tryz.prog (builtin .append #[22, 22] ty cb #[v, .slice (some ⟨g, o, none⟩) m cap]) Hx K E := by
 refine Ajt underlying22 sizeOf3 zeroValue3 rfl typeInfo3 (by decide) (by decide) hrow hx (news := ints ys) (by rw [Aqz, hm, Nat.mul_one]) hg (fun j u hj => ?_) (Bzd ys) hn ty cb K E (fun v' H' H'' h1 h2 => h v' H' H'' (by rw [Cz4]; exact h1) h2)
 simp only [ints, List.getElem?_map, Option.map_eq_some_iff] at hj
 obtain ⟨y, hy, rfl⟩ := hj
 exact hys j y hy
theorem Cqz (m : Md) (H : Hp) (b k : Nat) (v : Value) (xs : List Int) (hv : SlI H v xs) (hne : xs ≠ []) (hl : xs.length <= 1000000) (hT : TinI H b (k + 1)) :
  FnX Tryz.prog m 40 #[.pointer (some ⟨b, 0, none⟩), v] H fun e H' => ∃ r : Int, r ∈ xs /\ e = .returned (.int .i64 r) /\ ∃ o, H' = H.set b o /\ TinI H' b k := by
 have hpos : 0 < xs.length := List.length_pos_iff.2 hne
 obtain ⟨sb, so, cap, p, c, fr, rfl, _, hsb, hc⟩ := hv.cons hne
 have hbn : sb ≠ b := fun e => by
  obtain ⟨_, _, _, _, _, hb, _⟩ := hT
  rw [e, hb] at hsb
  cases hsb
 refine Aql func40 rfl ntmps40 (by simp) ?_
 (refine @unH _ ?_; refine z1 Dqc ?_)
 (refine @unH _ ?_; refine z8 Dqc ?_; (try clear hK K); intro K hK _)
 refine (Awu m H b k ((xs.length : Int) - 1) (by omega) hT).runs.mono ?_
 rintro _ _ ⟨r, hr0, hr1, rfl, o, rfl, hT'⟩
 have hr2 : r < xs.length := by omega
 have hrn : r.toNat < xs.length := by omega
 have hx := hc r.toNat xs[r.toNat] (List.getElem?_eq_getElem hrn)
 have hx' : c[so + r.toNat * 1]? = some (.int .i64 xs[r.toNat]) := by simpa using hx
 have hsb' : (H.set b o) sb = some (p, .cells c 3 fr) := by rw [Axo, if_neg hbn]; exact hsb
 simp -implicitDefEqProofs (disch := first | omega | (simp only [qd] <;> omega)) only [xq, ↓xp, qc, Nat.reduceAdd, List.range, List.range.loop, fine, Nat.reduceEqDiff, ↓reduceIte, yielded, reduceCtorEq, Nat.reduceLT, Nat.reduceMul, Nat.reduceSub, one, Nat.reduceLeDiff, Aqg, Dqc, cell_of hsb', hx', exists_eq_left']
 refine hK _ _ ?_; clear hK K
 (refine @unH _ ?_; refine z9 results40 ?_)
 exact ⟨_, List.getElem_mem hrn, rfl, o, rfl, hT'⟩
def Ayn := aN @Ex0 (aN @Bq0 (aN @Exh (aN @Eqy @Ex2)))
def Lex (b : Option Nat) (H H' : Hp) : Prop := ∀ x v, H x = some v -> ∃ v', H' x = some v' /\ (b ≠ some x -> v' = v)
theorem Lex.refl {b : Option Nat} {H : Hp} : Lex b H H := fun _ v h => ⟨v, h, fun _ => rfl⟩
theorem Lex.trans {b : Option Nat} {H H' H'' : Hp} (h : Lex b H H') (h' : Lex b H' H'') : Lex b H H'' := fun x v hx => by
 obtain ⟨v1, h1, e1⟩ := h x v hx
 obtain ⟨v2, h2, e2⟩ := h' x v1 h1
 exact ⟨v2, h2, fun hn => (e2 hn).trans (e1 hn)⟩
theorem Lex.hold {b : Option Nat} {b' : Nat} {H H' : Hp} {v : Bool × Obj} (h : Lex b H H') (hx : H b' = some v) (hn : b ≠ some b') : H' b' = some v := by
 obtain ⟨v', h', e⟩ := h _ _ hx
 rw [h', e hn]
theorem Lex.keeps {b b' : Nat} {H H' : Hp} {v : Bool × Obj} (h : Lex (some b) H H') (hx : H b' = some v) (hn : b' ≠ b) : H' b' = some v := h.hold hx (fun e => hn (Option.some.inj e).symm)
theorem Lex.of {b : Option Nat} {H H' : Hp} (h : H.le H') : Lex b H H' := fun x v hx => ⟨v, h _ _ hx, fun _ => rfl⟩
theorem Lex.toLe {H H' : Hp} (h : Lex none H H') : H.le H' := fun _ _ hx => h.hold hx (by simp)
theorem Lex.gone {b : Option Nat} {H H' : Hp} (h : Lex b H H') {x : Nat} (hx : H' x = none) : H x = none := by
 cases e : H x with
 | none => rfl
 | some v => obtain ⟨v', h', _⟩ := h x v e; rw [hx] at h'; cases h'
theorem Lex.set {b : Nat} {H H' : Hp} {o : Obj} (h : Lex (some b) H H') : Lex (some b) H (H'.set b o) := fun x v hx => by
 obtain ⟨v', h', e⟩ := h x v hx
 by_cases hxb : x = b
 ·exact ⟨_, by rw [Axo, if_pos hxb], fun hn => absurd (by rw [hxb]) hn⟩
 ·exact ⟨v', by rw [Axo, if_neg hxb]; exact h', e⟩
theorem Lex.le {b : Option Nat} {H H' H'' : Hp} (h : Lex b H H') (hl : H'.le H'') : Lex b H H'' := h.trans (Lex.of hl)
theorem Lex.new {b : Option Nat} {b' : Nat} {H H' : Hp} {o : Obj} (h : Lex b H H') (hb : H' b' = none) : Lex b H (H'.set b' o) := h.le (Hp.le_set hb)
theorem Lex.own {b : Option Nat} {b' : Nat} {H H' : Hp} {o : Obj} (h : Lex b H H') (hb : H b' = none) : Lex b H (H'.set b' o) := fun x v hx => by
 obtain ⟨v', h', e⟩ := h x v hx
 exact ⟨v', by rw [Axo, if_neg (fun e => by rw [e, hb] at hx; cases hx)]; exact h', e⟩
theorem SlI.lex {H H' : Hp} {v : Value} {xs : List Int} (h : SlI H v xs) {b k : Nat} (hl : Lex (some b) H H') (hT : TinI H b k) : SlI H' v xs := by
 obtain ⟨a, cap, hv, hc, h⟩ := h
 refine ⟨a, cap, hv, hc, fun i x hi => ?_⟩
 obtain ⟨b', o, p, c, fr, ha, hb, hx⟩ := h i x hi
 refine ⟨b', o, p, c, fr, ha, hl.keeps hb (fun e => ?_), hx⟩
 obtain ⟨_, _, _, _, _, hb2, _⟩ := hT
 rw [e, hb2] at hb; cases hb
theorem TinI.ne {H : Hp} {b b' k : Nat} (h : TinI H b k) (hb : H b' = none) : b' ≠ b := fun e => by
 obtain ⟨_, _, _, _, _, hb2, _⟩ := h
 rw [e, hb2] at hb; cases hb
theorem Azr (xs : List Int) (j : Nat) (x : Int) : (ints xs).set j (.int .i64 x) = ints (xs.set j x) := by
 simp [ints, List.map_set]
theorem ints_at {xs : List Int} {j : Nat} (h : j < xs.length) : (ints xs).toArray[j]? = some (.int .i64 xs[j]) := by
 simp [ints, h]
def Cjm (n j : Nat) (xs : List Int) : Prop :=
 xs.length = n /\ (∀ i, i < j -> ∃ x, xs[i]? = some x /\ 0 <= x /\ x < j) /\ ∀ i i' x, i < j -> i' < j -> xs[i]? = some x -> xs[i']? = some x -> i = i'
theorem Cjm.step {n j r : Nat} {xs : List Int} (h : Cjm n j xs) (hj : j < n) (hr : r <= j) {y : Int} (hy : xs[r]? = some y) : Cjm n (j + 1) ((xs.set j y).set r j) := by
 obtain ⟨hl, h1, h2⟩ := h
 have hg : ∀ i, i < j + 1 -> ((xs.set j y).set r (j : Int))[i]? = if i = r then some (j : Int) else if i = j then some y else xs[i]? := by
  intro i hi
  rw [List.getElem?_set, List.getElem?_set, List.length_set]
  by_cases e : i = r
  ·subst e; rw [if_pos rfl, if_pos rfl, if_pos (by omega)]
  ·rw [if_neg (fun h => e h.symm), if_neg e]
   by_cases e' : i = j
   ·subst e'; rw [if_pos rfl, if_pos rfl, if_pos (by omega)]
   ·rw [if_neg (fun h => e' h.symm), if_neg e']
 refine ⟨by simp [hl], fun i hi => ?_, fun i i' x hi hi' hx hx' => ?_⟩
 ·rw [hg i hi]
  by_cases e : i = r
  ·exact ⟨j, by simp [e], by omega, by omega⟩
  ·rw [if_neg e]
   by_cases e' : i = j
   ·rw [if_pos e']
    obtain ⟨x, hx, h0, h0'⟩ := h1 r (by omega)
    rw [hy] at hx; cases hx
    exact ⟨y, rfl, h0, by omega⟩
   ·rw [if_neg e']
    obtain ⟨x, hx, h0, h0'⟩ := h1 i (by omega)
    exact ⟨x, hx, h0, by omega⟩
 ·rw [hg i hi] at hx
  rw [hg i' hi'] at hx'
  have lo : ∀ i x, i < j -> xs[i]? = some x -> x < j := fun i x hi hx => by
   obtain ⟨x', hx', _, h⟩ := h1 i hi
   rw [hx] at hx'; cases hx'; exact h
  by_cases e : i = r <;> by_cases e' : i' = r <;> simp only [e, e', if_true, if_false] at hx hx' ⊢
  ·exfalso
   cases hx
   by_cases f : i' = j
   ·rw [if_pos f] at hx'; cases hx'
    have := lo r j (by omega) hy
    omega
   ·rw [if_neg f] at hx'
    have := lo i' j (by omega) hx'
    omega
  ·exfalso
   cases hx'
   by_cases f : i = j
   ·rw [if_pos f] at hx; cases hx
    have := lo r j (by omega) hy
    omega
   ·rw [if_neg f] at hx
    have := lo i j (by omega) hx
    omega
  ·by_cases f : i = j <;> by_cases f' : i' = j <;> simp only [f, f', if_true, if_false] at hx hx' ⊢
   ·cases hx
    exfalso
    exact e' (h2 i' r y (by omega) (by omega) hx' hy)
   ·cases hx'
    exfalso
    exact e (h2 i r y (by omega) (by omega) hx hy)
   ·exact h2 i i' x (by omega) (by omega) hx hx'
theorem Cjm.nodup {n : Nat} {xs : List Int} (h : Cjm n n xs) : xs.length = n /\ xs.Nodup /\ ∀ x ∈ xs, 0 <= x /\ x < n := by
 obtain ⟨hl, h1, h2⟩ := h
 refine ⟨hl, ?_, fun x hx => ?_⟩
 ·rw [List.Nodup, List.pairwise_iff_getElem]
  intro i j hi hj hlt e
  have := h2 i j xs[i] (by omega) (by omega) (List.getElem?_eq_getElem hi) (by rw [List.getElem?_eq_getElem hj, e])
  omega
 ·obtain ⟨i, hi, rfl⟩ := List.getElem_of_mem hx
  obtain ⟨x, hx, h⟩ := h1 i (by omega)
  rw [List.getElem?_eq_getElem hi] at hx
  cases hx
  exact h
theorem Ckk (m : Md) (H : Hp) (b k : Nat) (n : Nat) (hn : n <= 1000) (hT : TinI H b (k + n)) :
  FnX Tryz.prog m 38 #[.pointer (some ⟨b, 0, none⟩), .int .i64 n] H fun e H' => ∃ v xs, e = .returned v /\ SlI H' v xs /\ xs.length = n /\ xs.Nodup /\ (∀ x ∈ xs, 0 <= x /\ x < n) /\ Lex (some b) H H' /\ TinI H' b k := by
 refine Aql func38 rfl ntmps38 (by simp) ?_
 (refine @unH _ ?_; refine z1 Ayn ?_)
 (refine @unH _ ?_; refine z8 Ayn ?_; (try clear hK K); intro K hK _)
 intro lb hlb
 refine hK _ _ ?_; clear hK K
 have hlbn : lb ≠ b := hT.ne hlb
 refine Axp ?_
 (refine @unH _ ?_; refine z1 Ayn ?_)
 refine Ax7 (Axc (fun w a' H' => ∃ e j xs, w = n - j /\ j <= n /\ a' = act 30 e [] /\ e 0 = .pointer (some ⟨b, 0, none⟩) /\ e 1 = .int .i64 n /\ e 5 = .slice (some ⟨lb, 0, none⟩) n n /\ e 6 = .int .i64 j /\
  H' lb = some (true, .cells (ints xs).toArray 3 (0, 0)) /\ Lex (some b) H H' /\ TinI H' b (k + (n - j)) /\ Cjm n j xs) (n := n) ?_ ?_)
 ·exact ⟨_, 0, List.replicate n 0, by omega, by omega, rfl, rfl, rfl, rfl, rfl, by rw [Axo, if_pos rfl]; simp [ints], Lex.refl.new hlb, (hT.new hlb).less (by omega), by simp, fun i hi => by omega, fun i i' x hi => by omega⟩
 ·rintro w a' H' ⟨e, j, xs, rfl, hj, rfl, e0, e1, e5, e6, hlb', hlex, hT', hM⟩
  refine Axp ?_
  (refine @unH _ ?_; refine z1 (aN Ayn (aN @e0 (aN @e1 (aN @e5 @e6)))) ?_)
  refine Av2 (by simp -implicitDefEqProofs (disch := first | omega | (simp only [qd] <;> omega)) only [Aq6, Axh, Nat.reduceEqDiff, ↓reduceIte]; rfl) ?_
  by_cases hlt : j < n
  ·simp only [Int.ofNat_lt, hlt, decide_true, if_true]
   refine Aze (Axp (Ax7 ?_))
   (refine @unH _ ?_; refine z8 (aN Ayn (aN @e0 (aN @e1 (aN @e5 @e6)))) ?_; (try clear hK K); intro K hK _)
   refine (Awu m H' b (k + (n - (j + 1))) (j : Int) (by omega) (by rw [show k + (n - (j + 1)) + 1 = k + (n - j) by omega]; exact hT')).runs.mono ?_
   rintro _ _ ⟨r, hr0, hr1, rfl, o, rfl, hT2⟩
   (refine @unH _ ?_; refine z0 Ayn ?_)
   refine hK _ _ ?_; clear hK K
   obtain ⟨r, rfl⟩ := Int.eq_ofNat_of_zero_le hr0
   have hrj : r <= j := by omega
   have hrn : r < n := by omega
   have hl := hM.1
   have hlb2 : (H'.set b o) lb = some (true, .cells (ints xs).toArray 3 (0, 0)) := by rw [Axo, if_neg hlbn]; exact hlb'
   have hx := ints_at (xs := xs) (j := r) (by omega)
   (refine Aye ?_; intro K hK; simp -implicitDefEqProofs (disch := first | omega | (simp only [qd] <;> omega)) only [xq, ↓xp, qc, Nat.reduceAdd, List.range, List.range.loop, fine, Nat.reduceEqDiff, ↓reduceIte, yielded, reduceCtorEq, Nat.reduceLT, Nat.reduceMul, Nat.reduceSub, one, Nat.reduceLeDiff, Aqg, Ayn, e0, e1, e5, e6, cell_of hlb2, Avc hlb2, Int.toNat_natCast, Nat.mul_one, hx, exists_eq_left', Azr, Aqz, hl, hlt, hrn]; refine hK _ _ ?_; clear hK K)
   (refine Bqw ?_; intro K hK; simp -implicitDefEqProofs (disch := first | omega | (simp only [qd] <;> omega)) only [xq, ↓xp, qc, Nat.reduceAdd, List.range, List.range.loop, fine, Nat.reduceEqDiff, ↓reduceIte, yielded, reduceCtorEq, Nat.reduceLT, Nat.reduceMul, Nat.reduceSub, one, Nat.reduceLeDiff, Aqg, Ayn, e0, e1, e5, e6, Int.toNat_natCast, Nat.mul_one, Azr, Aqz, List.length_set, hl, hlt, hrn, Awp]; refine hK _ _ ?_; clear hK K)
   (refine Bqw ?_; intro K hK; simp -implicitDefEqProofs (disch := first | omega | (simp only [qd] <;> omega)) only [xq, ↓xp, qc, Nat.reduceAdd, List.range, List.range.loop, fine, Nat.reduceEqDiff, ↓reduceIte, yielded, reduceCtorEq, Nat.reduceLT, Nat.reduceMul, Nat.reduceSub, one, Nat.reduceLeDiff, Aqg, Ayn, e0, e1, e5, e6, Int.toNat_natCast, Nat.mul_one]; refine hK _ _ ?_; clear hK K)
   simp -implicitDefEqProofs (disch := first | omega | (simp only [qd] <;> omega)) only [thn, blk, ↓reduceIte, Nat.reduceEqDiff]
   refine ⟨_, ?_, _, j + 1, (xs.set j xs[r]).set r j, rfl, hlt, rfl, e0, e1, e5, rfl, by rw [Axo, if_pos rfl], (hlex.set.own hlb), (hT2.own hlb2 (Ne.symm hlbn)).less (by omega), hM.step hlt hrj (List.getElem?_eq_getElem _)⟩
   omega
  ·simp only [Int.ofNat_lt, hlt, decide_false, Bool.false_eq_true, if_false]
   (refine Az6 ?_; simp only [thn, blk, ↓reduceIte, Nat.reduceEqDiff])
   (refine @unH _ ?_; refine z1 (aN Ayn @e5) ?_)
   (refine @unH _ ?_; refine z9 results38 ?_)
   have : j = n := by omega
   subst this
   obtain ⟨hl, hnd, hb⟩ := hM.nodup
   exact ⟨_, xs, rfl, ⟨_, _, by rw [hl], by omega, fun i x hi => ⟨lb, 0, true, _, _, rfl, hlb', by rw [Nat.zero_add]; simpa using Akg hi⟩⟩, hl, hnd, hb, hlex, hT'.less (by omega)⟩
theorem Bj7 (m : Md) (H : Hp) (b k : Nat) (n : Int) (hn : n < 36028797018963967) (hT : TinI H b (k + 1)) :
  FnX Tryz.prog m 15 #[.pointer (some ⟨b, 0, none⟩), .int .i64 n] H fun e H' => ∃ r : Int, 0 <= r /\ (r <= n ∨ r = 0) /\ e = .returned (.int .i64 r) /\ Lex (some b) H H' /\ TinI H' b k :=
 (Awu m H b k n hn hT).mono fun _ _ ⟨r, h0, h1, he, _, hH, hT'⟩ => ⟨r, h0, h1, he, hH ▸ Lex.refl.set, hT'⟩
theorem Bjp (m : Md) (H : Hp) (b k : Nat) (lo hi : Int) (h0 : -1000000 <= lo) (h1 : lo <= 1000000) (h2 : -1000000 <= hi) (h3 : hi <= 1000000) (hT : TinI H b (k + 1)) :
  FnX Tryz.prog m 36 #[.pointer (some ⟨b, 0, none⟩), .int .i64 lo, .int .i64 hi] H fun e H' => ∃ r : Int, lo <= r /\ (r <= hi ∨ r = lo) /\ e = .returned (.int .i64 r) /\ Lex (some b) H H' /\ TinI H' b k :=
 (Cx3 m H b k lo hi h0 h1 h2 h3 hT).mono fun _ _ ⟨r, h0, h1, he, _, hH, hT'⟩ => ⟨r, h0, h1, he, hH ▸ Lex.refl.set, hT'⟩
theorem Cyd (m : Md) (H : Hp) (b k : Nat) (n : Int) (h0 : -1000000 <= n) (h1 : n <= 1000000) (hT : TinI H b (k + 1)) :
  FnX Tryz.prog m 16 #[.pointer (some ⟨b, 0, none⟩), .int .i64 n] H fun e H' => ∃ r : Bool, e = .returned (.bool r) /\ Lex (some b) H H' /\ TinI H' b k :=
 (Cxg m H b k n h0 h1 hT).mono fun _ _ ⟨r, he, _, hH, hT'⟩ => ⟨r, he, hH ▸ Lex.refl.set, hT'⟩
theorem Dkm (m : Md) (H : Hp) (b k : Nat) (v : Value) (xs : List Int) (hv : SlI H v xs) (hne : xs ≠ []) (hl : xs.length <= 1000000) (hT : TinI H b (k + 1)) :
  FnX Tryz.prog m 40 #[.pointer (some ⟨b, 0, none⟩), v] H fun e H' => ∃ r : Int, r ∈ xs /\ e = .returned (.int .i64 r) /\ Lex (some b) H H' /\ TinI H' b k :=
 (Cqz m H b k v xs hv hne hl hT).mono fun _ _ ⟨r, h0, he, _, hH, hT'⟩ => ⟨r, h0, he, hH ▸ Lex.refl.set, hT'⟩
theorem Axf {H : Hp} {b : Nat} {o : Obj} : (H.set b o) b = some (true, o) := by rw [Axo, if_pos rfl]
theorem Aqu {H : Hp} {b b' : Nat} {o : Obj} (h : b' ≠ b) : (H.set b o) b' = H b' := by rw [Axo, if_neg h]
end Go.Proofs.YtnfnaehonkbknaaGreatDoor
end
section
namespace Go.Proofs.YtnfnaehonkbknaaGreatDoor
open Go Go.X
def RowX (t : Option Nat) (H₀ H : Hp) (v : Value) (e : TypeId) (cs : List Value) : Prop :=
 Lex t H₀ H /\ ((v = .slice none 0 0 /\ cs = []) ∨
 ∃ (b : Nat) (c : Array Value) (cap : Nat), H₀ b = none /\ H b = some (true, .cells c e (0, 0)) /\ v = .slice (some ⟨b, 0, none⟩) cs.length cap /\ c.size = cap /\ cs.length <= cap /\ ∀ (i : Nat) (u : Value), cs[i]? = some u -> c[i]? = some u)
def Other (e : TypeId) (H H' : Hp) : Prop := ∀ x p o, H x = some (p, o) -> (p = false ∨ ∀ c fr, o ≠ .cells c e fr) -> H' x = some (p, o)
theorem RowX.nil {t : Option Nat} {H : Hp} {e : TypeId} : RowX t H H (.slice none 0 0) e [] := ⟨Lex.refl, .inl ⟨rfl, rfl⟩⟩
theorem RowX.len {t : Option Nat} {H₀ H : Hp} {v : Value} {e : TypeId} {cs : List Value} (h : RowX t H₀ H v e cs) : ∃ a cap, v = .slice a cs.length cap := by
 rcases h.2 with ⟨rfl, rfl⟩ | ⟨b, c, cap, _, _, rfl, _⟩
 ·exact ⟨_, _, rfl⟩
 ·exact ⟨_, _, rfl⟩
theorem RowX.le {t : Option Nat} {H₀ H H' : Hp} {v : Value} {e : TypeId} {cs : List Value} (h : RowX t H₀ H v e cs) (hl : H.le H') : RowX t H₀ H' v e cs := by
 refine ⟨h.1.le hl, h.2.imp id ?_⟩
 rintro ⟨b, c, cap, h0, h1, h2, h3, h4, h5⟩
 exact ⟨b, c, cap, h0, hl _ _ h1, h2, h3, h4, h5⟩
theorem Bkb {P : Program} {tt e : TypeId} {z : Value} {inf : TypeInfo} (hu : P.underlying tt = some (.slice e)) (hs : ∀ w, (sizeOf e).run P w = .ok 1 w) (hz : ∀ w, (zeroValue e).run P w = .ok z w) (hzc : z.cells.size = 1)
  (hi : ∀ w, (typeInfo e).run P w = .ok inf w) (hby : inf.bytes <= 1024) (hby0 : 0 < inf.bytes)
  {t : Option Nat} {H₀ H : Hp} {v : Value} {cs : List Value} (h : RowX t H₀ H v e cs) {g : Nat} {w : Value} (hg : H g = none) (hw : one w = true) (hn : cs.length <= 1000000) (ty : TypeId) (cb : Array Bool) (K : Next -> Hp -> Prop) (E : Value -> Hp -> Prop)
  (h' : ∀ v' H', RowX t H₀ H' v' e (cs ++ [w]) -> Other e H H' -> K (.value v') H') :
  wpS P (builtin .append #[tt, tt] ty cb #[v, .slice (some ⟨g, 0, none⟩) 1 1]) (H.set g (.cells #[w] e (0, 0))) K E := by
 obtain ⟨hlex, hrow⟩ := h
 have hws : ∀ (j : Nat) (u : Value), [w][j]? = some u -> (H.set g (.cells #[w] e (0, 0))).cell ⟨g, 0 + j, none⟩ = some u := by
  intro j u hj
  rw [Nat.zero_add, cell_of (b := g) (p := true) (c := #[w]) (e := e) (f := (0, 0)) (by rw [Axo, if_pos rfl])]
  simpa using hj
 have h1w : ∀ u ∈ [w], one u = true := by simp [hw]
 rcases hrow with ⟨rfl, rfl⟩ | ⟨b, c, cap, hb0, hb, rfl, hcs, hcap, hget⟩
 ·refine Ajt (P := P) hu hs hz hzc hi hby hby0 (Aj9.nil H e 1) (Hp.le_set hg) (by simp) id hws h1w (by omega) ty cb K E (fun v' H1 H2 hr hl => ?_)
  have hle : H.le H2 := fun x u hx => hl _ _ (hr.le _ _ hx)
  refine h' v' H2 ⟨hlex.le hle, ?_⟩ (fun x p o hx _ => hle _ _ hx)
  rcases hr with ⟨_, hn0, _⟩ | ⟨b', c', cap', hb', rfl, rfl, hs', hl', hn', hg'⟩
  ·simp at hn0
  ·refine .inr ⟨b', c', cap', hlex.gone hb', hl _ _ (by rw [Axo, if_pos rfl]), by simp, by omega, by simpa using hn', fun i u hi => hg' i u hi⟩
 ·have hgb : g ≠ b := fun e => by rw [e, hb] at hg; cases hg
  have hD : (fun x => if x = b then none else H x : Hp) b = none := by simp
  have hH : H = Hp.set (fun x => if x = b then none else H x) b (.cells c e (0, 0)) := by
   funext x
   unfold Hp.set
   by_cases e : x = b
   ·subst e; simp [hb]
   ·simp [e]
  refine Ajt (P := P) hu hs hz hzc hi hby hby0 (H₀ := fun x => if x = b then none else H x) (H := H) (n := cs.length) (cs := cs) (.inr ⟨b, c, cap, hD, hH, rfl, by omega, by omega, hcap, hget⟩) (Hp.le_set hg) (by simp) (fun _ => hg) hws h1w (by omega) ty cb K E (fun v' H1 H2 hr hl => ?_)
  have hkeep : ∀ x u, x ≠ b -> H x = some u -> H2 x = some u := fun x u hn hx => hl _ _ (hr.le _ _ (by simp only [hn, if_false]; exact hx))
  rcases hr with ⟨_, hn0, _⟩ | ⟨b', c', cap', hb', rfl, rfl, hs', hl', hn', hg'⟩
  ·simp at hn0
  ·have hb2 : H2 b' = some (true, .cells c' e (0, 0)) := hl _ _ (by rw [Axo, if_pos rfl])
   have hb'0 : H₀ b' = none := by
    by_cases e : b' = b
    ·rw [e]; exact hb0
    ·simp only [e, if_false] at hb'; exact hlex.gone hb'
   refine h' _ H2 ⟨fun x u hx => ?_, .inr ⟨b', c', cap', hb'0, hb2, by simp, by omega, by simpa using hn', hg'⟩⟩ (fun x p o hx ho => hkeep x _ (fun e => ?_) hx)
   ·obtain ⟨u', hu', e'⟩ := hlex x u hx
    exact ⟨u', hkeep x u' (fun e => by rw [e, hb0] at hx; cases hx) hu', e'⟩
   ·rw [e, hb] at hx
    simp only [Option.some.injEq, Prod.mk.injEq] at hx
    rcases ho with ho | ho
    ·rw [ho] at hx; cases hx.1
    ·exact ho c (0, 0) hx.2.symm
theorem Other.cells {H H' : Hp} {e e' : TypeId} (h : Other e H H') {x : Nat} {p : Bool} {c : Array Value} {fr : Nat × Nat} (hx : H x = some (p, .cells c e' fr)) (he : e' ≠ e) : H' x = some (p, .cells c e' fr) :=
 h x _ _ hx (.inr fun c' fr' e'' => by simp only [Obj.cells.injEq] at e''; exact he e''.2.1)
theorem RowX.ints {t : Option Nat} {H₀ H : Hp} {v : Value} {xs : List Int} (h : RowX t H₀ H v 3 (ints xs)) : SlI H v xs := by
 rcases h.2 with ⟨rfl, hx⟩ | ⟨b, c, cap, _, hb, rfl, hc, hle, hget⟩
 ·have : xs = [] := by simpa [Go.Proofs.YtnfnaehonkbknaaGreatDoor.ints] using hx
  subst this
  exact SlI.nil _ _ _
 ·rw [Aqz] at hle ⊢
  exact ⟨_, cap, rfl, hle, fun i x hi => ⟨b, 0, true, c, (0, 0), rfl, hb, by rw [Nat.zero_add]; exact hget i _ (Akg hi)⟩⟩
def SlR (H : Hp) (v : Value) (xss : List (List Int)) : Prop :=
 ∃ (a : Option Addr) (cap : Nat), v = .slice a xss.length cap /\ xss.length <= cap /\ ∀ (i : Nat) (xs : List Int), xss[i]? = some xs -> ∃ (b o : Nat) (p : Bool) (c : Array Value) (fr : Nat × Nat) (w : Value), a = some ⟨b, o, none⟩ /\ H b = some (p, .cells c 22 fr) /\ c[o + i]? = some w /\ SlI H w xs
def Rows (H : Hp) (vs : List Value) (xss : List (List Int)) : Prop := vs.length = xss.length /\ ∀ (i : Nat) (xs : List Int), xss[i]? = some xs -> ∃ w, vs[i]? = some w /\ SlI H w xs
theorem Rows.mono {H H' : Hp} {vs : List Value} {xss : List (List Int)} (h : Rows H vs xss) (hl : ∀ v xs, SlI H v xs -> SlI H' v xs) : Rows H' vs xss :=
 ⟨h.1, fun i xs hi => by obtain ⟨w, h1, h2⟩ := h.2 i xs hi; exact ⟨w, h1, hl _ _ h2⟩⟩
theorem Rows.snoc {H : Hp} {vs : List Value} {xss : List (List Int)} (h : Rows H vs xss) {w : Value} {xs : List Int} (hw : SlI H w xs) : Rows H (vs ++ [w]) (xss ++ [xs]) := by
 refine ⟨by simp [h.1], fun i ys hi => ?_⟩
 by_cases hlt : i < xss.length
 ·rw [List.getElem?_append_left hlt] at hi
  obtain ⟨w', h1, h2⟩ := h.2 i ys hi
  exact ⟨w', by rw [List.getElem?_append_left (by rw [h.1]; exact hlt)]; exact h1, h2⟩
 ·rw [List.getElem?_append_right (by omega)] at hi
  have : i - xss.length = 0 := by
   have := (List.getElem?_eq_some_iff.1 hi).1
   simp at this; omega
  rw [this] at hi
  simp at hi
  subst hi
  exact ⟨w, by rw [List.getElem?_append_right (by rw [h.1]; omega), h.1, this]; rfl, hw⟩
theorem RowX.rows {t : Option Nat} {H₀ H : Hp} {v : Value} {vs : List Value} {xss : List (List Int)} (h : RowX t H₀ H v 22 vs) (hr : Rows H vs xss) : SlR H v xss := by
 rcases h.2 with ⟨rfl, rfl⟩ | ⟨b, c, cap, _, hb, rfl, hc, hle, hget⟩
 ·have : xss = [] := by have := hr.1; simp at this; exact List.eq_nil_of_length_eq_zero this.symm
  subst this
  exact ⟨_, _, rfl, Nat.zero_le _, fun i xs hi => by simp at hi⟩
 ·refine ⟨_, cap, by rw [hr.1], by rw [<- hr.1]; exact hle, fun i xs hi => ?_⟩
  obtain ⟨w, h1, h2⟩ := hr.2 i xs hi
  exact ⟨b, 0, true, c, (0, 0), w, rfl, hb, by rw [Nat.zero_add]; exact hget i w h1, h2⟩
theorem SlI.move {H H' : Hp} {v : Value} {xs : List Int} (h : SlI H v xs) (hl : ∀ x p c fr, H x = some (p, .cells c 3 fr) -> H' x = some (p, .cells c 3 fr)) : SlI H' v xs := by
 obtain ⟨a, cap, hv, hc, h⟩ := h
 refine ⟨a, cap, hv, hc, fun i x hi => ?_⟩
 obtain ⟨b, o, p, c, fr, ha, hb, hx⟩ := h i x hi
 exact ⟨b, o, p, c, fr, ha, hl _ _ _ _ hb, hx⟩
theorem SlR.move {H H' : Hp} {v : Value} {xss : List (List Int)} (h : SlR H v xss) (hl : ∀ x p c fr e, (e = 3 ∨ e = 22) -> H x = some (p, .cells c e fr) -> H' x = some (p, .cells c e fr)) : SlR H' v xss := by
 obtain ⟨a, cap, hv, hc, h⟩ := h
 refine ⟨a, cap, hv, hc, fun i x hi => ?_⟩
 obtain ⟨b, o, p, c, fr, w, ha, hb, hx, hs⟩ := h i x hi
 exact ⟨b, o, p, c, fr, w, ha, hl _ _ _ _ _ (.inr rfl) hb, hx, hs.move fun _ _ _ _ h => hl _ _ _ _ _ (.inl rfl) h⟩
theorem SlR.le {H H' : Hp} {v : Value} {xss : List (List Int)} (h : SlR H v xss) (hl : H.le H') : SlR H' v xss := h.move fun _ _ _ _ _ _ hx => hl _ _ hx
end Go.Proofs.YtnfnaehonkbknaaGreatDoor
end
section
namespace Go.Proofs.YtnfnaehonkbknaaGreatDoor
open Go Go.X Go.Proofs.Tryz
theorem Bva {t : Option Nat} {H₀ H : Hp} {v : Value} {xs : List Int} (h : RowX t H₀ H v 3 (ints xs)) {g : Nat} {x : Int} (hg : H g = none) (hn : xs.length <= 1000000) (ty : TypeId) (cb : Array Bool) (K : Next -> Hp -> Prop) (E : Value -> Hp -> Prop)
  (h' : ∀ v' H', RowX t H₀ H' v' 3 (ints (xs ++ [x])) -> Other 3 H H' -> K (.value v') H') :
  wpS Tryz.prog (builtin .append #[22, 22] ty cb #[v, .slice (some ⟨g, 0, none⟩) 1 1]) (H.set g (.cells #[.int .i64 x] 3 (0, 0))) K E :=
 Bkb underlying22 sizeOf3 zeroValue3 rfl typeInfo3 (by decide) (by decide) h hg rfl (by rw [Aqz]; exact hn) ty cb K E fun v' H' hr ho => h' v' H' (by rw [Cz4]; exact hr) ho
theorem Dqh {t : Option Nat} {H₀ H : Hp} {v : Value} {vs : List Value} (h : RowX t H₀ H v 22 vs) {g : Nat} {w : Value} (hw : one w = true) (hg : H g = none) (hn : vs.length <= 1000000) (ty : TypeId) (cb : Array Bool) (K : Next -> Hp -> Prop) (E : Value -> Hp -> Prop)
  (h' : ∀ v' H', RowX t H₀ H' v' 22 (vs ++ [w]) -> Other 22 H H' -> K (.value v') H') :
  wpS Tryz.prog (builtin .append #[81, 81] ty cb #[v, .slice (some ⟨g, 0, none⟩) 1 1]) (H.set g (.cells #[w] 22 (0, 0))) K E :=
 Bkb underlying81 sizeOf22 zeroValue22 rfl typeInfo22 (by decide) (by decide) h hg hw hn ty cb K E h'
theorem TinI.le {H H' : Hp} {b k : Nat} (h : TinI H b k) (hl : H.le H') : TinI H' b k := by
 obtain ⟨sa, sl, sc, g, st, h1, h2, h3, h4⟩ := h
 refine ⟨sa, sl, sc, g, st, hl _ _ h1, h2, h3, fun i hi => ?_⟩
 obtain ⟨sb, so, c, e, fr, x, ha, hs, hx⟩ := h4 i hi
 exact ⟨sb, so, c, e, fr, x, ha, hl _ _ hs, hx⟩
theorem TinI.notI {H : Hp} {b k : Nat} (h : TinI H b k) {e : TypeId} (he : e ≠ 80) : ∀ b', some b = some b' -> ∀ p c fr, H b' ≠ some (p, .cells c e fr) := fun b' hb' p c fr hx => by
 cases hb'
 obtain ⟨_, _, _, _, _, hb2, _⟩ := h
 rw [hb2] at hx
 simp only [Option.some.injEq, Prod.mk.injEq, Obj.cells.injEq] at hx
 exact he hx.2.2.1.symm
end Go.Proofs.YtnfnaehonkbknaaGreatDoor
end
section
namespace Go.Proofs.YtnfnaehonkbknaaGreatDoor
open Go Go.X Go.Proofs.Tryz
def Dww := @Bwx
def drop (H : Hp) (b : Nat) : Hp := fun x => if x = b then none else H x
section
variable {H H' : Hp} {sv : Value} {start : List Int} {cv : Value} {xss : List (List Int)} {tv : Value} {ts : List Int}
end
theorem newTin_spec (m : Md) (H : Hp) (sa : Option Addr) (sl sc : Nat) (hs : ∀ i : Nat, i < sl -> ∃ sb so c e fr x, sa = some ⟨sb, so, none⟩ /\ H sb = some (false, .cells c e fr) /\ c[so + i]? = some (.int .i64 x)) (k : Nat) (hk : k <= 4611686018427387904) :
  FnX Tryz.prog m 8 #[.slice sa sl sc] H fun e H' => ∃ b, e = .returned (.pointer (some ⟨b, 0, none⟩)) /\ H.le H' /\ TinI H' b k := by
 refine Aql func8 rfl ntmps8 (by simp) ?_
 (refine @unH _ ?_; refine z1 @Dww ?_)
 (refine @unH _ ?_; refine z8 @Dww ?_; (try clear hK K); intro K hK _)
 intro b hb
 refine hK _ _ ?_; clear hK K
 (refine @unH _ ?_; refine z9 results8 ?_)
 refine ⟨b, rfl, Hp.le_set hb, sa, sl, sc, 0, _, Axf, by omega, by omega, fun i hi => ?_⟩
 obtain ⟨sb, so, c, e, fr, x, h1, h2, h3⟩ := hs i hi
 exact ⟨sb, so, c, e, fr, x, h1, Hp.le_set hb _ _ h2, h3⟩
end Go.Proofs.YtnfnaehonkbknaaGreatDoor
end
section
namespace Go.Proofs.YtnfnaehonkbknaaGreatDoor
open Go Go.X
def Akh (m n : Nat) : Nat := m ||| 2 ^ n
def Dx2 (m n : Nat) : Nat := m &&& (63 - 2 ^ n)
def Dwc (m : Nat) : Nat := (List.range 6).countP fun n => m.testBit n
def Awk (m k : Nat) : List Int := ((List.range k).filter fun n => m.testBit n).map fun n : Nat => (n : Int)
def Bq8 (m : Nat) : List Int := Awk m 6
def oOf (xs : List Int) : Nat := xs.foldl (fun m x => Akh m x.toNat) 0
theorem By3 : ∀ m : Fin 64, ∀ n : Fin 6, bitv (fun x a b => a ||| b) IntKind.u8 (m.val : Int) (IntKind.u8.wrap (1 * 2 ^ min (n.val : Int).toNat IntKind.u8.bits)) = (Akh m.val (n.val : Int).toNat : Nat) /\ Akh m.val (n.val : Int).toNat < 64 := by decide +kernel
theorem Cws {m : Nat} {n : Int} (hm : m < 64) (h0 : 0 <= n) (h1 : n < 6) : ∃ (a : Fin 64) (b : Fin 6), a.val = m /\ (b.val : Int) = n := ⟨⟨m, hm⟩, ⟨n.toNat, by omega⟩, rfl, by simp; omega⟩
theorem Bvy {m : Nat} {n : Int} (hm : m < 64) (h0 : 0 <= n) (h1 : n < 6) : Akh m n.toNat < 64 := by
 obtain ⟨a, b, rfl, rfl⟩ := Cws hm h0 h1
 exact (By3 a b).2
theorem Ajv (m k : Nat) : Awk m (k + 1) = Awk m k ++ if m.testBit k then [(k : Int)] else [] := by
 unfold Awk
 rw [List.range_succ, List.filter_append, List.map_append]
 congr 1
 by_cases h : m.testBit k <;> simp [h]
theorem Bkq (m k : Nat) : (Awk m k).length <= k := by
 unfold Awk
 rw [List.length_map]
 exact Nat.le_trans (List.length_filter_le _ _) (by simp)
theorem Cw6 : ∀ (xs : List Int) (m : Nat), m < 64 -> (∀ x ∈ xs, 0 <= x /\ x < 6) -> xs.foldl (fun m x => Akh m x.toNat) m < 64
 | [], m, hm, _ => hm
 | x :: xs, m, hm, h => Cw6 xs _ (Bvy hm (h x List.mem_cons_self).1 (h x List.mem_cons_self).2) fun y hy => h y (List.mem_cons_of_mem _ hy)
end Go.Proofs.YtnfnaehonkbknaaGreatDoor
end
section
namespace Go.X
open Go
section
variable {P : Program} {H : Hp}
theorem Ajm {t : TypeId} {k : IntKind} (hu : P.underlying t = some (.int k)) (d : Nat) (j : IntKind) (a b : Int) (K : Bool -> Hp -> Prop) (E : Value -> Hp -> Prop) : wpS P (Op.equalIn (d + 1) t (.int j a) (.int j b)) H K E = K (a == b) H := by
 unfold Op.equalIn
 simp only [Aqa, Aqj hu, if_true, Aqe]
theorem Ak0 {α : Type} (x : α) (K : α -> Hp -> Prop) (E : Value -> Hp -> Prop) : wpS P (Sem.pure x) H K E = K x H := rfl
theorem Ajy (K : Program -> Hp -> Prop) (E : Value -> Hp -> Prop) : wpS P program H K E = K P H := rfl
structure Key2 (P : Program) (ks : TypeId) (k1 k2 : IntKind) : Prop where
 ex : ∃ f1 f2 : Field, P.underlying ks = some (.struct #[f1, f2]) /\ f1.name ≠ "_" /\ f2.name ≠ "_" /\ f1.offset = 0 /\ f2.offset = 1 /\ (∃ d, P.underlying f1.type = some (.int d)) /\ (∃ d, P.underlying f2.type = some (.int d))
 held : P.stoodInHeld ks = false
theorem Bw6 {ks : TypeId} {k1 k2 : IntKind} (h : Key2 P ks k1 k2) (a b c d : Int) (K : Bool -> Hp -> Prop) (E : Value -> Hp -> Prop) :
  wpS P (Op.equal ks (.agg #[.int k1 a, .int k2 b]) (.agg #[.int k1 c, .int k2 d])) H K E = K (a == c && b == d) H := by
 obtain ⟨⟨f1, f2, hu, hn1, hn2, ho1, ho2, ⟨d1, h1⟩, ⟨d2, h2⟩⟩, hh⟩ := h
 unfold Op.equal Op.maxDepth
 rw [show (10000 : Nat) = 9998 + 1 + 1 from rfl]
 unfold Op.equalIn
 simp only [Aqa, Aqj hu, Ajy, hh, Bool.false_eq_true, if_false, Aqe, List.forIn_toArray, List.forIn_cons, List.forIn_nil, hn1, hn2, ne_eq, not_false_eq_true, if_true]
 rw [Aqn h1 rfl (v := .int k1 a) _ _ (by simp [ho1])]
 rw [Aqn h1 rfl (v := .int k1 c) _ _ (by simp [ho1]), show (9999 : Nat) = 9998 + 1 from rfl, Ajm h1]
 cases a == c
 ·simp only [Bool.not_false, if_true, Aqe, Bool.false_and]
 ·simp only [Bool.not_true, Bool.false_eq_true, if_false, Aqe, Bool.true_and, Aqa]
  rw [Aqn h2 rfl (v := .int k2 b) _ _ (by simp [ho2]), Aqn h2 rfl (v := .int k2 d) _ _ (by simp [ho2]), Ajm h2]
  cases b == d
  ·simp only [Bool.not_false, if_true, Aqe]
  ·simp only [Bool.not_true, Bool.false_eq_true, if_false, Aqe]
theorem Bxs {t : TypeId} {k : IntKind} (hu : P.underlying t = some (.int k)) (em : Bool) (n : Nat) (v : Value) (K : Unit -> Hp -> Prop) (E : Value -> Hp -> Prop) : wpS P (Instr.checkKey em (n + 1) t v) H K E = K () H := by
 unfold Instr.checkKey
 rw [Aqa, Aqj hu]
 rfl
end
end Go.X
end
section
namespace Go.Proofs.YtnfnaehonkbknaaGreatDoor
open Go Go.X
def Dyc (m : Nat) (sent : Int) (t : Int) : Nat := Akh (if 0 <= sent then Dx2 m sent.toNat else m) t.toNat
theorem Cw5 {m : Nat} {x : Int} (h : x ∈ Bq8 m) : 0 <= x /\ x < 6 /\ m.testBit x.toNat = true := by
 simp only [Bq8, Awk, List.mem_map, List.mem_filter, List.mem_range] at h
 obtain ⟨n, ⟨h1, h2⟩, rfl⟩ := h
 exact ⟨by omega, by omega, by simpa using h2⟩
end Go.Proofs.YtnfnaehonkbknaaGreatDoor
end
section
namespace Go.X
open Go
section
variable {P : Program} {main : Md} {lp : Option Nat} {Q : Exit -> Act -> Hp -> Prop} {a : Act} {H : Hp}
def Cv3 (q : Option (Bool × Obj)) (o : Nat) : Option Value := match q with
 | some (_, .cells c _ _) => c[o]?
 | _ => none
theorem Dvt {b o : Nat} : H.cell ⟨b, o, none⟩ = Cv3 (H b) o := by
 unfold Hp.cell Cv3
 simp
 rfl
theorem Cjv {p : Bool} {c : Array Value} {e : TypeId} {f : Nat × Nat} {o : Nat} : Cv3 (some (p, .cells c e f)) o = c[o]? := rfl
def Cyr (q : Option (Bool × Obj)) (H : Hp) (b o : Nat) (v : Value) (K : Hp -> Prop) : Prop := match q with
 | some (true, .cells c e (lo, hi)) => o < c.size /\ (decide (lo <= o) && decide (o < hi)) = false /\ K (H.set b (.cells (c.setIfInBounds o v) e (lo, hi)))
 | _ => False
theorem Dwq {b o : Nat} {v : Value} {K : Hp -> Prop} : stor H b o v K = Cyr (H b) H b o v K := rfl
theorem Ck2 {c : Array Value} {e : TypeId} {b o : Nat} {v : Value} {K : Hp -> Prop} : Cyr (some (true, .cells c e (0, 0))) H b o v K = (o < c.size /\ K (H.set b (.cells (c.setIfInBounds o v) e (0, 0)))) := by
 simp [Cyr]
def Cz6 (q : Option (Bool × Obj)) (o n : Nat) (K : Value -> Prop) : Prop := match q with
 | some (_, .cells c _ _) => o + n <= c.size /\ K (.agg (c.extract o (o + n)))
 | _ => False
theorem Dkz {b o n : Nat} {K : Value -> Prop} : Bq6 H b o n K = Cz6 (H b) o n K := rfl
theorem Cq7 {p : Bool} {c : Array Value} {e : TypeId} {f : Nat × Nat} {o n : Nat} {K : Value -> Prop} : Cz6 (some (p, .cells c e f)) o n K = (o + n <= c.size /\ K (.agg (c.extract o (o + n)))) := rfl
def Bxf (q : Option (Bool × Obj)) (H : Hp) (b o : Nat) (vs : List Value) (K : Hp -> Prop) : Prop := match q with
 | some (true, .cells c e f) => if f = (0, 0) then (vs.all one) = true /\ o + vs.length <= c.size /\ K (H.set b (.cells (over c o vs) e (0, 0))) else Akw H b o vs K
 | _ => Akw H b o vs K
theorem Dk9 {b o : Nat} {v : Value} {vs : List Value} {K : Hp -> Prop} : Akw H b o (v :: vs) K = Bxf (H b) H b o (v :: vs) K := by
 rcases hb : H b with _ | ⟨p, ob⟩
 ·rfl
 ·cases p
  ·rfl
  ·cases ob <;> try rfl
   rename_i c e f
   simp only [Bxf]
   split
   ·rename_i hf; subst hf; rw [Dzi hb]
   ·rfl
theorem Cxw {c : Array Value} {e : TypeId} {b o : Nat} {vs : List Value} {K : Hp -> Prop} : Bxf (some (true, .cells c e (0, 0))) H b o vs K = ((vs.all one) = true /\ o + vs.length <= c.size /\ K (H.set b (.cells (over c o vs) e (0, 0)))) := by
 simp [Bxf]
@[congr] theorem storLK_congr {q q' : Option (Bool × Obj)} {H' : Hp} {b o b' o' : Nat} {vs vs' : List Value} {K : Hp -> Prop} (hq : q = q') (hH : H = H') (hb : b = b') (ho : o = o') (hv : vs = vs') : Bxf q H b o vs K = Bxf q' H' b' o' vs' K := by subst hq hH hb ho hv; rfl
@[congr] theorem storK_congr {q q' : Option (Bool × Obj)} {H' : Hp} {b o b' o' : Nat} {v v' : Value} {K : Hp -> Prop} (hq : q = q') (hH : H = H') (hb : b = b') (ho : o = o') (hv : v = v') : Cyr q H b o v K = Cyr q' H' b' o' v' K := by subst hq hH hb ho hv; rfl
@[congr] theorem loadAK_congr {q q' : Option (Bool × Obj)} {o n : Nat} {o' : Nat} {K : Value -> Prop} (hq : q = q') (ho : o = o') : Cz6 q o n K = Cz6 q' o' n K := by subst hq ho; rfl
theorem Dk6 {b x : Nat} {o : Obj} : (H.set b o) x = if x = b then some (true, o) else H x := rfl
theorem Dyb {x y : Nat} (h : x < y) : (x < y) = True := by simp [h]
theorem Dya {x y : Nat} (h : x <= y) : (x <= y) = True := by simp [h]
theorem Dvx {x y : Int} (h : x < y) : decide (x < y) = true := decide_eq_true h
theorem Dvw {x y : Int} (h : y <= x) : decide (x < y) = false := decide_eq_false (by omega)
theorem Dvv {x y : Int} (h : x <= y) : decide (x <= y) = true := decide_eq_true h
theorem Dvu {x y : Int} (h : y < x) : decide (x <= y) = false := decide_eq_false (by omega)
theorem Dvo {x y : Int} (h : x = y) : (x == y) = true := by simp [h]
theorem Dvn {x y : Int} (h : x ≠ y) : (x == y) = false := by simp [h]
theorem Dvr {x y : Int} (h : x ≠ y) : (x != y) = true := by simp [h]
theorem Dvq {x y : Int} (h : x = y) : (x != y) = false := by simp [h]
theorem Ck5 (n : Nat) : ((n : Int)).toNat = n := rfl
theorem Dyl {next : Act -> Hp -> Prop} : thn next Q .normal a H = next a H := rfl
theorem Dyj {next : Act -> Hp -> Prop} {i : Nat} : thn next Q (.exit i) a H = Q (.exit i) a H := rfl
theorem Dyk {next : Act -> Hp -> Prop} {i : Nat} : thn next Q (.goto i) a H = Q (.goto i) a H := rfl
theorem Dym {next : Act -> Hp -> Prop} : thn next Q .ret a H = Q .ret a H := rfl
theorem Dw5 {id : Nat} : blk id Q .normal a H = Q .normal a H := rfl
theorem Dw3 {id i : Nat} : blk id Q (.exit i) a H = if i = id then Q .normal a H else Q (.exit i) a H := rfl
theorem Dw4 {id i : Nat} : blk id Q (.goto i) a H = Q (.goto i) a H := rfl
theorem Dw6 {id : Nat} : blk id Q .ret a H = Q .ret a H := rfl
def yl (ds : List (Option Tmp)) (tmps : Array Value) (j : Nat) : Option Bool := match ((ds[j]?).bind id).bind (tmps[·]?) with
 | some (.bool b) => some b
 | _ => none
def ylK (q : Option Value) : Option Bool := match q with
 | some (.bool b) => some b
 | _ => none
def Dvb (ds : List (Option Tmp)) (o : Oper) (tmps : Array Value) : Bool := match o.guard with
 | none => true
 | some (j, b) => yl ds tmps j == some b
theorem Dwt {ops : Array Oper} {o : Oper} {tmps : Array Value} : Region.wanted o (yielded ops tmps) = Dvb (ops.toList.map (·.dst)) o tmps := by
 unfold Region.wanted Dvb
 cases o.guard with
 | none => rfl
 | some g =>
  obtain ⟨j, b⟩ := g
  have : yielded ops tmps j = yl (ops.toList.map (·.dst)) tmps j := by
   unfold yielded yl
   simp only [List.getElem?_map, Array.getElem?_toList]
   cases ops[j]? <;> rfl
  simp only [this]
def Dwp (P : Program) (main : Md) (lp : Option Nat) (ds : List (Option Tmp)) (o : Oper) (Q : Exit -> Act -> Hp -> Prop) (K : Act -> Hp -> Prop) (a : Act) (H : Hp) : Prop :=
 if Dvb ds o a.tmps then fine lp o = true /\ opX P main lp o a H K Q else K (a.put o.dst undef) H
def runL (P : Program) (main : Md) (lp : Option Nat) (ds : List (Option Tmp)) (Q : Exit -> Act -> Hp -> Prop) : List Oper -> Act -> Hp -> Prop
 | [], a, H => Q .normal a H
 | o :: rest, a, H => Dwp P main lp ds o Q (runL P main lp ds Q rest) a H
theorem Aya {ops : Array Oper} : ∀ (rest : List Oper) (k : Nat) (a : Act) (H : Hp), ops.toList.drop k = rest -> runL P main lp (ops.toList.map (·.dst)) Q rest a H -> runX P main lp ops Q (List.range' k rest.length) a H
 | [], _, _, _, _, h => h
 | o :: rest, k, a, H, hd, h => by
  simp only [List.length_cons, List.range'_succ]
  unfold runX numX
  have hk : ops[k]? = some o := by
   have := congrArg (·[0]?) hd
   simpa using this
  rw [hk]
  simp only []
  rw [Dwt]
  have hd' : ops.toList.drop (k + 1) = rest := by rw [<- List.drop_drop, hd]; rfl
  unfold runL Dwp at h
  split
  ·rename_i hw
   rw [if_pos hw] at h
   exact ⟨h.1, Aw8 h.2 fun a' H' h' => Aya rest (k + 1) a' H' hd' h'⟩
  ·rename_i hw
   rw [if_neg hw] at h
   exact Aya rest (k + 1) _ _ hd' h
theorem Bv5 {ops : List Oper} {ds : List (Option Tmp)} (hds : ops.map (·.dst) = ds) (h : runL P main lp ds Q ops a H) : runX P main lp ops.toArray Q (List.range ops.toArray.size) a H := by
 subst hds
 rw [List.range_eq_range']
 have := Aya (ops := ops.toArray) ops 0 a H (by simp) (by simpa using h)
 simpa using this
theorem Axz {id : Nat} {ops : List Oper} {ds : List (Option Tmp)} {y : Code} (hds : ops.map (·.dst) = ds) (h : ∀ K : Act -> Hp -> Prop, (∀ a' H', wpX P main lp y Q a' H' -> K a' H') -> runL P main lp ds (only K) ops a H) :
 wpX P main lp (.seq (.region id ops.toArray false) y) Q a H := Aye fun K hK => Bv5 hds (h K hK)
theorem Azx {id : Nat} {ops : List Oper} {ds : List (Option Tmp)} (hds : ops.map (·.dst) = ds) (h : ∀ K : Act -> Hp -> Prop, (∀ a' H', Q .normal a' H' -> K a' H') -> runL P main lp ds (only K) ops a H) :
 wpX P main lp (.region id ops.toArray false) Q a H := Bqw fun K hK => Bv5 hds (h K hK)
@[congr] theorem runL_congr {ds : List (Option Tmp)} {l : List Oper} {a a' : Act} {H H' : Hp} (ha : a = a') (hH : H = H') : runL P main lp ds Q l a H = runL P main lp ds Q l a' H' := by subst ha hH; rfl
def Cq3 (q : Option Bool) (b : Bool) (x y : Prop) : Prop := if q == some b then x else y
@[congr] theorem gateL_congr {q q' : Option Bool} {b b' : Bool} {x y : Prop} (hq : q = q') (hb : b = b') : Cq3 q b x y = Cq3 q' b' x y := by subst hq hb; rfl
theorem Dxm {x y : Prop} : Cq3 (some true) true x y = x := rfl
theorem Dxj {x y : Prop} : Cq3 (some false) false x y = x := rfl
theorem Dxl {x y : Prop} : Cq3 (some true) false x y = y := rfl
theorem Dxk {x y : Prop} : Cq3 (some false) true x y = y := rfl
theorem Dyn {ds : List (Option Tmp)} {tmps : Array Value} {j : Nat} : yl ds tmps j = ylK (((ds[j]?).bind id).bind (tmps[·]?)) := rfl
theorem Bwm {b : Bool} : ylK (some (.bool b)) = some b := rfl
theorem Dwa {t : Option Tmp} : id t = t := rfl
theorem Azw {c : Operand} {x y : Code} {t : Bool} (ht : a.eval c = .bool t) (h1 : t = true -> wpX P main lp x Q a H) (h2 : t = false -> wpX P main lp y Q a H) : wpX P main lp (.cond c x y) Q a H := by
 refine Av2 ht ?_
 cases t
 ·exact h2 rfl
 ·exact h1 rfl
theorem Dza {ds : List (Option Tmp)} : runL P main lp ds Q [] a H = Q .normal a H := rfl
theorem Dzb {ds : List (Option Tmp)} {d : Option Tmp} {op : Op} {ty : TypeId} {pos : String} {af : Array Edge} {rest : List Oper} :
 runL P main lp ds Q (⟨d, op, ty, pos, af, none⟩ :: rest) a H = (fine lp ⟨d, op, ty, pos, af, none⟩ = true /\ opX P main lp ⟨d, op, ty, pos, af, none⟩ a H (runL P main lp ds Q rest) Q) := rfl
theorem Dwg {ds : List (Option Tmp)} {d : Option Tmp} {op : Op} {ty : TypeId} {pos : String} {af : Array Edge} {j : Nat} {b : Bool} {rest : List Oper} :
 runL P main lp ds Q (⟨d, op, ty, pos, af, some (j, b)⟩ :: rest) a H = Cq3 (yl ds a.tmps j) b (fine lp ⟨d, op, ty, pos, af, some (j, b)⟩ = true /\ opX P main lp ⟨d, op, ty, pos, af, some (j, b)⟩ a H (runL P main lp ds Q rest) Q) (runL P main lp ds Q rest (a.put d undef) H) := rfl
end
end Go.X
end
section
namespace Go.X
open Go
open Go.Conc (G base)
section
variable {P : Program} {main : Md} {lp : Option Nat} {Q : Exit -> Act -> Hp -> Prop} {a : Act} {H : Hp}
def scp (c : Code) (I : Nat -> Act -> Hp -> Prop) (Q : Exit -> Act -> Hp -> Prop) : Exit -> Act -> Hp -> Prop
 | .normal, a, H => Q .normal a H
 | .exit id, a, H => Q (.exit id) a H
 | .goto l, a, H => if (findLabel c l).isSome then I l a H else Q (.goto l) a H
 | .ret, a, H => Q .ret a H
 | .panic ch, a, H => Q (.panic ch) a H
 | .outgrown, _, _ => False
theorem Dyg {c : Code} {I : Nat -> Act -> Hp -> Prop} : scp c I Q .normal a H = Q .normal a H := rfl
theorem Dyf {c : Code} {I : Nat -> Act -> Hp -> Prop} {i : Nat} : scp c I Q (.exit i) a H = Q (.exit i) a H := rfl
theorem Dyh {c : Code} {I : Nat -> Act -> Hp -> Prop} : scp c I Q .ret a H = Q .ret a H := rfl
theorem By6 {c : Code} (I : Nat -> Nat -> Act -> Hp -> Prop) (h : wpX P main lp c (scp c (fun l a H => ∃ n, I l n a H) Q) a H)
  (hr : ∀ l rest n a H, findLabel c l = some rest -> I l n a H -> wpX P main lp rest (scp c (fun l a H => ∃ n', n' < n /\ I l n' a H) Q) a H) : wpX P main lp (.scope c) Q a H := by
 intro b k cs Stop hk hl hc
 have key : ∀ n l rest a H, findLabel c l = some rest -> I l n a H -> WPG P main Stop (G (fat b a (.code rest :: .inScope c :: k)) cs) H := by
  intro n
  induction n using Nat.strongRecOn with
  | _ n ih =>
  intro l rest a H hf hI
  refine hr l rest n a H hf hI b (.inScope c :: k) cs Stop hk hl fun e a' H' q => ?_
  cases e with
  | normal => exact .ctl (g' := G (fat b a' k) cs) rfl (fun w => by simp [G, stepG, stepG.exec, fat]) (hc _ _ _ q)
  | exit id => exact fun k' hk' => hc _ _ _ q k' (hk'.trans (by simp [exitTo]))
  | goto l' =>
   simp only [scp] at q
   split at q
   ·rename_i hs
    obtain ⟨n', hlt, hI'⟩ := q
    obtain ⟨rest', hf'⟩ := Option.isSome_iff_exists.1 hs
    intro k' hk'
    have hx : gotoIn l' k' = some (.code rest' :: .inScope c :: k) := hk'.trans (by simp [gotoIn, hf'])
    exact .ctl (g' := G (fat b a' (.code rest' :: .inScope c :: k)) cs) rfl (fun w => by simp [G, stepG, stepG.exec, fat, hx]) (ih n' hlt l' rest' a' H' hf' hI')
   ·rename_i hs
    have hn : findLabel c l' = none := by simpa using hs
    exact fun k' hk' => hc _ _ _ q k' (hk'.trans (by simp [gotoIn, hn]))
  | ret => exact hc _ _ _ q
  | panic ch => exact hc _ _ _ q
  | outgrown => exact q.elim
 refine .ctl (g' := G (fat b a (.code c :: .inScope c :: k)) cs) rfl (fun w => by simp [G, stepG, stepG.exec, fat]) ?_
 refine h b (.inScope c :: k) cs Stop hk hl fun e a' H' q => ?_
 cases e with
 | normal => exact .ctl (g' := G (fat b a' k) cs) rfl (fun w => by simp [G, stepG, stepG.exec, fat]) (hc _ _ _ q)
 | exit id => exact fun k' hk' => hc _ _ _ q k' (hk'.trans (by simp [exitTo]))
 | goto l' =>
  simp only [scp] at q
  split at q
  ·rename_i hs
   obtain ⟨n', hI'⟩ := q
   obtain ⟨rest', hf'⟩ := Option.isSome_iff_exists.1 hs
   intro k' hk'
   have hx : gotoIn l' k' = some (.code rest' :: .inScope c :: k) := hk'.trans (by simp [gotoIn, hf'])
   exact .ctl (g' := G (fat b a' (.code rest' :: .inScope c :: k)) cs) rfl (fun w => by simp [G, stepG, stepG.exec, fat, hx]) (key n' l' rest' a' H' hf' hI')
  ·rename_i hs
   have hn : findLabel c l' = none := by simpa using hs
   exact fun k' hk' => hc _ _ _ q k' (hk'.trans (by simp [gotoIn, hn]))
 | ret => exact hc _ _ _ q
 | panic ch => exact hc _ _ _ q
 | outgrown => exact q.elim
def scp0 (Q : Exit -> Act -> Hp -> Prop) : Exit -> Act -> Hp -> Prop
 | .normal, a, H => Q .normal a H
 | .exit id, a, H => Q (.exit id) a H
 | .goto _, _, _ => False
 | .ret, a, H => Q .ret a H
 | .panic ch, a, H => Q (.panic ch) a H
 | .outgrown, _, _ => False
theorem Dwi : scp0 Q .normal a H = Q .normal a H := rfl
theorem Dwh {i : Nat} : scp0 Q (.exit i) a H = Q (.exit i) a H := rfl
theorem Dwj : scp0 Q .ret a H = Q .ret a H := rfl
theorem Azy {c : Code} (h : wpX P main lp c (scp0 Q) a H) : wpX P main lp (.scope c) Q a H := by
 refine By6 (fun _ _ _ _ => False) (Az7 h fun e a H q => ?_) fun _ _ _ _ _ _ h => h.elim
 cases e <;> first | exact q | exact q.elim
end
def aq := And.intro @Dza (And.intro @Dxm (And.intro @Dxj (And.intro @Dxl (And.intro @Dxk (And.intro @Dyn (And.intro @Bwm (And.intro @Dwa (And.intro @Dvt (And.intro @Cjv (And.intro @Dwq (And.intro @Ck2 (And.intro @Dkz (And.intro @Cq7 (And.intro @Bjl (And.intro @Dk9 (And.intro @Cxw (And.intro @Awp (And.intro @Dk6 (And.intro @Ck5 (And.intro @Nat.mul_one (And.intro @true_and (And.intro @and_true (And.intro @decide_true (And.intro @decide_false (And.intro @Dyb (And.intro @Dya (And.intro @Dvx (And.intro @Dvw (And.intro @Dvv (And.intro @Dvu (And.intro @Dvo (And.intro @Dvn (And.intro @Dvr (And.intro @Dvq (And.intro @Bool.not_true @Bool.not_false)))))))))))))))))))))))))))))))))))
def ap := And.intro @Dzb @Dwg
def qe0 := @exists_eq_left'
def qe1 := @if_true
def qe2 := @if_false
def qe3 := @beq_iff_eq
def qe4 := @beq_eq_false_iff_ne
def qe5 := @bne_iff_ne
def qe6 := @bne_eq_false_iff_eq
def bq := And.intro @Dvx (And.intro @Dvw (And.intro @Dvv (And.intro @Dvu (And.intro @Dvo (And.intro @Dvn (And.intro @Dvr (And.intro @Dvq (And.intro @decide_true (And.intro @decide_false (And.intro @Bool.not_true (And.intro @Bool.not_false (And.intro @Bool.false_eq_true (And.intro @Bool.and_self (And.intro @Bool.and_true (And.intro @Bool.and_false (And.intro @Bool.true_and @Bool.false_and))))))))))))))))
def dq := And.intro @decide_eq_true_eq (And.intro @decide_eq_false_iff_not (And.intro @Bool.not_eq_true' (And.intro @Bool.not_eq_false' (And.intro @Int.not_lt @Int.not_le))))
def nq := And.intro @Dyg (And.intro @Dyf (And.intro @Dyh (And.intro @Dwi (And.intro @Dwh (And.intro @Dwj (And.intro @Dyl (And.intro @Dyj (And.intro @Dyk (And.intro @Dym (And.intro @Dw5 (And.intro @Dw3 (And.intro @Dw4 @Dw6))))))))))))
end Go.X
end
section
namespace Go.X
open Go
def ldO (q : Option Value) (K : Value -> Prop) : Prop := ∃ v, q = some v /\ K v
@[congr] theorem ldO_congr {q q' : Option Value} {K : Value -> Prop} (h : q = q') : ldO q K = ldO q' K := by rw [h]
end Go.X
end
section
namespace Go.Proofs.YtnfnaehonkbknaaGreatDoor
open Go Go.X
theorem Bvz (m n k : Nat) : (Akh m n).testBit k = (m.testBit k || decide (n = k)) := by
 unfold Akh
 rw [Nat.testBit_or, Nat.testBit_two_pow]
theorem Bqi : ∀ (xs : List Int) (m : Nat), (∀ x ∈ xs, 0 <= x) -> ∀ y : Int, 0 <= y -> (xs.foldl (fun m x => Akh m x.toNat) m).testBit y.toNat = (m.testBit y.toNat || decide (y ∈ xs))
 | [], m, _, y, _ => by simp
 | x :: xs, m, h, y, hy => by
  rw [List.foldl_cons, Bqi xs _ (fun z hz => h z (List.mem_cons_of_mem _ hz)) y hy, Bvz, Bool.or_assoc]
  congr 1
  have hx := h x List.mem_cons_self
  have : decide (x.toNat = y.toNat) = decide (y = x) := by
   by_cases e : y = x
   ·subst e; simp
   ·rw [decide_eq_false e, decide_eq_false (by omega)]
  rw [this, <- Bool.decide_or]
  simp [List.mem_cons]
theorem Cxc (xs : List Int) (h : ∀ x ∈ xs, 0 <= x) (y : Int) (hy : 0 <= y) : (oOf xs).testBit y.toNat = decide (y ∈ xs) := by
 unfold oOf
 rw [Bqi xs 0 h y hy]
 simp
end Go.Proofs.YtnfnaehonkbknaaGreatDoor
end
