/- Texts Kit Grow Calls Haul. -/
import Derived.Test.YtgniilnljeedlaaGreatDoorJ10
set_option linter.defProp false
set_option linter.unusedSimpArgs false
set_option linter.unusedVariables false
set_option maxRecDepth 100000
set_option maxHeartbeats 2000000
section
namespace Go.Proofs.YtgniilnljeedlaaGreatDoor
open Go Go.X
def Cwj := (fun H => Ay9 (H := H) Tryz.underlying22 Tryz.sizeOf3)
def Bj1 := And.intro (fun H => Aq5 (H := H) Tryz.underlying22) (And.intro (fun H => Aqq (H := H) Tryz.underlying22 Tryz.sizeOf3) (fun H => Aqd (H := H) Tryz.underlying3 rfl))
def Ay0 := And.intro (fun H => Av9 (H := H) Tryz.underlying22 Tryz.sizeOf3 Tryz.zeroValue3 rfl Tryz.typeInfo3 (by decide)) (And.intro @Bxq (And.intro (fun H => Aqq (H := H) Tryz.underlying22 Tryz.sizeOf3) (And.intro (fun H => Aqd (H := H) Tryz.underlying3 rfl) (fun H => Axo (H := H) Tryz.sizeOf3))))
def Lex (b : Option Nat) (H H' : Hp) : Prop := ∀ x v, H x = some v -> ∃ v', H' x = some v' /\ (b ≠ some x -> v' = v)
theorem Lex.refl {b : Option Nat} {H : Hp} : Lex b H H := fun _ v h => ⟨v, h, fun _ => rfl⟩
theorem Lex.trans {b : Option Nat} {H H' H'' : Hp} (h : Lex b H H') (h' : Lex b H' H'') : Lex b H H'' := fun x v hx => by
 obtain ⟨v1, h1, e1⟩ := h x v hx
 obtain ⟨v2, h2, e2⟩ := h' x v1 h1
 exact ⟨v2, h2, fun hn => (e2 hn).trans (e1 hn)⟩
theorem Lex.hold {b : Option Nat} {b' : Nat} {H H' : Hp} {v : Bool × Obj} (h : Lex b H H') (hx : H b' = some v) (hn : b ≠ some b') : H' b' = some v := by
 obtain ⟨v', h', e⟩ := h _ _ hx
 rw [h', e hn]
theorem Lex.keeps {b b' : Nat} {H H' : Hp} {v : Bool × Obj} (h : Lex (some b) H H') (hx : H b' = some v) (hn : b' ≠ b) : H' b' = some v := h.hold hx (fun e => hn (Option.some.inj e).symm)
theorem Lex.of {b : Option Nat} {H H' : Hp} (h : H.le H') : Lex b H H' := fun x v hx => ⟨v, h _ _ hx, fun _ => rfl⟩
theorem Lex.toLe {H H' : Hp} (h : Lex none H H') : H.le H' := fun _ _ hx => h.hold hx (by simp)
theorem Lex.gone {b : Option Nat} {H H' : Hp} (h : Lex b H H') {x : Nat} (hx : H' x = none) : H x = none := by
 cases e : H x with
 | none => rfl
 | some v => obtain ⟨v', h', _⟩ := h x v e; rw [hx] at h'; cases h'
theorem Lex.set {b : Nat} {H H' : Hp} {o : Obj} (h : Lex (some b) H H') : Lex (some b) H (H'.set b o) := fun x v hx => by
 obtain ⟨v', h', e⟩ := h x v hx
 by_cases hxb : x = b
 ·exact ⟨_, by rw [Axm, if_pos hxb], fun hn => absurd (by rw [hxb]) hn⟩
 ·exact ⟨v', by rw [Axm, if_neg hxb]; exact h', e⟩
theorem Lex.le {b : Option Nat} {H H' H'' : Hp} (h : Lex b H H') (hl : H'.le H'') : Lex b H H'' := h.trans (Lex.of hl)
theorem Lex.new {b : Option Nat} {b' : Nat} {H H' : Hp} {o : Obj} (h : Lex b H H') (hb : H' b' = none) : Lex b H (H'.set b' o) := h.le (Hp.le_set hb)
theorem Lex.own {b : Option Nat} {b' : Nat} {H H' : Hp} {o : Obj} (h : Lex b H H') (hb : H b' = none) : Lex b H (H'.set b' o) := fun x v hx => by
 obtain ⟨v', h', e⟩ := h x v hx
 exact ⟨v', by rw [Axm, if_neg (fun e => by rw [e, hb] at hx; cases hx)]; exact h', e⟩
theorem SlI.lex {H H' : Hp} {v : Value} {xs : List Int} (h : SlI H v xs) {b k : Nat} (hl : Lex (some b) H H') (hT : TinI H b k) : SlI H' v xs := by
 obtain ⟨a, cap, hv, hc, h⟩ := h
 refine ⟨a, cap, hv, hc, fun i x hi => ?_⟩
 obtain ⟨b', o, p, c, fr, ha, hb, hx⟩ := h i x hi
 refine ⟨b', o, p, c, fr, ha, hl.keeps hb (fun e => ?_), hx⟩
 obtain ⟨_, _, _, _, _, hb2, _⟩ := hT
 rw [e, hb2] at hb; cases hb
theorem TinI.ne {H : Hp} {b b' k : Nat} (h : TinI H b k) (hb : H b' = none) : b' ≠ b := fun e => by
 obtain ⟨_, _, _, _, _, hb2, _⟩ := h
 rw [e, hb2] at hb; cases hb
theorem TinI.neI {H : Hp} {b b' k : Nat} {p : Bool} {c : Array Value} {fr : Nat × Nat} (h : TinI H b k) (hb : H b' = some (p, .cells c 3 fr)) : b' ≠ b := fun e => by
 obtain ⟨_, _, _, _, _, hb2, _⟩ := h
 rw [e, hb2] at hb; cases hb
theorem Az7 (xs : List Int) (j : Nat) (x : Int) : (ints xs).set j (.int .i64 x) = ints (xs.set j x) := by
 simp [ints, List.map_set]
theorem ints_at {xs : List Int} {j : Nat} (h : j < xs.length) : (ints xs).toArray[j]? = some (.int .i64 xs[j]) := by
 simp [ints, h]
def Czh (n j : Nat) (xs : List Int) : Prop :=
 xs.length = n /\ (∀ i, i < j -> ∃ x, xs[i]? = some x /\ 0 <= x /\ x < j) /\ ∀ i i' x, i < j -> i' < j -> xs[i]? = some x -> xs[i']? = some x -> i = i'
theorem Czh.step {n j r : Nat} {xs : List Int} (h : Czh n j xs) (hj : j < n) (hr : r <= j) {y : Int} (hy : xs[r]? = some y) : Czh n (j + 1) ((xs.set j y).set r j) := by
 obtain ⟨hl, h1, h2⟩ := h
 have hg : ∀ i, i < j + 1 -> ((xs.set j y).set r (j : Int))[i]? = if i = r then some (j : Int) else if i = j then some y else xs[i]? := by
  intro i hi
  rw [List.getElem?_set, List.getElem?_set, List.length_set]
  by_cases e : i = r
  ·subst e; rw [if_pos rfl, if_pos rfl, if_pos (by omega)]
  ·rw [if_neg (fun h => e h.symm), if_neg e]
   by_cases e' : i = j
   ·subst e'; rw [if_pos rfl, if_pos rfl, if_pos (by omega)]
   ·rw [if_neg (fun h => e' h.symm), if_neg e']
 refine ⟨by simp [hl], fun i hi => ?_, fun i i' x hi hi' hx hx' => ?_⟩
 ·rw [hg i hi]
  by_cases e : i = r
  ·exact ⟨j, by simp [e], by omega, by omega⟩
  ·rw [if_neg e]
   by_cases e' : i = j
   ·rw [if_pos e']
    obtain ⟨x, hx, h0, h0'⟩ := h1 r (by omega)
    rw [hy] at hx; cases hx
    exact ⟨y, rfl, h0, by omega⟩
   ·rw [if_neg e']
    obtain ⟨x, hx, h0, h0'⟩ := h1 i (by omega)
    exact ⟨x, hx, h0, by omega⟩
 ·rw [hg i hi] at hx
  rw [hg i' hi'] at hx'
  have lo : ∀ i x, i < j -> xs[i]? = some x -> x < j := fun i x hi hx => by
   obtain ⟨x', hx', _, h⟩ := h1 i hi
   rw [hx] at hx'; cases hx'; exact h
  by_cases e : i = r <;> by_cases e' : i' = r <;> simp only [e, e', if_true, if_false] at hx hx' ⊢
  ·exfalso
   cases hx
   by_cases f : i' = j
   ·rw [if_pos f] at hx'; cases hx'
    have := lo r j (by omega) hy
    omega
   ·rw [if_neg f] at hx'
    have := lo i' j (by omega) hx'
    omega
  ·exfalso
   cases hx'
   by_cases f : i = j
   ·rw [if_pos f] at hx; cases hx
    have := lo r j (by omega) hy
    omega
   ·rw [if_neg f] at hx
    have := lo i j (by omega) hx
    omega
  ·by_cases f : i = j <;> by_cases f' : i' = j <;> simp only [f, f', if_true, if_false] at hx hx' ⊢
   ·cases hx
    exfalso
    exact e' (h2 i' r y (by omega) (by omega) hx' hy)
   ·cases hx'
    exfalso
    exact e (h2 i r y (by omega) (by omega) hx hy)
   ·exact h2 i i' x (by omega) (by omega) hx hx'
theorem Czh.nodup {n : Nat} {xs : List Int} (h : Czh n n xs) : xs.length = n /\ xs.Nodup /\ ∀ x ∈ xs, 0 <= x /\ x < n := by
 obtain ⟨hl, h1, h2⟩ := h
 refine ⟨hl, ?_, fun x hx => ?_⟩
 ·rw [List.Nodup, List.pairwise_iff_getElem]
  intro i j hi hj hlt e
  have := h2 i j xs[i] (by omega) (by omega) (List.getElem?_eq_getElem hi) (by rw [List.getElem?_eq_getElem hj, e])
  omega
 ·obtain ⟨i, hi, rfl⟩ := List.getElem_of_mem hx
  obtain ⟨x, hx, h⟩ := h1 i (by omega)
  rw [List.getElem?_eq_getElem hi] at hx
  cases hx
  exact h
theorem Bkj (m : Md) (H : Hp) (b k : Nat) (n : Nat) (hn : n <= 1000) (hT : TinI H b (k + n)) :
  FnX Tryz.prog m 54 #[.pointer (some ⟨b, 0, none⟩), .int .i64 n] H fun e H' => ∃ v xs, e = .returned v /\ SlI H' v xs /\ xs.length = n /\ xs.Nodup /\ (∀ x ∈ xs, 0 <= x /\ x < n) /\ Lex (some b) H H' /\ TinI H' b k := by
 refine Aqk Tryz.func54 rfl Tryz.ntmps54 (by simp) ?_
 (refine @unH _ ?_; refine z1 Ay0 ?_)
 (refine @unH _ ?_; refine z8 Ay0 ?_; try (refine inK ?_; intro K hK))
 intro lb hlb
 refine hK _ _ ?_; clear hK K
 have hlbn : lb ≠ b := hT.ne hlb
 refine Aql ?_
 (refine @unH _ ?_; refine z1 Ay0 ?_)
 refine Aqo (Axe (fun w a' H' => ∃ e j xs, w = n - j /\ j <= n /\ a' = act 30 e [] /\ e 0 = .pointer (some ⟨b, 0, none⟩) /\ e 1 = .int .i64 n /\ e 5 = .slice (some ⟨lb, 0, none⟩) n n /\ e 6 = .int .i64 j /\
  H' lb = some (true, .cells (ints xs).toArray 3 (0, 0)) /\ Lex (some b) H H' /\ TinI H' b (k + (n - j)) /\ Czh n j xs) (n := n) ?_ ?_)
 ·exact ⟨_, 0, List.replicate n 0, by omega, by omega, rfl, rfl, rfl, rfl, rfl, by rw [Axm, if_pos rfl]; simp [ints], Lex.refl.new hlb, (hT.new hlb).less (by omega), by simp, fun i hi => by omega, fun i i' x hi => by omega⟩
 ·rintro w a' H' ⟨e, j, xs, rfl, hj, rfl, e0, e1, e5, e6, hlb', hlex, hT', hM⟩
  refine Aql ?_
  (refine @unH _ ?_; refine z1 (And.intro Ay0 (And.intro @e0 (And.intro @e1 (And.intro @e5 @e6)))) ?_)
  refine Aq9 (by simp -implicitDefEqProofs (disch := first | omega | (simp only [qd] <;> omega)) only [Aqm, Aqr, Nat.reduceEqDiff, ↓reduceIte]; rfl) ?_
  by_cases hlt : j < n
  ·simp only [Int.ofNat_lt, hlt, decide_true, if_true]
   refine Aqu (Aql (Aqo ?_))
   (refine @unH _ ?_; refine z8 (And.intro Ay0 (And.intro @e0 (And.intro @e1 (And.intro @e5 @e6)))) ?_; try (refine inK ?_; intro K hK))
   refine (Ayb m H' b (k + (n - (j + 1))) (j : Int) (by omega) (by rw [show k + (n - (j + 1)) + 1 = k + (n - j) by omega]; exact hT')).runs.mono ?_
   rintro _ _ ⟨r, hr0, hr1, rfl, o, rfl, hT2⟩
   (refine @unH _ ?_; refine z0 Ay0 ?_)
   refine hK _ _ ?_; clear hK K
   obtain ⟨r, rfl⟩ := Int.eq_ofNat_of_zero_le hr0
   have hrj : r <= j := by omega
   have hrn : r < n := by omega
   have hl := hM.1
   have hlb2 : (H'.set b o) lb = some (true, .cells (ints xs).toArray 3 (0, 0)) := by rw [Axm, if_neg hlbn]; exact hlb'
   have hx := ints_at (xs := xs) (j := r) (by omega)
   (refine Axh ?_; intro K hK; simp -implicitDefEqProofs (disch := first | omega | (simp only [qd] <;> omega)) only [xq, ↓xp, qc, Nat.reduceAdd, List.range, List.range.loop, fine, Nat.reduceEqDiff, ↓reduceIte, yielded, reduceCtorEq, Nat.reduceLT, Nat.reduceMul, Nat.reduceSub, one, Nat.reduceLeDiff, Aqa, Ay0, e0, e1, e5, e6, cell_of hlb2, Awd hlb2, Int.toNat_natCast, Nat.mul_one, hx, exists_eq_left', Az7, Aq7, hl, hlt, hrn]; refine hK _ _ ?_; clear hK K)
   (refine Ajd ?_; intro K hK; simp -implicitDefEqProofs (disch := first | omega | (simp only [qd] <;> omega)) only [xq, ↓xp, qc, Nat.reduceAdd, List.range, List.range.loop, fine, Nat.reduceEqDiff, ↓reduceIte, yielded, reduceCtorEq, Nat.reduceLT, Nat.reduceMul, Nat.reduceSub, one, Nat.reduceLeDiff, Aqa, Ay0, e0, e1, e5, e6, Int.toNat_natCast, Nat.mul_one, Az7, Aq7, List.length_set, hl, hlt, hrn, set_set]; refine hK _ _ ?_; clear hK K)
   (refine Ajd ?_; intro K hK; simp -implicitDefEqProofs (disch := first | omega | (simp only [qd] <;> omega)) only [xq, ↓xp, qc, Nat.reduceAdd, List.range, List.range.loop, fine, Nat.reduceEqDiff, ↓reduceIte, yielded, reduceCtorEq, Nat.reduceLT, Nat.reduceMul, Nat.reduceSub, one, Nat.reduceLeDiff, Aqa, Ay0, e0, e1, e5, e6, Int.toNat_natCast, Nat.mul_one]; refine hK _ _ ?_; clear hK K)
   simp -implicitDefEqProofs (disch := first | omega | (simp only [qd] <;> omega)) only [thn, blk, ↓reduceIte, Nat.reduceEqDiff]
   refine ⟨_, ?_, _, j + 1, (xs.set j xs[r]).set r j, rfl, hlt, rfl, e0, e1, e5, rfl, by rw [Axm, if_pos rfl], (hlex.set.own hlb), (hT2.own hlb2 (Ne.symm hlbn)).less (by omega), hM.step hlt hrj (List.getElem?_eq_getElem _)⟩
   omega
  ·simp only [Int.ofNat_lt, hlt, decide_false, Bool.false_eq_true, if_false]
   (refine Axa ?_; simp only [thn, blk, ↓reduceIte, Nat.reduceEqDiff])
   (refine @unH _ ?_; refine z1 (And.intro Ay0 @e5) ?_)
   (refine @unH _ ?_; refine z9 Tryz.results54 ?_)
   have : j = n := by omega
   subst this
   obtain ⟨hl, hnd, hb⟩ := hM.nodup
   exact ⟨_, xs, rfl, ⟨_, _, by rw [hl], by omega, fun i x hi => ⟨lb, 0, true, _, _, rfl, hlb', by rw [Nat.zero_add]; simpa using Ajv hi⟩⟩, hl, hnd, hb, hlex, hT'.less (by omega)⟩
theorem Dj7 (m : Md) (H : Hp) (b k : Nat) (n : Int) (hn : n < 36028797018963967) (hT : TinI H b (k + 1)) :
  FnX Tryz.prog m 41 #[.pointer (some ⟨b, 0, none⟩), .int .i64 n] H fun e H' => ∃ r : Int, 0 <= r /\ (r <= n ∨ r = 0) /\ e = .returned (.int .i64 r) /\ Lex (some b) H H' /\ TinI H' b k :=
 (Ayb m H b k n hn hT).mono fun _ _ ⟨r, h0, h1, he, _, hH, hT'⟩ => ⟨r, h0, h1, he, hH ▸ Lex.refl.set, hT'⟩
theorem Cwc (m : Md) (H : Hp) (b k : Nat) (lo hi : Int) (h0 : -1000000 <= lo) (h1 : lo <= 1000000) (h2 : -1000000 <= hi) (h3 : hi <= 1000000) (hT : TinI H b (k + 1)) :
  FnX Tryz.prog m 93 #[.pointer (some ⟨b, 0, none⟩), .int .i64 lo, .int .i64 hi] H fun e H' => ∃ r : Int, lo <= r /\ (r <= hi ∨ r = lo) /\ e = .returned (.int .i64 r) /\ Lex (some b) H H' /\ TinI H' b k :=
 (Cq3 m H b k lo hi h0 h1 h2 h3 hT).mono fun _ _ ⟨r, h0, h1, he, _, hH, hT'⟩ => ⟨r, h0, h1, he, hH ▸ Lex.refl.set, hT'⟩
theorem Dzj (m : Md) (H : Hp) (b k : Nat) (n : Int) (h0 : -1000000 <= n) (h1 : n <= 1000000) (hT : TinI H b (k + 1)) :
  FnX Tryz.prog m 121 #[.pointer (some ⟨b, 0, none⟩), .int .i64 n] H fun e H' => ∃ r : Bool, e = .returned (.bool r) /\ Lex (some b) H H' /\ TinI H' b k :=
 (Cqu m H b k n h0 h1 hT).mono fun _ _ ⟨r, he, _, hH, hT'⟩ => ⟨r, he, hH ▸ Lex.refl.set, hT'⟩
theorem Cqh (m : Md) (H : Hp) (b k : Nat) (v : Value) (xs : List Int) (hv : SlI H v xs) (hne : xs ≠ []) (hl : xs.length <= 1000000) (hT : TinI H b (k + 1)) :
  FnX Tryz.prog m 61 #[.pointer (some ⟨b, 0, none⟩), v] H fun e H' => ∃ r : Int, r ∈ xs /\ e = .returned (.int .i64 r) /\ Lex (some b) H H' /\ TinI H' b k :=
 (Cqi m H b k v xs hv hne hl hT).mono fun _ _ ⟨r, h0, he, _, hH, hT'⟩ => ⟨r, h0, he, hH ▸ Lex.refl.set, hT'⟩
theorem Aqw {H : Hp} {b : Nat} {o : Obj} : (H.set b o) b = some (true, o) := by rw [Axm, if_pos rfl]
theorem Aqp {H : Hp} {b b' : Nat} {o : Obj} (h : b' ≠ b) : (H.set b o) b' = H b' := by rw [Axm, if_neg h]
theorem SlI.lit {H : Hp} {b : Nat} {vs : List Value} (xs : List Int) (h : vs = ints xs) {n : Nat} (hn : xs.length = n) : SlI (H.set b (.cells vs.toArray 3 (0, 0))) (.slice (some ⟨b, 0, none⟩) n n) xs :=
 ⟨_, _, by rw [hn], by omega, fun i x hi => ⟨b, 0, true, _, _, rfl, Aqw, by rw [Nat.zero_add, h]; simpa using Ajv hi⟩⟩
theorem Bvg (m : Md) (H : Hp) (g o n cap : Nat) (ys : List Int) (hys : ∀ (j : Nat) (y : Int), ys[j]? = some y -> H.cell ⟨g, o + j, none⟩ = some (.int .i64 y)) (hn : ys.length = n) (hb : n <= 1000000) (hg : ∃ x, H g = some x) :
  FnX Tryz.prog m 27 #[.slice (some ⟨g, o, none⟩) n cap] H fun e H' => ∃ v, e = .returned v /\ SlI H' v ys /\ H.le H' := by
 refine Aqk Tryz.func27 rfl Tryz.ntmps27 (by simp) ?_
 (refine @unH _ ?_; refine z1 @Cwj ?_)
 (refine @unH _ ?_; refine z8 @Cwj ?_; try (refine inK ?_; intro K hK))
 intro nb hnb
 have hle : H.le (H.set nb (.cells #[] 3 (0, 0))) := Hp.le_set hnb
 refine Ajo (H₀ := H) (n := 0) (xs := []) (ys := ys) (.inr ⟨nb, #[], 0, hnb, rfl, rfl, rfl, rfl, Nat.le_refl _, fun i u hi => by simp [ints] at hi⟩) (Hp.le_refl _) hn (fun h => ?_) (fun j y hj => ?_) (by omega) _ _ _ _ ?_
 ·obtain ⟨x, hx⟩ := hg; rw [hx] at h; cases h
 ·obtain ⟨x, hx⟩ := hg
  rw [Bqc (fun e => by rw [e, hnb] at hx; cases hx)]
  exact hys j y hj
 ·intro v H1 H2 hr hl
  (refine @unH _ ?_; refine z0 @Cwj ?_)
  refine hK _ _ ?_; clear hK K
  (refine @unH _ ?_; refine z9 Tryz.results27 ?_)
  exact ⟨v, rfl, (SlI.row hr).le hl, fun x v hx => hl _ _ (hr.le _ _ hx)⟩
theorem Dq3 (m : Md) (H : Hp) (v : Value) (xs : List Int) (n : Int) (hv : SlI H v xs) (hb : xs.length <= 1000000) :
  FnX Tryz.prog m 50 #[v, .int .i64 n] H fun e H' => H' = H /\ ∃ r : Int, e = .returned (.int .i64 r) /\ (xs[0]? = some n -> r = 0) := by
 obtain ⟨a, cap, rfl, hc, hv⟩ := hv
 refine Aqk Tryz.func50 rfl Tryz.ntmps50 (by simp) ?_
 (refine @unH _ ?_; refine z1 Bj1 ?_)
 refine Aql ?_
 (refine @unH _ ?_; refine z1 Bj1 ?_)
 refine Aqo (Axe (fun w a' H' => ∃ e j, w = xs.length - j /\ j <= xs.length /\ a' = act 19 e [] /\ e 0 = .slice a xs.length cap /\ e 1 = .int .i64 n /\ e 5 = .int .i64 (j : Nat) /\ H' = H /\ (0 < j -> xs[0]? ≠ some n)) (n := xs.length) ?_ ?_)
 ·exact ⟨_, 0, by omega, by omega, rfl, rfl, rfl, rfl, rfl, fun h => by omega⟩
 ·rintro w a' H' ⟨e, j, rfl, hj, rfl, e0, e1, e5, rfl, h0⟩
  refine Aql ?_
  (refine @unH _ ?_; refine z1 (And.intro Bj1 (And.intro @e0 (And.intro @e1 @e5))) ?_)
  refine Aq9 (by simp -implicitDefEqProofs (disch := first | omega | (simp only [qd] <;> omega)) only [Aqm, Aqr, Nat.reduceEqDiff, ↓reduceIte]; rfl) ?_
  by_cases hlt : j < xs.length
  ·simp only [Int.ofNat_lt, hlt, decide_true, if_true]
   refine Aqu (Aql (Aqo ?_))
   obtain ⟨b, o, p, c, fr, rfl, hb, hx⟩ := hv j xs[j] (List.getElem?_eq_getElem hlt)
   have hx' : c[o + (j : Int).toNat * 1]? = some (.int .i64 xs[j]) := by simpa using hx
   (refine Axh ?_; intro K hK; simp -implicitDefEqProofs (disch := first | omega | (simp only [qd] <;> omega)) only [xq, ↓xp, qc, Nat.reduceAdd, List.range, List.range.loop, fine, Nat.reduceEqDiff, ↓reduceIte, yielded, reduceCtorEq, Nat.reduceLT, Nat.reduceMul, Nat.reduceSub, one, Nat.reduceLeDiff, Aqa, Bj1, e0, e1, e5, cell_of hb, hx', exists_eq_left']; refine hK _ _ ?_; clear hK K)
   refine Aq9 (by simp -implicitDefEqProofs (disch := first | omega | (simp only [qd] <;> omega)) only [Aqm, Aqr, Nat.reduceEqDiff, ↓reduceIte]; rfl) ?_
   by_cases heq : xs[j] = n
   ·simp only [heq, beq_self_eq_true, decide_true, if_true]
    (refine @unH _ ?_; refine z1 (And.intro Bj1 (And.intro @e0 (And.intro @e1 @e5))) ?_)
    (refine Ax7 ?_; simp only [thn, blk]; rw [Axw, Akz Tryz.results50 (by decide)]; simp only [Aqr, Nat.reduceEqDiff, ↓reduceIte])
    refine ⟨by trivial, _, rfl, fun h => ?_⟩
    by_cases hz : j = 0
    ·rw [hz]; rfl
    ·exact absurd h (h0 (by omega))
   ·rw [beq_false_of_ne heq]
    simp only [Bool.false_eq_true, if_false]
    refine Aqu ?_
    simp -implicitDefEqProofs (disch := first | omega | (simp only [qd] <;> omega)) only [thn, blk, ↓reduceIte, Nat.reduceEqDiff]
    (refine @unH _ ?_; refine z2 (And.intro Bj1 (And.intro @e0 (And.intro @e1 @e5))) ?_)
    simp -implicitDefEqProofs (disch := first | omega | (simp only [qd] <;> omega)) only [thn, blk, ↓reduceIte, Nat.reduceEqDiff]
    refine ⟨_, ?_, _, j + 1, rfl, hlt, rfl, e0, e1, rfl, by trivial, fun _ h => ?_⟩
    ·omega
    ·by_cases hz : j = 0
     ·subst hz
      rw [List.getElem?_eq_getElem hlt] at h
      exact heq (Option.some.inj h)
     ·exact h0 (by omega) h
  ·simp only [Int.ofNat_lt, hlt, decide_false, Bool.false_eq_true, if_false]
   (refine Axa ?_; simp only [thn, blk, ↓reduceIte, Nat.reduceEqDiff])
   (refine @unH _ ?_; refine z1 (And.intro Bj1 (And.intro @e0 (And.intro @e1 @e5))) ?_)
   (refine @unH _ ?_; refine z9 Tryz.results50 ?_)
   refine ⟨by trivial, _, rfl, fun h => ?_⟩
   by_cases hz : xs = []
   ·subst hz; simp at h
   ·exact absurd h (h0 (by have := List.length_pos_iff.2 hz; omega))
def RowX (t : Option Nat) (H₀ H : Hp) (v : Value) (e : TypeId) (cs : List Value) : Prop :=
 Lex t H₀ H /\ ((v = .slice none 0 0 /\ cs = []) ∨
 ∃ (b : Nat) (c : Array Value) (cap : Nat), H₀ b = none /\ H b = some (true, .cells c e (0, 0)) /\ v = .slice (some ⟨b, 0, none⟩) cs.length cap /\ c.size = cap /\ cs.length <= cap /\ ∀ (i : Nat) (u : Value), cs[i]? = some u -> c[i]? = some u)
def Other (e : TypeId) (H H' : Hp) : Prop := ∀ x p o, H x = some (p, o) -> (p = false ∨ ∀ c fr, o ≠ .cells c e fr) -> H' x = some (p, o)
theorem RowX.nil {t : Option Nat} {H : Hp} {e : TypeId} : RowX t H H (.slice none 0 0) e [] := ⟨Lex.refl, .inl ⟨rfl, rfl⟩⟩
theorem RowX.len {t : Option Nat} {H₀ H : Hp} {v : Value} {e : TypeId} {cs : List Value} (h : RowX t H₀ H v e cs) : ∃ a cap, v = .slice a cs.length cap := by
 rcases h.2 with ⟨rfl, rfl⟩ | ⟨b, c, cap, _, _, rfl, _⟩
 ·exact ⟨_, _, rfl⟩
 ·exact ⟨_, _, rfl⟩
theorem RowX.lex {t : Option Nat} {H₀ H H' : Hp} {v : Value} {e : TypeId} {cs : List Value} (h : RowX t H₀ H v e cs) (hl : Lex t H H') (ht : ∀ b, t = some b -> ∀ p c fr, H b ≠ some (p, .cells c e fr)) : RowX t H₀ H' v e cs := by
 refine ⟨h.1.trans hl, h.2.imp id ?_⟩
 rintro ⟨b, c, cap, h0, h1, h2, h3, h4, h5⟩
 exact ⟨b, c, cap, h0, hl.hold h1 (fun e => ht b e _ _ _ h1), h2, h3, h4, h5⟩
theorem RowX.le {t : Option Nat} {H₀ H H' : Hp} {v : Value} {e : TypeId} {cs : List Value} (h : RowX t H₀ H v e cs) (hl : H.le H') : RowX t H₀ H' v e cs := by
 refine ⟨h.1.le hl, h.2.imp id ?_⟩
 rintro ⟨b, c, cap, h0, h1, h2, h3, h4, h5⟩
 exact ⟨b, c, cap, h0, hl _ _ h1, h2, h3, h4, h5⟩
theorem RowX.base {t : Option Nat} {H₀ H₁ H : Hp} {v : Value} {e : TypeId} {cs : List Value} (h : RowX t H₁ H v e cs) (hl : Lex t H₀ H₁) : RowX t H₀ H v e cs := by
 refine ⟨hl.trans h.1, h.2.imp id ?_⟩
 rintro ⟨b, c, cap, h0, h1, h2, h3, h4, h5⟩
 exact ⟨b, c, cap, hl.gone h0, h1, h2, h3, h4, h5⟩
theorem Bj9 {P : Program} {tt e : TypeId} {z : Value} {inf : TypeInfo} (hu : P.underlying tt = some (.slice e)) (hs : ∀ w, (sizeOf e).run P w = .ok 1 w) (hz : ∀ w, (zeroValue e).run P w = .ok z w) (hzc : z.cells.size = 1)
  (hi : ∀ w, (typeInfo e).run P w = .ok inf w) (hby : inf.bytes <= 1024) (hby0 : 0 < inf.bytes)
  {t : Option Nat} {H₀ H : Hp} {v : Value} {cs : List Value} (h : RowX t H₀ H v e cs) {g : Nat} {w : Value} (hg : H g = none) (hw : one w = true) (hn : cs.length <= 1000000) (ty : TypeId) (cb : Array Bool) (K : Next -> Hp -> Prop) (E : Value -> Hp -> Prop)
  (h' : ∀ v' H', RowX t H₀ H' v' e (cs ++ [w]) -> Other e H H' -> K (.value v') H') :
  wpS P (builtin .append #[tt, tt] ty cb #[v, .slice (some ⟨g, 0, none⟩) 1 1]) (H.set g (.cells #[w] e (0, 0))) K E := by
 obtain ⟨hlex, hrow⟩ := h
 have hws : ∀ (j : Nat) (u : Value), [w][j]? = some u -> (H.set g (.cells #[w] e (0, 0))).cell ⟨g, 0 + j, none⟩ = some u := by
  intro j u hj
  rw [Nat.zero_add, cell_of (b := g) (p := true) (c := #[w]) (e := e) (f := (0, 0)) (by rw [Axm, if_pos rfl])]
  simpa using hj
 have h1w : ∀ u ∈ [w], one u = true := by simp [hw]
 rcases hrow with ⟨rfl, rfl⟩ | ⟨b, c, cap, hb0, hb, rfl, hcs, hcap, hget⟩
 ·refine Avl (P := P) hu hs hz hzc hi hby hby0 (Aj3.nil H e 1) (Hp.le_set hg) (by simp) id hws h1w (by omega) ty cb K E (fun v' H1 H2 hr hl => ?_)
  have hle : H.le H2 := fun x u hx => hl _ _ (hr.le _ _ hx)
  refine h' v' H2 ⟨hlex.le hle, ?_⟩ (fun x p o hx _ => hle _ _ hx)
  rcases hr with ⟨_, hn0, _⟩ | ⟨b', c', cap', hb', rfl, rfl, hs', hl', hn', hg'⟩
  ·simp at hn0
  ·refine .inr ⟨b', c', cap', hlex.gone hb', hl _ _ (by rw [Axm, if_pos rfl]), by simp, by omega, by simpa using hn', fun i u hi => hg' i u hi⟩
 ·have hgb : g ≠ b := fun e => by rw [e, hb] at hg; cases hg
  have hD : (fun x => if x = b then none else H x : Hp) b = none := by simp
  have hH : H = Hp.set (fun x => if x = b then none else H x) b (.cells c e (0, 0)) := by
   funext x
   unfold Hp.set
   by_cases e : x = b
   ·subst e; simp [hb]
   ·simp [e]
  refine Avl (P := P) hu hs hz hzc hi hby hby0 (H₀ := fun x => if x = b then none else H x) (H := H) (n := cs.length) (cs := cs) (.inr ⟨b, c, cap, hD, hH, rfl, by omega, by omega, hcap, hget⟩) (Hp.le_set hg) (by simp) (fun _ => hg) hws h1w (by omega) ty cb K E (fun v' H1 H2 hr hl => ?_)
  have hkeep : ∀ x u, x ≠ b -> H x = some u -> H2 x = some u := fun x u hn hx => hl _ _ (hr.le _ _ (by simp only [hn, if_false]; exact hx))
  rcases hr with ⟨_, hn0, _⟩ | ⟨b', c', cap', hb', rfl, rfl, hs', hl', hn', hg'⟩
  ·simp at hn0
  ·have hb2 : H2 b' = some (true, .cells c' e (0, 0)) := hl _ _ (by rw [Axm, if_pos rfl])
   have hb'0 : H₀ b' = none := by
    by_cases e : b' = b
    ·rw [e]; exact hb0
    ·simp only [e, if_false] at hb'; exact hlex.gone hb'
   refine h' _ H2 ⟨fun x u hx => ?_, .inr ⟨b', c', cap', hb'0, hb2, by simp, by omega, by simpa using hn', hg'⟩⟩ (fun x p o hx ho => hkeep x _ (fun e => ?_) hx)
   ·obtain ⟨u', hu', e'⟩ := hlex x u hx
    exact ⟨u', hkeep x u' (fun e => by rw [e, hb0] at hx; cases hx) hu', e'⟩
   ·rw [e, hb] at hx
    simp only [Option.some.injEq, Prod.mk.injEq] at hx
    rcases ho with ho | ho
    ·rw [ho] at hx; cases hx.1
    ·exact ho c (0, 0) hx.2.symm
theorem Other.tin {H H' : Hp} {e : TypeId} {b k : Nat} (h : Other e H H') (he : e ≠ 76) (hT : TinI H b k) : TinI H' b k := by
 obtain ⟨sa, sl, sc, g, st, h1, h2, h3, h4⟩ := hT
 refine ⟨sa, sl, sc, g, st, h b _ _ h1 (.inr fun c fr e' => ?_), h2, h3, fun i hi => ?_⟩
 ·simp only [Obj.cells.injEq] at e'
  exact he e'.2.1.symm
 ·obtain ⟨sb, so, c, e, fr, x, ha, hs, hx⟩ := h4 i hi
  exact ⟨sb, so, c, e, fr, x, ha, h sb _ _ hs (.inl rfl), hx⟩
theorem Other.cells {H H' : Hp} {e e' : TypeId} (h : Other e H H') {x : Nat} {p : Bool} {c : Array Value} {fr : Nat × Nat} (hx : H x = some (p, .cells c e' fr)) (he : e' ≠ e) : H' x = some (p, .cells c e' fr) :=
 h x _ _ hx (.inr fun c' fr' e'' => by simp only [Obj.cells.injEq] at e''; exact he e''.2.1)
theorem RowX.ints {t : Option Nat} {H₀ H : Hp} {v : Value} {xs : List Int} (h : RowX t H₀ H v 3 (ints xs)) : SlI H v xs := by
 rcases h.2 with ⟨rfl, hx⟩ | ⟨b, c, cap, _, hb, rfl, hc, hle, hget⟩
 ·have : xs = [] := by simpa [Go.Proofs.YtgniilnljeedlaaGreatDoor.ints] using hx
  subst this
  exact SlI.nil _ _ _
 ·rw [Aq7] at hle ⊢
  exact ⟨_, cap, rfl, hle, fun i x hi => ⟨b, 0, true, c, (0, 0), rfl, hb, by rw [Nat.zero_add]; exact hget i _ (Ajv hi)⟩⟩
def SlR (H : Hp) (v : Value) (xss : List (List Int)) : Prop :=
 ∃ (a : Option Addr) (cap : Nat), v = .slice a xss.length cap /\ xss.length <= cap /\ ∀ (i : Nat) (xs : List Int), xss[i]? = some xs -> ∃ (b o : Nat) (p : Bool) (c : Array Value) (fr : Nat × Nat) (w : Value), a = some ⟨b, o, none⟩ /\ H b = some (p, .cells c 22 fr) /\ c[o + i]? = some w /\ SlI H w xs
def Rows (H : Hp) (vs : List Value) (xss : List (List Int)) : Prop := vs.length = xss.length /\ ∀ (i : Nat) (xs : List Int), xss[i]? = some xs -> ∃ w, vs[i]? = some w /\ SlI H w xs
theorem Rows.mono {H H' : Hp} {vs : List Value} {xss : List (List Int)} (h : Rows H vs xss) (hl : ∀ v xs, SlI H v xs -> SlI H' v xs) : Rows H' vs xss :=
 ⟨h.1, fun i xs hi => by obtain ⟨w, h1, h2⟩ := h.2 i xs hi; exact ⟨w, h1, hl _ _ h2⟩⟩
theorem Rows.nil {H : Hp} : Rows H [] [] := ⟨rfl, fun i xs hi => by simp at hi⟩
theorem Rows.snoc {H : Hp} {vs : List Value} {xss : List (List Int)} (h : Rows H vs xss) {w : Value} {xs : List Int} (hw : SlI H w xs) : Rows H (vs ++ [w]) (xss ++ [xs]) := by
 refine ⟨by simp [h.1], fun i ys hi => ?_⟩
 by_cases hlt : i < xss.length
 ·rw [List.getElem?_append_left hlt] at hi
  obtain ⟨w', h1, h2⟩ := h.2 i ys hi
  exact ⟨w', by rw [List.getElem?_append_left (by rw [h.1]; exact hlt)]; exact h1, h2⟩
 ·rw [List.getElem?_append_right (by omega)] at hi
  have : i - xss.length = 0 := by
   have := (List.getElem?_eq_some_iff.1 hi).1
   simp at this; omega
  rw [this] at hi
  simp at hi
  subst hi
  exact ⟨w, by rw [List.getElem?_append_right (by rw [h.1]; omega), h.1, this]; rfl, hw⟩
theorem RowX.rows {t : Option Nat} {H₀ H : Hp} {v : Value} {vs : List Value} {xss : List (List Int)} (h : RowX t H₀ H v 22 vs) (hr : Rows H vs xss) : SlR H v xss := by
 rcases h.2 with ⟨rfl, rfl⟩ | ⟨b, c, cap, _, hb, rfl, hc, hle, hget⟩
 ·have : xss = [] := by have := hr.1; simp at this; exact List.eq_nil_of_length_eq_zero this.symm
  subst this
  exact ⟨_, _, rfl, Nat.zero_le _, fun i xs hi => by simp at hi⟩
 ·refine ⟨_, cap, by rw [hr.1], by rw [<- hr.1]; exact hle, fun i xs hi => ?_⟩
  obtain ⟨w, h1, h2⟩ := hr.2 i xs hi
  exact ⟨b, 0, true, c, (0, 0), w, rfl, hb, by rw [Nat.zero_add]; exact hget i w h1, h2⟩
theorem SlI.one {H : Hp} {v : Value} {xs : List Int} (h : SlI H v xs) : one v = true := by
 obtain ⟨a, cap, rfl, _⟩ := h
 rfl
theorem SlI.move {H H' : Hp} {v : Value} {xs : List Int} (h : SlI H v xs) (hl : ∀ x p c fr, H x = some (p, .cells c 3 fr) -> H' x = some (p, .cells c 3 fr)) : SlI H' v xs := by
 obtain ⟨a, cap, hv, hc, h⟩ := h
 refine ⟨a, cap, hv, hc, fun i x hi => ?_⟩
 obtain ⟨b, o, p, c, fr, ha, hb, hx⟩ := h i x hi
 exact ⟨b, o, p, c, fr, ha, hl _ _ _ _ hb, hx⟩
theorem SlR.move {H H' : Hp} {v : Value} {xss : List (List Int)} (h : SlR H v xss) (hl : ∀ x p c fr e, (e = 3 ∨ e = 22) -> H x = some (p, .cells c e fr) -> H' x = some (p, .cells c e fr)) : SlR H' v xss := by
 obtain ⟨a, cap, hv, hc, h⟩ := h
 refine ⟨a, cap, hv, hc, fun i x hi => ?_⟩
 obtain ⟨b, o, p, c, fr, w, ha, hb, hx, hs⟩ := h i x hi
 exact ⟨b, o, p, c, fr, w, ha, hl _ _ _ _ _ (.inr rfl) hb, hx, hs.move fun _ _ _ _ h => hl _ _ _ _ _ (.inl rfl) h⟩
theorem SlR.le {H H' : Hp} {v : Value} {xss : List (List Int)} (h : SlR H v xss) (hl : H.le H') : SlR H' v xss := h.move fun _ _ _ _ _ _ hx => hl _ _ hx
theorem SlR.lex {H H' : Hp} {v : Value} {xss : List (List Int)} (h : SlR H v xss) {b k : Nat} (hl : Lex (some b) H H') (hT : TinI H b k) : SlR H' v xss := h.move fun x p c fr e he hx => hl.keeps hx fun e' => by
 obtain ⟨_, _, _, _, _, hb2, _⟩ := hT
 rw [e', hb2] at hx
 simp only [Option.some.injEq, Prod.mk.injEq, Obj.cells.injEq] at hx
 rcases he with he | he <;> rw [he] at hx <;> exact absurd hx.2.2.1 (by decide)
def Azx := And.intro (fun H => Aq1 (H := H) (P := Tryz.prog) (h := Tryz.zeroValue25)) (And.intro @Awn (And.intro @Cki (And.intro @Ckm (And.intro @Bwe (And.intro (fun H => Aq3 (H := H) Tryz.sizeOf25) (And.intro (fun H => Aqh (H := H) Tryz.underlying25 (i := 1) rfl (off := 1) rfl Tryz.sizeOf3) (And.intro (fun H => Aqd (H := H) Tryz.underlying3 rfl) (And.intro @Ckh (And.intro (fun H => Aqh (H := H) Tryz.underlying25 (i := 0) rfl (off := 0) rfl Tryz.sizeOf3) (And.intro @Bxq (And.intro @Az0 (And.intro @Bvl (And.intro (fun H => Bvy (H := H) Tryz.underlying22 Tryz.sizeOf3) (And.intro (fun H => Bvz (H := H) Tryz.underlying22 Tryz.sizeOf3) (And.intro (fun H => Bxx (H := H) Tryz.underlying22 Tryz.sizeOf3) (And.intro @Ckf (And.intro (fun H => Aqh (H := H) Tryz.underlying25 (i := 2) rfl (off := 2) rfl Tryz.sizeOf22) (And.intro (fun H => Ajy (H := H) Tryz.sizeOf22) (And.intro @Dx0 (And.intro (fun H => Aqh (H := H) Tryz.underlying25 (i := 3) rfl (off := 3) rfl Tryz.sizeOf23) (And.intro (fun H => Ajy (H := H) Tryz.sizeOf23) (And.intro (fun H => Aqx (H := H) Tryz.underlying25 rfl Tryz.sizeOf25) @Dx1))))))))))))))))))))))
def Azy := And.intro @Bxq (And.intro @Ckh (And.intro @Cw3 (And.intro @Bvl (And.intro @Ckm (And.intro @Ckg (And.intro @Axp @Bx9))))))
def Bxk := And.intro (fun H => Aqh (H := H) Tryz.underlying25 (i := 3) rfl (off := 3) rfl Tryz.sizeOf23) (And.intro (fun H => Aqd (H := H) Tryz.underlying23 rfl) (And.intro (fun H => Aq5 (H := H) Tryz.underlying23) (And.intro (fun H => Aqq (H := H) Tryz.underlying23 Tryz.sizeOf22) (And.intro (fun H => Aqd (H := H) Tryz.underlying22 rfl) (And.intro @Cki @Axp)))))
def Bx2 (pieces : Nat) (xs : List Int) : Prop := xs ≠ [] /\ xs.Pairwise (· < ·) /\ ∀ x ∈ xs, 0 <= x /\ x < pieces
theorem Byy (hi : Int) : ∀ (xs : List Int) (lo : Int), xs.Pairwise (· < ·) -> (∀ x ∈ xs, lo <= x /\ x < hi) -> xs.length <= (hi - lo).toNat
 | [], _, _, _ => Nat.zero_le _
 | x :: xs, lo, hp, hb => by
  have h1 := hb x List.mem_cons_self
  have h2 := Byy hi xs (x + 1) (List.pairwise_cons.1 hp).2 fun y hy => ⟨by have := (List.pairwise_cons.1 hp).1 y hy; omega, (hb y (List.mem_cons_of_mem _ hy)).2⟩
  simp only [List.length_cons]
  omega
theorem Bx2.len {pieces : Nat} {xs : List Int} (h : Bx2 pieces xs) : xs.length <= pieces := by
 have := Byy pieces xs 0 h.2.1 h.2.2
 omega
theorem Bku {t : Option Nat} {H₀ H : Hp} {v : Value} {xs : List Int} (h : RowX t H₀ H v 3 (ints xs)) {g : Nat} {x : Int} (hg : H g = none) (hn : xs.length <= 1000000) (ty : TypeId) (cb : Array Bool) (K : Next -> Hp -> Prop) (E : Value -> Hp -> Prop)
  (h' : ∀ v' H', RowX t H₀ H' v' 3 (ints (xs ++ [x])) -> Other 3 H H' -> K (.value v') H') :
  wpS Tryz.prog (builtin .append #[22, 22] ty cb #[v, .slice (some ⟨g, 0, none⟩) 1 1]) (H.set g (.cells #[.int .i64 x] 3 (0, 0))) K E :=
 Bj9 Tryz.underlying22 Tryz.sizeOf3 Tryz.zeroValue3 rfl Tryz.typeInfo3 (by decide) (by decide) h hg rfl (by rw [Aq7]; exact hn) ty cb K E fun v' H' hr ho => h' v' H' (by rw [Cxv]; exact hr) ho
theorem Cwp {t : Option Nat} {H₀ H : Hp} {v : Value} {vs : List Value} (h : RowX t H₀ H v 22 vs) {g : Nat} {w : Value} (hw : one w = true) (hg : H g = none) (hn : vs.length <= 1000000) (ty : TypeId) (cb : Array Bool) (K : Next -> Hp -> Prop) (E : Value -> Hp -> Prop)
  (h' : ∀ v' H', RowX t H₀ H' v' 22 (vs ++ [w]) -> Other 22 H H' -> K (.value v') H') :
  wpS Tryz.prog (builtin .append #[23, 23] ty cb #[v, .slice (some ⟨g, 0, none⟩) 1 1]) (H.set g (.cells #[w] 22 (0, 0))) K E :=
 Bj9 Tryz.underlying23 Tryz.sizeOf22 Tryz.zeroValue22 rfl Tryz.typeInfo22 (by decide) (by decide) h hg hw hn ty cb K E h'
theorem TinI.le {H H' : Hp} {b k : Nat} (h : TinI H b k) (hl : H.le H') : TinI H' b k := by
 obtain ⟨sa, sl, sc, g, st, h1, h2, h3, h4⟩ := h
 refine ⟨sa, sl, sc, g, st, hl _ _ h1, h2, h3, fun i hi => ?_⟩
 obtain ⟨sb, so, c, e, fr, x, ha, hs, hx⟩ := h4 i hi
 exact ⟨sb, so, c, e, fr, x, ha, hl _ _ hs, hx⟩
theorem TinI.notI {H : Hp} {b k : Nat} (h : TinI H b k) {e : TypeId} (he : e ≠ 76) : ∀ b', some b = some b' -> ∀ p c fr, H b' ≠ some (p, .cells c e fr) := fun b' hb' p c fr hx => by
 cases hb'
 obtain ⟨_, _, _, _, _, hb2, _⟩ := h
 rw [hb2] at hx
 simp only [Option.some.injEq, Prod.mk.injEq, Obj.cells.injEq] at hx
 exact he hx.2.2.1.symm
theorem Bwi (m : Md) (H : Hp) (b k : Nat) (calls pieces each : Nat) (hc : calls <= 100) (hp0 : 1 <= pieces) (hp : pieces <= 100) (he0 : 1 <= each) (he : each <= 100) (hT : TinI H b (k + calls * (pieces + 2) + 1)) :
  FnX Tryz.prog m 94 #[.pointer (some ⟨b, 0, none⟩), .int .i64 calls, .int .i64 pieces, .int .i64 each] H fun e H' => ∃ v xss, e = .returned v /\ SlR H' v xss /\ xss.length <= calls /\ (∀ xs ∈ xss, Bx2 pieces xs) /\ Lex (some b) H H' /\ TinI H' b k := by
 refine Aqk Tryz.func94 rfl Tryz.ntmps94 (by simp) ?_
 (refine @unH _ ?_; refine z1 Azy ?_)
 (refine @unH _ ?_; refine z1 Azy ?_)
 refine Aql ?_
 (refine @unH _ ?_; refine z8 Azy ?_; try (refine inK ?_; intro K hK))
 refine (Dj7 m H b _ calls (by omega) hT).runs.mono ?_; rintro _ _ ⟨r, hr0, hr1, rfl, hl1, hT1⟩; simp -implicitDefEqProofs (disch := first | omega | (simp only [qd] <;> omega)) only [xq, ↓xp, qc, Nat.reduceAdd, List.range, List.range.loop, fine, Nat.reduceEqDiff, ↓reduceIte, yielded, reduceCtorEq, Nat.reduceLT, Nat.reduceMul, Nat.reduceSub, one, Nat.reduceLeDiff, Aqa, Azy]
 refine hK _ _ ?_; clear hK K
 obtain ⟨i, rfl⟩ := Int.eq_ofNat_of_zero_le hr0
 rename_i H1
 refine Aqo (Axe (fun w a' H' => ∃ e ov vs xss, w <= calls /\ a' = act 51 e [] /\ e 0 = .pointer (some ⟨b, 0, none⟩) /\ e 2 = .int .i64 pieces /\ e 3 = .int .i64 each /\ e 9 = ov /\ e 10 = .int .i64 w /\
  RowX (some b) H H' ov 22 vs /\ Rows H' vs xss /\ xss.length + w <= calls /\ (∀ xs ∈ xss, Bx2 pieces xs) /\ TinI H' b (k + w * (pieces + 2))) (n := i) ?_ ?_)
 ·have hi : i <= calls := by omega
  exact ⟨_, _, [], [], hi, rfl, rfl, rfl, rfl, rfl, rfl, ⟨hl1, .inl ⟨rfl, rfl⟩⟩, Rows.nil, by simp; omega, by simp, hT1.less (Nat.add_le_add_left (Nat.mul_le_mul_right _ hi) _)⟩
 ·rintro w a' H' ⟨e, ov, vs, xss, hw, rfl, e0, e2, e3, e9, e10, hov, hvs, hlen, hok, hT'⟩
  refine Aql ?_
  (refine @unH _ ?_; refine z1 (And.intro Azy @e10) ?_)
  refine Aq9 (by simp -implicitDefEqProofs (disch := first | omega | (simp only [qd] <;> omega)) only [Aqm, Aqr, Nat.reduceEqDiff, ↓reduceIte]; rfl) ?_
  by_cases hlt : 0 < w
  ·simp only [Int.natCast_pos, hlt, decide_true, if_true]
   refine Aqu (Aql (Aqo ?_))
   obtain ⟨w, rfl⟩ : ∃ w', w = w' + 1 := ⟨w - 1, by omega⟩
   (refine @unH _ ?_; refine z8 (And.intro Azy (And.intro @e0 @e2)) ?_; try (refine inK ?_; intro K hK))
   refine (Bkj m H' b (k + w * (pieces + 2) + 2) pieces (by omega) (hT'.less (by rw [Nat.add_mul]; omega))).runs.mono ?_
   rintro _ H2 ⟨order, os, rfl, hos, hol, hond, hob, hl2, hT2⟩
   (refine @unH _ ?_; refine z0 Azy ?_)
   refine hK _ _ ?_; clear hK K
   (refine @unH _ ?_; refine z1 Azy ?_)
   refine Akf (fun a' H3 => ∃ e' mn, a' = act 51 e' [] /\ e' 0 = .pointer (some ⟨b, 0, none⟩) /\ e' 2 = .int .i64 pieces /\ e' 3 = .int .i64 each /\ e' 9 = ov /\ e' 10 = .int .i64 ((w + 1 : Nat) : Int) /\ e' 11 = order /\
    e' 12 = .int .i64 mn /\ 1 <= mn /\ Lex (some b) H2 H3 /\ TinI H3 b (k + w * (pieces + 2))) ?_ ?_
   ·(refine @unH _ ?_; refine z8 (And.intro Azy @e0) ?_; try (refine inK ?_; intro K hK))
    refine (Dzj m H2 b (k + w * (pieces + 2) + 1) 3 (by omega) (by omega) hT2).runs.mono ?_; rintro _ _ ⟨r, rfl, hl3, hT3⟩; simp -implicitDefEqProofs (disch := first | omega | (simp only [qd] <;> omega)) only [xq, ↓xp, qc, Nat.reduceAdd, List.range, List.range.loop, fine, Nat.reduceEqDiff, ↓reduceIte, yielded, reduceCtorEq, Nat.reduceLT, Nat.reduceMul, Nat.reduceSub, one, Nat.reduceLeDiff, Aqa, Azy]
    refine hK _ _ ?_; clear hK K
    refine Aq9 (by simp -implicitDefEqProofs (disch := first | omega | (simp only [qd] <;> omega)) only [Aqm, Aqr, Nat.reduceEqDiff, ↓reduceIte]; rfl) ?_
    cases r
    ·simp only [Bool.false_eq_true, if_false]
     exact Aqu ⟨_, 1, rfl, e0, e2, e3, e9, e10, rfl, rfl, by omega, hl3, hT3.less (by omega)⟩
    ·simp only [if_true]
     have hmin : ∃ mm : Int, (if (pieces : Int) < each then (pieces : Int) else each) = mm /\ 1 <= mm /\ mm <= 100 := ⟨_, rfl, by split <;> omega, by split <;> omega⟩
     obtain ⟨mm, hmm, hm1, hm2⟩ := hmin
     refine Ajd ?_; intro K hK
     (refine @unH _ ?_; refine z0 (And.intro Azy (And.intro @e0 (And.intro @e2 (And.intro @e3 @hmm)))) ?_)
     refine (Cwc m _ b (k + w * (pieces + 2)) 1 mm (by omega) (by omega) (by omega) (by omega) hT3).runs.mono ?_; rintro _ _ ⟨r, hr0, hr1, rfl, hl4, hT4⟩; simp -implicitDefEqProofs (disch := first | omega | (simp only [qd] <;> omega)) only [xq, ↓xp, qc, Nat.reduceAdd, List.range, List.range.loop, fine, Nat.reduceEqDiff, ↓reduceIte, yielded, reduceCtorEq, Nat.reduceLT, Nat.reduceMul, Nat.reduceSub, one, Nat.reduceLeDiff, Aqa, Azy]
     refine hK _ _ ?_
     exact ⟨_, r, rfl, e0, e2, e3, e9, e10, rfl, rfl, hr0, hl3.trans hl4, hT4⟩
   ·rintro a' H3 ⟨e', mn, rfl, f0, f2, f3, f9, f10, f11, f12, hmn, hl3, hT3⟩
    (refine @unH _ ?_; refine z1 (And.intro Azy @f0) ?_)
    have hos3 := hos.lex hl3 hT2
    refine Aql ?_
    (refine @unH _ ?_; refine z1 Azy ?_)
    refine Aqo (Axe (fun q a' H4 => ∃ g p lv ps, q = pieces - p /\ p <= pieces /\ a' = act 51 g [] /\ g 0 = .pointer (some ⟨b, 0, none⟩) /\ g 2 = .int .i64 pieces /\ g 3 = .int .i64 each /\ g 9 = ov /\ g 10 = .int .i64 ((w + 1 : Nat) : Int) /\ g 11 = order /\
     g 12 = .int .i64 mn /\ g 13 = lv /\ g 14 = .int .i64 (p : Nat) /\ RowX none H3 H4 lv 3 (ints ps) /\ ps.length <= p /\ ps.Pairwise (· < ·) /\ (∀ x ∈ ps, 0 <= x /\ x < p) /\ (∀ x : Int, os[0]? = some x -> x < p -> x ∈ ps)) (n := pieces) ?_ ?_)
    ·exact ⟨_, 0, _, [], by omega, by omega, rfl, f0, f2, f3, f9, f10, f11, f12, rfl, rfl, RowX.nil, by simp, by simp, by simp, fun x hx hx0 => absurd (hob x (List.mem_of_getElem? hx)).1 (by omega)⟩
    ·rintro q a' H4 ⟨g, p, lv, ps, rfl, hpp, rfl, g0, g2, g3, g9, g10, g11, g12, g13, g14, hlv, hpl, hps, hpb, hpz⟩
     refine Aql ?_
     (refine @unH _ ?_; refine z1 (And.intro Azy (And.intro @g14 @g2)) ?_)
     refine Aq9 (by simp -implicitDefEqProofs (disch := first | omega | (simp only [qd] <;> omega)) only [Aqm, Aqr, Nat.reduceEqDiff, ↓reduceIte]; rfl) ?_
     by_cases hlt : p < pieces
     ·simp only [Int.ofNat_lt, hlt, decide_true, if_true]
      refine Aqu (Aql (Aqo ?_))
      (refine @unH _ ?_; refine z8 (And.intro Azy (And.intro @g11 (And.intro @g14 @g12))) ?_; try (refine inK ?_; intro K hK))
      refine (Dq3 m H4 order os p (hos3.le hlv.1.toLe) (by omega)).runs.mono ?_
      rintro _ _ ⟨rfl, r, rfl, hr⟩
      (refine @unH _ ?_; refine z0 (And.intro Azy @g12) ?_)
      refine hK _ _ ?_; clear hK K
      refine Aq9 (by simp -implicitDefEqProofs (disch := first | omega | (simp only [qd] <;> omega)) only [Aqm, Aqr, Nat.reduceEqDiff, ↓reduceIte]; rfl) ?_
      by_cases hrm : r < mn
      ·simp only [hrm, decide_true, if_true]
       refine Ajd ?_; intro K hK
       (refine @unH _ ?_; refine z0 (And.intro Azy (And.intro @g13 @g14)) ?_)
       intro gb hgb
       refine Bku hlv hgb (by omega) _ _ _ _ ?_
       intro v' H5 hr5 ho5
       (refine @unH _ ?_; refine z0 Azy ?_)
       refine hK _ _ ?_; clear hK K
       simp -implicitDefEqProofs (disch := first | omega | (simp only [qd] <;> omega)) only [thn, blk, ↓reduceIte, Nat.reduceEqDiff]
       (refine @unH _ ?_; refine z2 (And.intro Azy @g14) ?_)
       simp -implicitDefEqProofs (disch := first | omega | (simp only [qd] <;> omega)) only [thn, blk, ↓reduceIte, Nat.reduceEqDiff]
       refine ⟨_, ?_, _, p + 1, v', ps ++ [(p : Int)], rfl, hlt, rfl, g0, g2, g3, g9, g10, g11, g12, rfl, rfl, hr5, by simp; omega, ?_, ?_, ?_⟩
       ·omega
       ·rw [List.pairwise_append]
        refine ⟨hps, by simp, fun x hx y hy => ?_⟩
        have := (hpb x hx).2
        simp at hy; omega
       ·intro x hx
        rcases List.mem_append.1 hx with hx | hx
        ·have := hpb x hx; omega
        ·simp at hx; omega
       ·intro x hx hx1
        by_cases hxp : x < p
        ·exact List.mem_append_left _ (hpz x hx hxp)
        ·exact List.mem_append_right _ (by simp; omega)
      ·simp only [hrm, decide_false, Bool.false_eq_true, if_false]
       refine Aqu ?_
       simp -implicitDefEqProofs (disch := first | omega | (simp only [qd] <;> omega)) only [thn, blk, ↓reduceIte, Nat.reduceEqDiff]
       (refine @unH _ ?_; refine z2 (And.intro Azy @g14) ?_)
       simp -implicitDefEqProofs (disch := first | omega | (simp only [qd] <;> omega)) only [thn, blk, ↓reduceIte, Nat.reduceEqDiff]
       refine ⟨_, ?_, _, p + 1, lv, ps, rfl, hlt, rfl, g0, g2, g3, g9, g10, g11, g12, g13, rfl, hlv, by omega, hps, ?_, ?_⟩
       ·omega
       ·intro x hx
        have := hpb x hx; omega
       ·intro x hx hx1
        by_cases hxp : x < p
        ·exact hpz x hx hxp
        ·have : x = p := by omega
         subst this
         exact absurd (hr hx) (by omega)
     ·simp only [Int.ofNat_lt, hlt, decide_false, Bool.false_eq_true, if_false]
      (refine Axa ?_; simp only [thn, blk, ↓reduceIte, Nat.reduceEqDiff])
      have hpe : p = pieces := by omega
      subst hpe
      have hok' : Bx2 p ps := by
       refine ⟨fun h => ?_, hps, hpb⟩
       have h0 : os[0]? = some os[0] := List.getElem?_eq_getElem (by omega)
       have := hpz _ h0 (hob _ (List.getElem_mem _)).2
       rw [h] at this; cases this
      have hsl : SlI H4 lv ps := hlv.ints
      have hov4 : RowX (some b) H H4 ov 22 vs := ((hov.lex (hl2.trans hl3) (hT'.notI (by decide))).lex (Lex.of hlv.1.toLe) (hT3.notI (by decide)))
      have hvs4 : Rows H4 vs xss := hvs.mono fun v xs h => ((h.lex (hl2.trans hl3) hT').le hlv.1.toLe)
      have hT4 : TinI H4 b (k + w * (p + 2)) := hT3.le hlv.1.toLe
      obtain ⟨la, lc, rfl⟩ := hlv.len
      rw [Aq7] at g13
      refine Ajd ?_; intro K hK
      (refine @unH _ ?_; refine z0 (And.intro Azy (And.intro @g9 @g13)) ?_)
      intro gb hgb
      refine Cwp hov4 rfl hgb ?_ _ _ _ _ ?_
      ·rw [hvs.1]; omega
      intro v' H5 hr5 ho5
      (refine @unH _ ?_; refine z0 Azy ?_)
      refine hK _ _ ?_; clear hK K
      simp -implicitDefEqProofs (disch := first | omega | (simp only [qd] <;> omega)) only [thn, blk, ↓reduceIte, Nat.reduceEqDiff]
      have hw1 : ((w + 1 : Nat) : Int) - 1 = (w : Nat) := by omega
      (refine @unH _ ?_; refine z2 (And.intro Azy (And.intro @g10 @hw1)) ?_)
      simp -implicitDefEqProofs (disch := first | omega | (simp only [qd] <;> omega)) only [thn, blk, ↓reduceIte, Nat.reduceEqDiff]
      refine ⟨w, by omega, _, v', _, xss ++ [ps], by omega, rfl, g0, g2, g3, rfl, rfl, hr5, ?_, by simp; omega, ?_, ho5.tin (by decide) hT4⟩
      ·rw [Aq7] at hsl
       exact (hvs4.mono fun v xs h => h.move fun x q c fr hx => ho5.cells hx (by decide)).snoc (hsl.move fun x q c fr hx => ho5.cells hx (by decide))
      ·intro xs hxs
       rcases List.mem_append.1 hxs with h | h
       ·exact hok xs h
       ·simp at h; rw [h]; exact hok'
  ·simp only [Int.natCast_pos, hlt, decide_false, Bool.false_eq_true, if_false]
   (refine Axa ?_; simp only [thn, blk, ↓reduceIte, Nat.reduceEqDiff])
   (refine @unH _ ?_; refine z1 (And.intro Azy @e9) ?_)
   (refine @unH _ ?_; refine z9 Tryz.results94 ?_)
   exact ⟨_, xss, rfl, hov.rows hvs, by omega, hok, hov.1, hT'.less (by omega)⟩
def Azz (xss : List (List Int)) (ts : List Int) : Prop := ts.length = xss.length /\ ∀ (i : Nat) (t : Int) (xs : List Int), ts[i]? = some t -> xss[i]? = some xs -> t ∈ xs
theorem Byh (m : Md) (H : Hp) (b k : Nat) (pl pc : Int) (st cv : Value) (hst : one st = true) (xss : List (List Int)) (hcv : SlR H cv xss) (hne : ∀ xs ∈ xss, xs ≠ [] /\ xs.length <= 100000) (hlen : xss.length <= 100000) (hT : TinI H b (k + xss.length)) :
  FnX Tryz.prog m 95 #[.pointer (some ⟨b, 0, none⟩), .agg #[.int .i64 pl, .int .i64 pc, st, cv]] H fun e H' => ∃ v ts, e = .returned v /\ SlI H' v ts /\ Azz xss ts /\ Lex (some b) H H' /\ TinI H' b k := by
 obtain ⟨a, cap, rfl, hcap, hcv⟩ := hcv
 refine Aqk Tryz.func95 rfl Tryz.ntmps95 (by simp) ?_
 (refine @unH _ ?_; refine z8 Bxk ?_; try (refine inK ?_; intro K hK))
 intro nb hnb
 refine hK _ _ ?_; clear hK K
 (refine @unH _ ?_; refine z1 Bxk ?_)
 refine Aql ?_
 (refine @unH _ ?_; refine z1 Bxk ?_)
 refine Aqo (Axe (fun w a' H' => ∃ e j tv ts, w = xss.length - j /\ j <= xss.length /\ a' = act 25 e [] /\ e 0 = .pointer (some ⟨b, 0, none⟩) /\ e 3 = .pointer (some ⟨nb, 0, none⟩) /\ e 5 = tv /\ e 6 = .int .i64 (j : Nat) /\
  RowX (some b) (H.set nb (.cells #[.int .i64 pl, .int .i64 pc, st, .slice a xss.length cap] 25 (0, 0))) H' tv 3 (ints ts) /\ ts.length = j /\ (∀ (i : Nat) (t : Int) (xs : List Int), ts[i]? = some t -> xss[i]? = some xs -> t ∈ xs) /\ TinI H' b (k + (xss.length - j))) (n := xss.length) ?_ ?_)
 ·exact ⟨_, 0, _, [], by omega, by omega, rfl, rfl, rfl, rfl, rfl, RowX.nil, rfl, by simp, (hT.new hnb).less (by omega)⟩
 ·rintro w a' H' ⟨e, j, tv, ts, rfl, hj, rfl, e0, e3, e5, e6, htv, htl, hti, hT'⟩
  have hnb' := htv.1.keeps Aqw (hT.ne hnb)
  refine Aql ?_
  (refine Axh ?_; intro K hK; simp -implicitDefEqProofs (disch := first | omega | (simp only [qd] <;> omega)) only [xq, ↓xp, qc, Nat.reduceAdd, List.range, List.range.loop, fine, Nat.reduceEqDiff, ↓reduceIte, yielded, reduceCtorEq, Nat.reduceLT, Nat.reduceMul, Nat.reduceSub, one, Nat.reduceLeDiff, Aqa, Bxk, e3, e6, cell_of hnb', exists_eq_left']; refine hK _ _ ?_; clear hK K)
  refine Aq9 (by simp -implicitDefEqProofs (disch := first | omega | (simp only [qd] <;> omega)) only [Aqm, Aqr, Nat.reduceEqDiff, ↓reduceIte]; rfl) ?_
  by_cases hlt : j < xss.length
  ·simp only [Int.ofNat_lt, hlt, decide_true, if_true]
   refine Aqu (Aql (Aqo ?_))
   obtain ⟨rb, ro, p, c, fr, w, rfl, hrb, hcw, hsl⟩ := hcv j xss[j] (List.getElem?_eq_getElem hlt)
   have hrb' := htv.1.keeps (Hp.le_set hnb _ _ hrb) (fun e' => by
    obtain ⟨_, _, _, _, _, hb2, _⟩ := hT
    rw [e', hb2] at hrb
    simp only [Option.some.injEq, Prod.mk.injEq, Obj.cells.injEq] at hrb
    exact absurd hrb.2.2.1 (by decide))
   have hcw' : c[ro + (j : Int).toNat * 1]? = some w := by simpa using hcw
   have hmem : xss[j] ∈ xss := List.getElem_mem hlt
   have hsl' : SlI H' w xss[j] := ((hsl.le (Hp.le_set hnb)).lex htv.1 (hT.new hnb))
   refine Ajd ?_; intro K hK
   simp -implicitDefEqProofs (disch := first | omega | (simp only [qd] <;> omega)) only [xq, ↓xp, qc, Nat.reduceAdd, List.range, List.range.loop, fine, Nat.reduceEqDiff, ↓reduceIte, yielded, reduceCtorEq, Nat.reduceLT, Nat.reduceMul, Nat.reduceSub, one, Nat.reduceLeDiff, Aqa, Bxk, e0, e3, e5, e6, cell_of hnb', cell_of hrb', hcw', exists_eq_left']
   refine (Cqh m H' b (k + (xss.length - (j + 1))) w xss[j] hsl' (hne _ hmem).1 (by have := (hne _ hmem).2; omega) (by rw [show k + (xss.length - (j + 1)) + 1 = k + (xss.length - j) by omega]; exact hT')).runs.mono ?_; rintro _ _ ⟨r, hr, rfl, hl2, hT2⟩; simp -implicitDefEqProofs (disch := first | omega | (simp only [qd] <;> omega)) only [xq, ↓xp, qc, Nat.reduceAdd, List.range, List.range.loop, fine, Nat.reduceEqDiff, ↓reduceIte, yielded, reduceCtorEq, Nat.reduceLT, Nat.reduceMul, Nat.reduceSub, one, Nat.reduceLeDiff, Aqa, Bxk, e5]
   intro gb hgb
   have htv2 := htv.lex hl2 (hT'.notI (by decide))
   refine Bku htv2 hgb (by omega) _ _ _ _ ?_
   intro v' H5 hr5 ho5
   (refine @unH _ ?_; refine z0 Bxk ?_)
   refine hK _ _ ?_; clear hK K
   simp -implicitDefEqProofs (disch := first | omega | (simp only [qd] <;> omega)) only [thn, blk, ↓reduceIte, Nat.reduceEqDiff]
   (refine @unH _ ?_; refine z2 (And.intro Bxk @e6) ?_)
   simp -implicitDefEqProofs (disch := first | omega | (simp only [qd] <;> omega)) only [thn, blk, ↓reduceIte, Nat.reduceEqDiff]
   refine ⟨_, ?_, _, j + 1, v', ts ++ [r], rfl, hlt, rfl, e0, e3, rfl, rfl, hr5, by simp [htl], fun i t xs hi hx => ?_, ho5.tin (by decide) hT2⟩
   ·omega
   ·by_cases hij : i < ts.length
    ·rw [List.getElem?_append_left hij] at hi
     exact hti i t xs hi hx
    ·rw [List.getElem?_append_right (by omega)] at hi
     have h1 := (List.getElem?_eq_some_iff.1 hi).1
     simp at h1
     have : i = j := by omega
     subst this
     rw [show i - ts.length = 0 by omega] at hi
     simp at hi
     rw [List.getElem?_eq_getElem hlt] at hx
     rw [<- hi, <- Option.some.inj hx]
     exact hr
  ·simp only [Int.ofNat_lt, hlt, decide_false, Bool.false_eq_true, if_false]
   (refine Axa ?_; simp only [thn, blk, ↓reduceIte, Nat.reduceEqDiff])
   (refine @unH _ ?_; refine z1 (And.intro Bxk @e5) ?_)
   (refine @unH _ ?_; refine z9 Tryz.results95 ?_)
   have : j = xss.length := by omega
   exact ⟨_, ts, rfl, htv.ints, ⟨by omega, hti⟩, (Lex.refl.new hnb).trans htv.1, hT'.less (by omega)⟩
theorem Avt {P : Program} {main : Md} {lp : Option Nat} {Q : Exit -> Act -> Hp -> Prop} {a : Act} {H : Hp} {nb : Nat} {u : Bool × Obj} {t i : Nat} {ops : List Oper} {o : Oper} {rest : List (Bool × Nat)} {v : Value} (ho : ops[i]? = some o) (hw : Region.wanted o (yielded ops.toArray a.tmps) = true) (hf : fine lp o = true)
  (hS : H nb = some u) (h : ∀ H', H' nb = some u -> wpS P (execOp a.eval o) H' (YN P main v H') fun _ _ => False) (hk : Ak8 P main lp ops.toArray Q (fun H' => H' nb = some u) t rest (a.put o.dst v) H) : Ak8 P main lp ops.toArray Q (fun H' => H' nb = some u) t ((true, i) :: rest) a H :=
 ⟨hS, o, by simpa using ho, v, .inl ⟨hw, hf, h⟩, hk⟩
theorem Ajk {P : Program} {main : Md} {lp : Option Nat} {Q : Exit -> Act -> Hp -> Prop} {S : Hp -> Prop} {a : Act} {H : Hp} {t i : Nat} {ops : Array Oper} {rest : List (Bool × Nat)} (h : numX P main lp ops i Q (fun a' H' => (i = t ∨ S H') /\ Ak8 P main lp ops Q S t rest a' H') a H) : Ak8 P main lp ops Q S t ((false, i) :: rest) a H := h
def Az5 (places pieces : Int) (start : List Int) (xss : List (List Int)) : Prop :=
 1 <= places /\ places <= 4 /\ 1 <= pieces /\ pieces <= 6 /\ (start.length : Int) <= places /\ start.Nodup /\ (∀ x ∈ start, 0 <= x /\ x < pieces) /\ ∀ xs ∈ xss, Bx2 pieces.toNat xs
theorem vaultOf_spec (m : Md) (H : Hp) (b k : Nat) (calls each : Nat) (hc : calls <= 8) (he0 : 1 <= each) (he : each <= 100) (hT : TinI H b (k + 20 + calls * 9)) :
  FnX Tryz.prog m 46 #[.pointer (some ⟨b, 0, none⟩), .int .i64 calls, .int .i64 each] H fun e H' => ∃ places pieces st start cv xss tv ts, e = .returned (.tuple #[.agg #[.int .i64 places, .int .i64 pieces, st, cv], tv]) /\
   SlI H' st start /\ SlR H' cv xss /\ SlI H' tv ts /\ Az5 places pieces start xss /\ xss.length <= calls /\ Azz xss ts /\ Lex (some b) H H' /\ TinI H' b k := by
 refine Aqk Tryz.func46 rfl Tryz.ntmps46 (by simp) ?_
 (refine @unH _ ?_; refine z8 Azx ?_; try (refine inK ?_; intro K hK))
 intro rb hrb
 refine hK _ _ ?_; clear hK K
 have hl0 : Lex (some b) H (H.set rb (.cells #[.int .i64 0, .int .i64 0, .slice none 0 0, .slice none 0 0] 25 (0, 0))) := Lex.refl.new hrb
 have hT0 := hT.new hrb (o := .cells #[.int .i64 0, .int .i64 0, .slice none 0 0, .slice none 0 0] 25 (0, 0))
 have hrbn := hT.ne hrb
 (refine @unH _ ?_; refine z8 Azx ?_; try (refine inK ?_; intro K hK))
 intro gb hgb
 refine (Cqh m _ b (k + 18 + calls * 9) _ [1, 2, 2, 3, 3, 4] (by exact SlI.lit (vs := [_, _, _, _, _, _]) _ rfl rfl) (by simp) (by simp) (by exact (hT0.new hgb).less (by omega))).runs.mono ?_; rintro _ _ ⟨pl, hpl, rfl, hl1, hT1⟩; simp -implicitDefEqProofs (disch := first | omega | (simp only [qd] <;> omega)) only [xq, ↓xp, qc, Nat.reduceAdd, List.range, List.range.loop, fine, Nat.reduceEqDiff, ↓reduceIte, yielded, reduceCtorEq, Nat.reduceLT, Nat.reduceMul, Nat.reduceSub, one, Nat.reduceLeDiff, Aqa, Azx]
 refine (Cwc m _ b (k + 17 + calls * 9) 1 6 (by omega) (by omega) (by omega) (by omega) (hT1.less (by omega))).runs.mono ?_; rintro _ _ ⟨pc, hpc0, hpc1, rfl, hl2, hT2⟩; simp -implicitDefEqProofs (disch := first | omega | (simp only [qd] <;> omega)) only [xq, ↓xp, qc, Nat.reduceAdd, List.range, List.range.loop, fine, Nat.reduceEqDiff, ↓reduceIte, yielded, reduceCtorEq, Nat.reduceLT, Nat.reduceMul, Nat.reduceSub, one, Nat.reduceLeDiff, Aqa, Azx]
 intro nb hnb
 refine hK _ _ ?_; clear hK K
 have hnbn : nb ≠ b := hT2.ne hnb
 have hT3 := hT2.new hnb (o := .cells #[.int .i64 pl, .int .i64 pc, .slice none 0 0, .slice none 0 0] 25 (0, 0))
 have hl3 := ((((Lex.refl.new hgb).trans hl1).trans hl2).new hnb (o := .cells #[.int .i64 pl, .int .i64 pc, .slice none 0 0, .slice none 0 0] 25 (0, 0)))
 obtain ⟨pieces, rfl⟩ := Int.eq_ofNat_of_zero_le (show 0 <= pc by omega)
 have hpl' : 1 <= pl /\ pl <= 4 := by simp at hpl; omega
 clear hpl
 (refine @unH _ ?_; refine z8 (And.intro Azx @exists_eq_left'.{1}) ?_; try (refine inK ?_; intro K hK))
 refine (Bkj m _ b (k + 11 + calls * 9) pieces (by omega) (by exact hT3.less (by omega))).runs.mono ?_
 rintro _ H4 ⟨order, os, rfl, hos, hol, hond, hob, hl4, hT4⟩
 (refine @unH _ ?_; refine z0 Azx ?_)
 refine hK _ _ ?_; clear hK K
 have hnb4 := hl4.keeps Aqw hnbn
 obtain ⟨ob, oo, oc, op, cc, ofr, rfl, hoc, hob4, hcc⟩ := hos.cons (by intro h; rw [h] at hol; simp at hol; omega)
 refine Bjz (fun H' => H' nb = some (true, .cells #[.int .i64 pl, .int .i64 (pieces : Int), .slice none 0 0, .slice none 0 0] 25 (0, 0))) 18 [(true, 0), (true, 1), (true, 2), (true, 3), (true, 4), (true, 5), (true, 6), (true, 7), (true, 8), (true, 9), (true, 10), (false, 11), (false, 12), (false, 13), (true, 14), (true, 15), (false, 16), (true, 17), (false, 18)] (by kernel_rfl) (by kernel_rfl) (by simp) (by kernel_rfl) ?_
 intro K hK
 iterate 11 (apply Avt rfl rfl rfl ‹_›; (focus (intro HX hHX; simp -implicitDefEqProofs (disch := first | omega | (simp only [qd] <;> omega)) only [xq, ↓xp, qc, Nat.reduceAdd, List.range, List.range.loop, fine, Nat.reduceEqDiff, ↓reduceIte, yielded, reduceCtorEq, Nat.reduceLT, Nat.reduceMul, Nat.reduceSub, one, Nat.reduceLeDiff, Aqa, Azx, exists_eq_left', cell_of hHX, Ajn hHX] <;> (first | exact rfl | exact ⟨rfl, rfl⟩))); simp only [Aqn, Aqc])
 (refine @unH _ ?_; refine zE Azx ?_)
 refine (Dj7 m _ b (k + 10 + calls * 9) pl (by omega) (by exact hT4.less (by omega))).runs.mono ?_
 rintro _ H5 ⟨r, hr0, hr1, rfl, hl5, hT5⟩
 (refine @unH _ ?_; refine z0 Azx ?_)
 have hnb5 := hl5.keeps hnb4 hnbn
 refine ⟨.inr hnb5, ?_⟩
 (refine @unH _ ?_; refine zE Azx ?_)
 intro g2 hg2
 refine ⟨.inr (Hp.le_set hg2 _ _ hnb5), ?_⟩
 (refine @unH _ ?_; refine zE Azx ?_)
 refine (Cqh m _ b (k + 9 + calls * 9) _ [0, pl, pl, r] (by exact SlI.lit (vs := [_, _, _, _]) _ rfl rfl) (by simp) (by simp) (by exact (hT5.new hg2).less (by omega))).runs.mono ?_
 rintro _ H6 ⟨q, hq, rfl, hl6, hT6⟩
 (refine @unH _ ?_; refine z0 Azx ?_)
 have hnb6 := hl6.keeps (Hp.le_set hg2 _ _ hnb5) hnbn
 have hob6 := hl6.keeps (Hp.le_set hg2 _ _ (hl5.keeps hob4 (hT4.neI hob4))) (hT4.neI hob4)
 have hq' : 0 <= q /\ q <= pl := by simp at hq; omega
 clear hq
 obtain ⟨mm, hmm, hm0, hm1, hm2⟩ : ∃ mm : Nat, (if q < (pieces : Int) then q else (pieces : Int)) = mm /\ (mm : Int) <= pl /\ mm <= pieces /\ mm <= 1000 :=
  ⟨(if q < (pieces : Int) then q else (pieces : Int)).toNat, by split <;> omega, by split <;> omega, by split <;> omega, by split <;> omega⟩
 refine ⟨.inr hnb6, ?_⟩
 iterate 2 (apply Avt rfl rfl rfl ‹_›; (focus (intro HX hHX; simp -implicitDefEqProofs (disch := first | omega | (simp only [qd] <;> omega)) only [xq, ↓xp, qc, Nat.reduceAdd, List.range, List.range.loop, fine, Nat.reduceEqDiff, ↓reduceIte, yielded, reduceCtorEq, Nat.reduceLT, Nat.reduceMul, Nat.reduceSub, one, Nat.reduceLeDiff, Aqa, Azx, hmm, Int.toNat_natCast, cell_of hHX, Ajn hHX] <;> (first | exact rfl | exact ⟨rfl, rfl⟩))); simp only [Aqn, Aqc])
 (refine @unH _ ?_; refine zE Azx ?_)
 refine (Bvg m _ ob oo mm oc (os.take mm) (fun j y hj => ?_) (by rw [List.length_take]; omega) (by omega) ⟨_, hob6⟩).runs.mono ?_
 ·rw [cell_of hob6]
  by_cases hjm : j < mm
  ·rw [List.getElem?_take_of_lt hjm] at hj
   exact hcc j y hj
  ·rw [List.getElem?_eq_none (by simp; omega)] at hj; cases hj
 rintro _ H7 ⟨sv, rfl, hsv, hl7⟩
 have hnb7 := hl7 _ _ hnb6
 obtain ⟨sa, scap, rfl, hscap, hsi⟩ := hsv
 (refine @unH _ ?_; refine z0 Azx ?_)
 refine ⟨.inr hnb7, ?_⟩
 (apply Avt rfl rfl rfl ‹_›; (focus (intro HX hHX; simp -implicitDefEqProofs (disch := first | omega | (simp only [qd] <;> omega)) only [xq, ↓xp, qc, Nat.reduceAdd, List.range, List.range.loop, fine, Nat.reduceEqDiff, ↓reduceIte, yielded, reduceCtorEq, Nat.reduceLT, Nat.reduceMul, Nat.reduceSub, one, Nat.reduceLeDiff, Aqa, Azx, cell_of hHX, Ajn hHX] <;> (first | exact rfl | exact ⟨rfl, rfl⟩))); simp only [Aqn, Aqc])
 (refine Ajk ?_; simp -implicitDefEqProofs (disch := first | omega | (simp only [qd] <;> omega)) only [xq, ↓xp, qc, Nat.reduceAdd, List.range, List.range.loop, fine, Nat.reduceEqDiff, ↓reduceIte, yielded, reduceCtorEq, Nat.reduceLT, Nat.reduceMul, Nat.reduceSub, one, Nat.reduceLeDiff, Aqa, Azx, Bxb hnb7, Awd hnb7])
 refine ⟨.inl (by trivial), Ax1 (hK _ _ ?_)⟩
 clear hK K
 have hT7 := hT6.le hl7
 have hT8 := hT7.own hnb7 (Ne.symm hnbn) (o' := .cells #[.int .i64 pl, .int .i64 (pieces : Int), .slice sa (os.take mm).length scap, .slice none 0 0] 25 (0, 0))
 have hsv8 : SlI (H7.set nb (.cells #[.int .i64 pl, .int .i64 (pieces : Int), .slice sa (os.take mm).length scap, .slice none 0 0] 25 (0, 0))) (.slice sa (os.take mm).length scap) (os.take mm) :=
  SlI.set ⟨sa, scap, rfl, hscap, hsi⟩ fun p c fr e => by rw [hnb7] at e; cases e
 have hL7 := (((hl3.trans hl4).trans hl5).new hg2 (o := .cells #[.int .i64 0, .int .i64 pl, .int .i64 pl, .int .i64 r] 3 (0, 0))).trans hl6 |>.le hl7
 have hnb0 := (((Lex.refl.new hgb (o := .cells #[.int .i64 1, .int .i64 2, .int .i64 2, .int .i64 3, .int .i64 3, .int .i64 4] 3 (0, 0))).trans hl1).trans hl2).gone hnb
 have hL8 := hL7.own hnb0 (o := .cells #[.int .i64 pl, .int .i64 (pieces : Int), .slice sa (os.take mm).length scap, .slice none 0 0] 25 (0, 0))
 have hnb8 : (H7.set nb (.cells #[.int .i64 pl, .int .i64 (pieces : Int), .slice sa (os.take mm).length scap, .slice none 0 0] 25 (0, 0))) nb = _ := Aqw
 generalize (H7.set nb (.cells #[.int .i64 pl, .int .i64 (pieces : Int), .slice sa (os.take mm).length scap, .slice none 0 0] 25 (0, 0))) = H8 at *
 (refine Axh ?_; intro K hK; simp -implicitDefEqProofs (disch := first | omega | (simp only [qd] <;> omega)) only [xq, ↓xp, qc, Nat.reduceAdd, List.range, List.range.loop, fine, Nat.reduceEqDiff, ↓reduceIte, yielded, reduceCtorEq, Nat.reduceLT, Nat.reduceMul, Nat.reduceSub, one, Nat.reduceLeDiff, Aqa, Azx, cell_of hnb8, exists_eq_left'])
 refine (Bwi m H8 b (k + calls) calls pieces each (by omega) (by omega) (by omega) he0 he (hT8.less (by have : calls * (pieces + 2) <= calls * 8 := Nat.mul_le_mul_left _ (by omega); omega))).runs.mono ?_
 rintro _ H9 ⟨cv, xss, rfl, hcv, hxl, hxo, hl9, hT9⟩
 have hnb9 := hl9.keeps hnb8 hnbn
 obtain ⟨ca, ccap, rfl, hccap, hci⟩ := hcv
 simp -implicitDefEqProofs (disch := first | omega | (simp only [qd] <;> omega)) only [xq, ↓xp, qc, Nat.reduceAdd, List.range, List.range.loop, fine, Nat.reduceEqDiff, ↓reduceIte, yielded, reduceCtorEq, Nat.reduceLT, Nat.reduceMul, Nat.reduceSub, one, Nat.reduceLeDiff, Aqa, Azx, Bxb hnb9, Awd hnb9]
 refine hK _ _ ?_; clear hK K
 have hnbI : ∀ p c fr e, (e = 3 ∨ e = 22) -> H9 nb ≠ some (p, .cells c e fr) := fun p c fr e he h => by
  rw [hnb9] at h
  simp only [Option.some.injEq, Prod.mk.injEq, Obj.cells.injEq] at h
  rcases he with he | he <;> rw [he] at h <;> exact absurd h.2.2.1 (by decide)
 have hsv9 := hsv8.lex hl9 hT8
 have hsv10 := hsv9.set (o := .cells #[.int .i64 pl, .int .i64 (pieces : Int), .slice sa (os.take mm).length scap, .slice ca xss.length ccap] 25 (0, 0)) fun p c fr => hnbI p c fr _ (.inl rfl)
 have hcv10 : SlR (H9.set nb (.cells #[.int .i64 pl, .int .i64 (pieces : Int), .slice sa (os.take mm).length scap, .slice ca xss.length ccap] 25 (0, 0))) (.slice ca xss.length ccap) xss :=
  SlR.move ⟨ca, ccap, rfl, hccap, hci⟩ fun x p c fr e he hx => by rw [Aqp (H := H9) (b := nb) (b' := x) (fun e' => hnbI p c fr e he (by rw [<- e']; exact hx))]; exact hx
 have hL10 := (hL8.trans hl9).own hnb0 (o := .cells #[.int .i64 pl, .int .i64 (pieces : Int), .slice sa (os.take mm).length scap, .slice ca xss.length ccap] 25 (0, 0))
 have hT10 := hT9.own hnb9 (Ne.symm hnbn) (o' := .cells #[.int .i64 pl, .int .i64 (pieces : Int), .slice sa (os.take mm).length scap, .slice ca xss.length ccap] 25 (0, 0))
 have hnb10 : (H9.set nb (.cells #[.int .i64 pl, .int .i64 (pieces : Int), .slice sa (os.take mm).length scap, .slice ca xss.length ccap] 25 (0, 0))) nb = _ := Aqw
 generalize (H9.set nb (.cells #[.int .i64 pl, .int .i64 (pieces : Int), .slice sa (os.take mm).length scap, .slice ca xss.length ccap] 25 (0, 0))) = H10 at *
 refine Bjz (fun H' => H' nb = some (true, .cells #[.int .i64 pl, .int .i64 (pieces : Int), .slice sa (os.take mm).length scap, .slice ca xss.length ccap] 25 (0, 0))) 5 [(true, 0), (true, 1), (true, 2), (false, 3), (false, 4), (false, 5)] (by kernel_rfl) (by kernel_rfl) (by simp) (by kernel_rfl) ?_
 intro K hK
 iterate 3 (apply Avt rfl rfl rfl ‹_›; (focus (intro HX hHX; simp -implicitDefEqProofs (disch := first | omega | (simp only [qd] <;> omega)) only [xq, ↓xp, qc, Nat.reduceAdd, List.range, List.range.loop, fine, Nat.reduceEqDiff, ↓reduceIte, yielded, reduceCtorEq, Nat.reduceLT, Nat.reduceMul, Nat.reduceSub, one, Nat.reduceLeDiff, Aqa, Azx, exists_eq_left', cell_of hHX, Ajn hHX] <;> (first | exact rfl | exact ⟨rfl, rfl⟩))); simp only [Aqn, Aqc])
 (refine @unH _ ?_; refine zE Azx ?_)
 refine (Byh m H10 b k pl pieces _ _ (by rfl) xss hcv10 (fun xs h => ⟨(hxo xs h).1, by have := (hxo xs h).len; omega⟩) (by omega) (hT10.less (by omega))).runs.mono ?_
 rintro _ H11 ⟨tv, ts, rfl, hts, htok, hl11, hT11⟩
 obtain ⟨ta, tcap, rfl, htcap, hti⟩ := hts
 have hL11 := hL10.trans hl11
 have hnb11 := hl11.keeps hnb10 hnbn
 have hrb11 := hL11.keeps Aqw hrbn
 have hrbnb : rb ≠ nb := fun e => by rw [<- e, Aqw] at hnb0; cases hnb0
 (refine @unH _ ?_; refine z0 Azx ?_)
 refine ⟨.inr hnb11, ?_⟩
 (refine Ajk ?_; simp -implicitDefEqProofs (disch := first | omega | (simp only [qd] <;> omega)) only [xq, ↓xp, qc, Nat.reduceAdd, List.range, List.range.loop, fine, Nat.reduceEqDiff, ↓reduceIte, yielded, reduceCtorEq, Nat.reduceLT, Nat.reduceMul, Nat.reduceSub, one, Nat.reduceLeDiff, Aqa, Azx, Bxb hrb11])
 refine ⟨.inr (by rw [Aqp (Ne.symm hrbnb)]; exact hnb11), ?_⟩
 (refine @unH _ ?_; refine zE Azx ?_)
 refine ⟨.inl (by trivial), Ax1 (hK _ _ ?_)⟩
 clear hK K
 (refine Ax7 ?_; (try simp only [nq, ↓reduceIte, Nat.reduceEqDiff]); rw [Axw, results_cell_tmp Tryz.results46 (by decide) (by decide) (b := rb) (o := 0) rfl Tryz.underlying25 rfl Tryz.sizeOf25]; simp -implicitDefEqProofs (disch := first | omega | (simp only [qd] <;> omega)) only [xq, ↓xp, qc, Nat.reduceAdd, List.range, List.range.loop, fine, Nat.reduceEqDiff, ↓reduceIte, yielded, reduceCtorEq, Nat.reduceLT, Nat.reduceMul, Nat.reduceSub, one, Nat.reduceLeDiff, Aqa, Azx, Ajh])
 have hrbI : ∀ p c fr e, (e = 3 ∨ e = 22) -> H11 rb ≠ some (p, .cells c e fr) := fun p c fr e he h => by
  rw [hrb11] at h
  simp only [Option.some.injEq, Prod.mk.injEq, Obj.cells.injEq] at h
  rcases he with he | he <;> rw [he] at h <;> exact absurd h.2.2.1 (by decide)
 refine ⟨pl, pieces, _, os.take mm, _, xss, _, ts, rfl, (hsv10.lex hl11 hT10).set fun p c fr => hrbI p c fr _ (.inl rfl), (hcv10.lex hl11 hT10).move fun x p c fr e he hx => ?_,
  SlI.set ⟨ta, tcap, rfl, htcap, hti⟩ fun p c fr => hrbI p c fr _ (.inl rfl), ⟨by omega, by omega, by omega, by omega, by rw [List.length_take]; omega, (List.take_sublist _ _).nodup hond, fun x hx => hob x (List.mem_of_mem_take hx), fun xs h => hxo xs h⟩,
  hxl, htok, ((Lex.refl.new hrb).trans hL11).own hrb, hT11.own hrb11 (Ne.symm hrbn)⟩
 rw [Aqp (H := H11) (b := rb) (b' := x) (fun e' => hrbI p c fr e he (by rw [<- e']; exact hx))]
 exact hx
end Go.Proofs.YtgniilnljeedlaaGreatDoor
end
section
namespace Go.Proofs.YtgniilnljeedlaaGreatDoor
open Go Go.X
def Dqw := @Bwf
theorem RowX.own {t : Option Nat} {H₀ H : Hp} {v : Value} {e e' : TypeId} {cs : List Value} (h : RowX t H₀ H v e cs) {x : Nat} {p : Bool} {c' : Array Value} {fr : Nat × Nat} (hx0 : H₀ x = none) (hx : H x = some (p, .cells c' e' fr)) (he : e' ≠ e) {o : Obj} : RowX t H₀ (H.set x o) v e cs := by
 refine ⟨h.1.own hx0, h.2.imp id ?_⟩
 rintro ⟨b, c, cap, h0, h1, h2, h3, h4, h5⟩
 refine ⟨b, c, cap, h0, ?_, h2, h3, h4, h5⟩
 rw [Aqp (H := H) (b := x) (b' := b) (fun e'' => ?_)]
 ·exact h1
 ·rw [e'', hx] at h1
  simp only [Option.some.injEq, Prod.mk.injEq, Obj.cells.injEq] at h1
  exact he h1.2.2.1
def drop (H : Hp) (b : Nat) : Hp := fun x => if x = b then none else H x
section
variable {H H' : Hp} {sv : Value} {start : List Int} {cv : Value} {xss : List (List Int)} {tv : Value} {ts : List Int}
end
theorem newTin_spec (m : Md) (H : Hp) (sa : Option Addr) (sl sc : Nat) (hs : ∀ i : Nat, i < sl -> ∃ sb so c e fr x, sa = some ⟨sb, so, none⟩ /\ H sb = some (false, .cells c e fr) /\ c[so + i]? = some (.int .i64 x)) (k : Nat) (hk : k <= 4611686018427387904) :
  FnX Tryz.prog m 23 #[.slice sa sl sc] H fun e H' => ∃ b, e = .returned (.pointer (some ⟨b, 0, none⟩)) /\ H.le H' /\ TinI H' b k := by
 refine Aqk Tryz.func23 rfl Tryz.ntmps23 (by simp) ?_
 (refine @unH _ ?_; refine z1 @Dqw ?_)
 (refine @unH _ ?_; refine z8 @Dqw ?_; try (refine inK ?_; intro K hK))
 intro b hb
 refine hK _ _ ?_; clear hK K
 (refine @unH _ ?_; refine z9 Tryz.results23 ?_)
 refine ⟨b, rfl, Hp.le_set hb, sa, sl, sc, 0, _, Aqw, by omega, by omega, fun i hi => ?_⟩
 obtain ⟨sb, so, c, e, fr, x, h1, h2, h3⟩ := hs i hi
 exact ⟨sb, so, c, e, fr, x, h1, Hp.le_set hb _ _ h2, h3⟩
end Go.Proofs.YtgniilnljeedlaaGreatDoor
end
