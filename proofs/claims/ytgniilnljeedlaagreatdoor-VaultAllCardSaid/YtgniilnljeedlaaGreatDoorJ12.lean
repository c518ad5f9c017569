/- Texts Office Maps Days Day. -/
import Derived.Test.YtgniilnljeedlaaGreatDoorJ11
set_option linter.defProp false
set_option linter.unusedSimpArgs false
set_option linter.unusedVariables false
set_option maxRecDepth 100000
set_option maxHeartbeats 2000000
section
namespace Go.Proofs.YtgniilnljeedlaaGreatDoor
open Go Go.X
def Akl := And.intro @By5 @Axp
def Awg := And.intro (fun H => Aq5 (H := H) Tryz.underlying22) (And.intro (fun H => Aqq (H := H) Tryz.underlying22 Tryz.sizeOf3) (And.intro (fun H => Aqd (H := H) Tryz.underlying3 rfl) @Bk5))
def Aky (m n : Nat) : Nat := m ||| 2 ^ n
def Avb (m n : Nat) : Nat := m &&& (63 - 2 ^ n)
def Aq4 (m : Nat) : Nat := (List.range 6).countP fun n => m.testBit n
def Awl (m k : Nat) : List Int := ((List.range k).filter fun n => m.testBit n).map fun n : Nat => (n : Int)
def Ax4 (m : Nat) : List Int := Awl m 6
def oOf (xs : List Int) : Nat := xs.foldl (fun m x => Aky m x.toNat) 0
theorem Cyw : ∀ m : Fin 64, ∀ n : Fin 6, (bitv (fun x a b => a &&& b) IntKind.u8 ((m.val : Int).fdiv (2 ^ min (n.val : Int).toNat IntKind.u8.bits)) 1 == 1) = m.val.testBit (n.val : Int).toNat := by decide +kernel
theorem Byp : ∀ m : Fin 64, ∀ n : Fin 6, bitv (fun x a b => a ||| b) IntKind.u8 (m.val : Int) (IntKind.u8.wrap (1 * 2 ^ min (n.val : Int).toNat IntKind.u8.bits)) = (Aky m.val (n.val : Int).toNat : Nat) /\ Aky m.val (n.val : Int).toNat < 64 := by decide +kernel
theorem Bzg : ∀ m : Fin 64, ∀ n : Fin 6, bitv (fun x a b => a &&& ~~~b) IntKind.u8 (m.val : Int) (IntKind.u8.wrap (1 * 2 ^ min (n.val : Int).toNat IntKind.u8.bits)) = (Avb m.val (n.val : Int).toNat : Nat) /\ Avb m.val (n.val : Int).toNat < 64 := by decide +kernel
theorem Czw : ∀ m : Fin 64, m.val ≠ 0 -> bitv (fun x a b => a &&& b) IntKind.u8 (m.val : Int) (IntKind.u8.wrap ((m.val : Int) - 1)) = (m.val &&& (m.val - 1) : Nat) /\ (m.val &&& (m.val - 1)) < m.val /\ Aq4 (m.val &&& (m.val - 1)) + 1 = Aq4 m.val := by decide +kernel
theorem Cqp : ∀ m : Fin 64, Aq4 m.val <= 6 := by decide +kernel
theorem Awy (m : Nat) (hm : m < 64) : Aq4 m <= 6 := Cqp ⟨m, hm⟩
theorem Bja {m : Nat} {n : Int} (hm : m < 64) (h0 : 0 <= n) (h1 : n < 6) : ∃ (a : Fin 64) (b : Fin 6), a.val = m /\ (b.val : Int) = n := ⟨⟨m, hm⟩, ⟨n.toNat, by omega⟩, rfl, by simp; omega⟩
theorem Bq3 {m : Nat} {n : Int} (hm : m < 64) (h0 : 0 <= n) (h1 : n < 6) : Aky m n.toNat < 64 := by
 obtain ⟨a, b, rfl, rfl⟩ := Bja hm h0 h1
 exact (Byp a b).2
theorem Bjk {m : Nat} {n : Int} (hm : m < 64) (h0 : 0 <= n) (h1 : n < 6) : Avb m n.toNat < 64 := by
 obtain ⟨a, b, rfl, rfl⟩ := Bja hm h0 h1
 exact (Bzg a b).2
theorem Bvf (main : Md) (H : Hp) (m : Nat) (n : Int) (hm : m < 64) (h0 : 0 <= n) (h1 : n < 6) :
  FnX Tryz.prog main 83 #[.int .u8 m, .int .i64 n] H fun e H' => e = .returned (.bool (m.testBit n.toNat)) /\ H' = H := by
 refine Aqk Tryz.func83 rfl Tryz.ntmps83 (by simp) ?_
 (refine @unH _ ?_; refine z1 trivial ?_)
 (refine @unH _ ?_; refine z1 trivial ?_)
 (refine @unH _ ?_; refine z9 Tryz.results83 ?_)
 obtain ⟨a, b, rfl, rfl⟩ := Bja hm h0 h1
 exact ⟨by rw [Cyw a b], trivial⟩
theorem Bxc (main : Md) (H : Hp) (m : Nat) (n : Int) (hm : m < 64) (h0 : 0 <= n) (h1 : n < 6) :
  FnX Tryz.prog main 79 #[.int .u8 m, .int .i64 n] H fun e H' => e = .returned (.int .u8 (Aky m n.toNat)) /\ H' = H := by
 refine Aqk Tryz.func79 rfl Tryz.ntmps79 (by simp) ?_
 (refine @unH _ ?_; refine z1 trivial ?_)
 (refine @unH _ ?_; refine z1 trivial ?_)
 (refine @unH _ ?_; refine z9 Tryz.results79 ?_)
 obtain ⟨a, b, rfl, rfl⟩ := Bja hm h0 h1
 exact ⟨by rw [(Byp a b).1], trivial⟩
theorem Byq (main : Md) (H : Hp) (m : Nat) (n : Int) (hm : m < 64) (h0 : 0 <= n) (h1 : n < 6) :
  FnX Tryz.prog main 137 #[.int .u8 m, .int .i64 n] H fun e H' => e = .returned (.int .u8 (Avb m n.toNat)) /\ H' = H := by
 refine Aqk Tryz.func137 rfl Tryz.ntmps137 (by simp) ?_
 (refine @unH _ ?_; refine z1 trivial ?_)
 (refine @unH _ ?_; refine z1 trivial ?_)
 (refine @unH _ ?_; refine z9 Tryz.results137 ?_)
 obtain ⟨a, b, rfl, rfl⟩ := Bja hm h0 h1
 exact ⟨by rw [(Bzg a b).1], trivial⟩
theorem Bkd (main : Md) (H : Hp) (m : Nat) (hm : m < 64) :
  FnX Tryz.prog main 80 #[.int .u8 m] H fun e H' => e = .returned (.int .i64 (Aq4 m)) /\ H' = H := by
 refine Aqk Tryz.func80 rfl Tryz.ntmps80 (by simp) ?_
 (refine @unH _ ?_; refine z1 trivial ?_)
 (refine @unH _ ?_; refine z1 trivial ?_)
 refine Aql ?_
 refine Aqo (Axe (fun w a' H' => ∃ e j, w < 64 /\ a' = act 13 e [] /\ e 0 = .int .u8 (w : Nat) /\ e 3 = .int .i64 (j : Nat) /\ j <= 6 /\ j + Aq4 w = Aq4 m /\ H' = H) (n := m) ?_ ?_)
 ·exact ⟨_, 0, hm, rfl, rfl, rfl, by omega, by omega, rfl⟩
 ·rintro w a' H' ⟨e, j, hw, rfl, e0, e3, hj6, hj, rfl⟩
  refine Aql ?_
  (refine @unH _ ?_; refine z1 @e0 ?_)
  refine Aq9 (by simp -implicitDefEqProofs (disch := first | omega | (simp only [qd] <;> omega)) only [Aqm, Aqr, Nat.reduceEqDiff, ↓reduceIte]; rfl) ?_
  by_cases hz : w = 0
  ·subst hz
   simp only [Int.natCast_zero, bne_self_eq_false, decide_false, Bool.false_eq_true, if_false]
   (refine Axa ?_; simp only [thn, blk, ↓reduceIte, Nat.reduceEqDiff])
   (refine @unH _ ?_; refine z1 @e3 ?_)
   (refine @unH _ ?_; refine z9 Tryz.results80 ?_)
   have : Aq4 0 = 0 := by decide
   exact ⟨by rw [<- hj, this, Nat.add_zero], trivial⟩
  ·have hne : ((w : Int) != 0) = true := by simp; omega
   obtain ⟨h1, h2, h3⟩ := Czw ⟨w, hw⟩ hz
   simp only at h1 h2 h3
   simp only [hne, if_true]
   refine Aqu (Aql (Aqo ?_))
   (refine @unH _ ?_; refine z2 @e3 ?_)
   simp -implicitDefEqProofs (disch := first | omega | (simp only [qd] <;> omega)) only [thn, blk, ↓reduceIte, Nat.reduceEqDiff]
   (refine @unH _ ?_; refine z2 (And.intro @e0 @h1) ?_)
   simp -implicitDefEqProofs (disch := first | omega | (simp only [qd] <;> omega)) only [thn, blk, ↓reduceIte, Nat.reduceEqDiff]
   exact ⟨_, h2, _, j + 1, by omega, rfl, rfl, rfl, by have := Awy m hm; omega, by omega, by trivial⟩
theorem Bjj (m k : Nat) : Awl m (k + 1) = Awl m k ++ if m.testBit k then [(k : Int)] else [] := by
 unfold Awl
 rw [List.range_succ, List.filter_append, List.map_append]
 congr 1
 by_cases h : m.testBit k <;> simp [h]
theorem Bxw (m k : Nat) : (Awl m k).length <= k := by
 unfold Awl
 rw [List.length_map]
 exact Nat.le_trans (List.length_filter_le _ _) (by simp)
theorem Bkh (main : Md) (H : Hp) (m : Nat) (hm : m < 64) :
  FnX Tryz.prog main 112 #[.int .u8 m] H fun e H' => ∃ v, e = .returned v /\ SlI H' v (Ax4 m) /\ H.le H' /\ ∀ a n c, v = .slice (some a) n c -> H a.block = none := by
 refine Aqk Tryz.func112 rfl Tryz.ntmps112 (by simp) ?_
 (refine @unH _ ?_; refine z1 Akl ?_)
 (refine @unH _ ?_; refine z1 Akl ?_)
 refine Aql ?_
 (refine @unH _ ?_; refine z1 Akl ?_)
 refine Aqo (Axe (fun w a' H' => ∃ e j lv, w = 6 - j /\ j <= 6 /\ a' = act 17 e [] /\ e 0 = .int .u8 m /\ e 3 = lv /\ e 5 = .int .i64 (j : Nat) /\ RowX none H H' lv 3 (ints (Awl m j))) (n := 6) ?_ ?_)
 ·exact ⟨_, 0, _, by omega, by omega, rfl, rfl, rfl, rfl, RowX.nil⟩
 ·rintro w a' H' ⟨e, j, lv, rfl, hj, rfl, e0, e3, e5, hrow⟩
  (refine @unH _ ?_; refine z1 (And.intro Akl @e5) ?_)
  refine Aql ?_
  refine Aq9 (by simp -implicitDefEqProofs (disch := first | omega | (simp only [qd] <;> omega)) only [Aqm, Aqr, Nat.reduceEqDiff, ↓reduceIte]; rfl) ?_
  by_cases hlt : j < 6
  ·have hlt' : (j : Int) < 6 := by omega
   simp only [hlt', decide_true, if_true]
   refine Aqu (Aql (Aqo ?_))
   (refine @unH _ ?_; refine z1 (And.intro Akl @e5) ?_)
   (refine @unH _ ?_; refine z8 (And.intro Akl @e0) ?_; try (refine inK ?_; intro K hK))
   refine (Bvf main H' m j hm (by omega) (by omega)).runs.mono ?_
   rintro _ _ ⟨rfl, rfl⟩
   (refine @unH _ ?_; refine z0 Akl ?_)
   refine hK _ _ ?_; clear hK K
   refine Aq9 (by simp -implicitDefEqProofs (disch := first | omega | (simp only [qd] <;> omega)) only [Aqm, Aqr, Nat.reduceEqDiff, ↓reduceIte]; rfl) ?_
   by_cases hb : m.testBit j
   ·simp only [Int.toNat_natCast, hb, if_true]
    refine Ajd ?_; intro K hK
    (refine @unH _ ?_; refine z0 (And.intro Akl @e3) ?_)
    intro gb hgb
    refine Bku hrow hgb (by have := Bxw m j; omega) _ _ _ _ ?_
    intro v' H5 hr5 ho5
    (refine @unH _ ?_; refine z0 Akl ?_)
    refine hK _ _ ?_; clear hK K
    simp -implicitDefEqProofs (disch := first | omega | (simp only [qd] <;> omega)) only [thn, blk, ↓reduceIte, Nat.reduceEqDiff]
    (refine @unH _ ?_; refine z2 (And.intro Akl @e5) ?_)
    simp -implicitDefEqProofs (disch := first | omega | (simp only [qd] <;> omega)) only [thn, blk, ↓reduceIte, Nat.reduceEqDiff]
    refine ⟨_, ?_, _, j + 1, v', rfl, by omega, rfl, e0, rfl, rfl, by rw [Bjj, if_pos hb]; exact hr5⟩
    omega
   ·simp only [Int.toNat_natCast, hb, Bool.false_eq_true, if_false]
    refine Aqu ?_
    simp -implicitDefEqProofs (disch := first | omega | (simp only [qd] <;> omega)) only [thn, blk, ↓reduceIte, Nat.reduceEqDiff]
    (refine @unH _ ?_; refine z2 (And.intro Akl @e5) ?_)
    simp -implicitDefEqProofs (disch := first | omega | (simp only [qd] <;> omega)) only [thn, blk, ↓reduceIte, Nat.reduceEqDiff]
    refine ⟨_, ?_, _, j + 1, lv, rfl, by omega, rfl, e0, e3, rfl, by rw [Bjj, if_neg hb, List.append_nil]; exact hrow⟩
    omega
  ·have hlt' : ¬ (j : Int) < 6 := by omega
   simp only [hlt', decide_false, Bool.false_eq_true, if_false]
   (refine Axa ?_; simp only [thn, blk, ↓reduceIte, Nat.reduceEqDiff])
   (refine @unH _ ?_; refine z1 (And.intro Akl @e3) ?_)
   (refine @unH _ ?_; refine z9 Tryz.results112 ?_)
   have : j = 6 := by omega
   subst this
   refine ⟨_, rfl, hrow.ints, hrow.1.toLe, fun a n c hv => ?_⟩
   rcases hrow.2 with ⟨h1, _⟩ | ⟨b', c', cap', h0, _, h2, _⟩
   ·rw [h1] at hv; cases hv
   ·rw [h2] at hv
    cases hv
    exact h0
theorem Bjd (main : Md) (H : Hp) (m : Nat) (hm : m < 64) :
  FnX Tryz.prog main 112 #[.int .u8 m] H fun e H' => ∃ v, e = .returned v /\ SlI H' v (Ax4 m) /\ H.le H' :=
 (Bkh main H m hm).mono fun e H' ⟨v, h1, h2, h3, _⟩ => ⟨v, h1, h2, h3⟩
theorem Ava : ∀ (xs : List Int) (m : Nat), m < 64 -> (∀ x ∈ xs, 0 <= x /\ x < 6) -> xs.foldl (fun m x => Aky m x.toNat) m < 64
 | [], m, hm, _ => hm
 | x :: xs, m, hm, h => Ava xs _ (Bq3 hm (h x List.mem_cons_self).1 (h x List.mem_cons_self).2) fun y hy => h y (List.mem_cons_of_mem _ hy)
theorem Bvo (main : Md) (H : Hp) (v : Value) (xs : List Int) (hv : SlI H v xs) (hx : ∀ x ∈ xs, 0 <= x /\ x < 6) (hl : xs.length <= 1000000) :
  FnX Tryz.prog main 118 #[v] H fun e H' => e = .returned (.int .u8 (oOf xs)) /\ H' = H := by
 obtain ⟨a, cap, rfl, hc, hv⟩ := hv
 refine Aqk Tryz.func118 rfl Tryz.ntmps118 (by simp) ?_
 (refine @unH _ ?_; refine z1 Awg ?_)
 (refine @unH _ ?_; refine z1 Awg ?_)
 refine Aql ?_
 (refine @unH _ ?_; refine z1 Awg ?_)
 refine Aqo (Axe (fun w a' H' => ∃ e j, w = xs.length - j /\ j <= xs.length /\ a' = act 17 e [] /\ e 3 = .int .u8 (oOf (xs.take j) : Nat) /\ e 6 = .slice a xs.length cap /\ e 7 = .int .i64 xs.length /\ e 8 = .int .i64 (j : Nat) /\ H' = H) (n := xs.length) ?_ ?_)
 ·exact ⟨_, 0, by omega, by omega, rfl, rfl, rfl, rfl, rfl, rfl⟩
 ·rintro w a' H' ⟨e, j, rfl, hj, rfl, e3, e6, e7, e8, rfl⟩
  (refine @unH _ ?_; refine z1 (And.intro Awg (And.intro @e7 @e8)) ?_)
  refine Aql ?_
  refine Aq9 (by simp -implicitDefEqProofs (disch := first | omega | (simp only [qd] <;> omega)) only [Aqm, Aqr, Nat.reduceEqDiff, ↓reduceIte]; rfl) ?_
  by_cases hlt : j < xs.length
  ·simp only [Int.ofNat_lt, hlt, decide_true, if_true]
   refine Aqu (Aql (Aqo ?_))
   obtain ⟨b, o, p, c, fr, rfl, hb, hx'⟩ := hv j xs[j] (List.getElem?_eq_getElem hlt)
   have hx'' : c[o + (j : Int).toNat * 1]? = some (.int .i64 xs[j]) := by simpa using hx'
   have hxj := hx _ (List.getElem_mem hlt)
   (refine Axh ?_; intro K hK; simp -implicitDefEqProofs (disch := first | omega | (simp only [qd] <;> omega)) only [xq, ↓xp, qc, Nat.reduceAdd, List.range, List.range.loop, fine, Nat.reduceEqDiff, ↓reduceIte, yielded, reduceCtorEq, Nat.reduceLT, Nat.reduceMul, Nat.reduceSub, one, Nat.reduceLeDiff, Aqa, Awg, e6, e8, cell_of hb, hx'', exists_eq_left']; refine hK _ _ ?_; clear hK K)
   refine Ajd ?_; intro K hK
   (refine @unH _ ?_; refine z0 (And.intro Awg @e3) ?_)
   refine (Bxc main H' (oOf (xs.take j)) xs[j] (Ava _ 0 (by omega) fun x h => hx x (List.mem_of_mem_take h)) hxj.1 hxj.2).runs.mono ?_
   rintro _ _ ⟨rfl, rfl⟩
   (refine @unH _ ?_; refine z0 Awg ?_)
   refine hK _ _ ?_; clear hK K
   simp -implicitDefEqProofs (disch := first | omega | (simp only [qd] <;> omega)) only [thn, blk, ↓reduceIte, Nat.reduceEqDiff]
   (refine @unH _ ?_; refine z2 (And.intro Awg @e8) ?_)
   simp -implicitDefEqProofs (disch := first | omega | (simp only [qd] <;> omega)) only [thn, blk, ↓reduceIte, Nat.reduceEqDiff]
   refine ⟨_, ?_, _, j + 1, rfl, hlt, rfl, ?_, e6, e7, rfl, by trivial⟩
   ·omega
   ·show Value.int .u8 _ = _
    rw [List.take_add_one, List.getElem?_eq_getElem hlt]
    unfold oOf
    rw [List.foldl_append]
    rfl
  ·simp only [Int.ofNat_lt, hlt, decide_false, Bool.false_eq_true, if_false]
   (refine Axa ?_; simp only [thn, blk, ↓reduceIte, Nat.reduceEqDiff])
   (refine @unH _ ?_; refine z1 (And.intro Awg @e3) ?_)
   (refine @unH _ ?_; refine z9 Tryz.results118 ?_)
   exact ⟨by rw [List.take_of_length_le (by omega)], trivial⟩
end Go.Proofs.YtgniilnljeedlaaGreatDoor
end
section
namespace Go.X
open Go
section
variable {P : Program} {H : Hp}
theorem Bwo {t : TypeId} {k : IntKind} (hu : P.underlying t = some (.int k)) (d : Nat) (j : IntKind) (a b : Int) (K : Bool -> Hp -> Prop) (E : Value -> Hp -> Prop) : wpS P (Op.equalIn (d + 1) t (.int j a) (.int j b)) H K E = K (a == b) H := by
 unfold Op.equalIn
 simp only [Aqb, Aqj hu, if_true, Aqi]
theorem Ak4 {α : Type} (x : α) (K : α -> Hp -> Prop) (E : Value -> Hp -> Prop) : wpS P (Sem.pure x) H K E = K x H := rfl
theorem Bqn (K : Program -> Hp -> Prop) (E : Value -> Hp -> Prop) : wpS P program H K E = K P H := rfl
structure Key2 (P : Program) (ks : TypeId) (k1 k2 : IntKind) : Prop where
 ex : ∃ f1 f2 : Field, P.underlying ks = some (.struct #[f1, f2]) /\ f1.name ≠ "_" /\ f2.name ≠ "_" /\ f1.offset = 0 /\ f2.offset = 1 /\ (∃ d, P.underlying f1.type = some (.int d)) /\ (∃ d, P.underlying f2.type = some (.int d))
 held : P.stoodInHeld ks = false
theorem Bz4 {ks : TypeId} {k1 k2 : IntKind} (h : Key2 P ks k1 k2) (a b c d : Int) (K : Bool -> Hp -> Prop) (E : Value -> Hp -> Prop) :
  wpS P (Op.equal ks (.agg #[.int k1 a, .int k2 b]) (.agg #[.int k1 c, .int k2 d])) H K E = K (a == c && b == d) H := by
 obtain ⟨⟨f1, f2, hu, hn1, hn2, ho1, ho2, ⟨d1, h1⟩, ⟨d2, h2⟩⟩, hh⟩ := h
 unfold Op.equal Op.maxDepth
 rw [show (10000 : Nat) = 9998 + 1 + 1 from rfl]
 unfold Op.equalIn
 simp only [Aqb, Aqj hu, Bqn, hh, Bool.false_eq_true, if_false, Aqi, List.forIn_toArray, List.forIn_cons, List.forIn_nil, hn1, hn2, ne_eq, not_false_eq_true, if_true]
 rw [Awa h1 rfl (v := .int k1 a) _ _ (by simp [ho1])]
 rw [Awa h1 rfl (v := .int k1 c) _ _ (by simp [ho1]), show (9999 : Nat) = 9998 + 1 from rfl, Bwo h1]
 cases a == c
 ·simp only [Bool.not_false, if_true, Aqi, Bool.false_and]
 ·simp only [Bool.not_true, Bool.false_eq_true, if_false, Aqi, Bool.true_and, Aqb]
  rw [Awa h2 rfl (v := .int k2 b) _ _ (by simp [ho2]), Awa h2 rfl (v := .int k2 d) _ _ (by simp [ho2]), Bwo h2]
  cases b == d
  ·simp only [Bool.not_false, if_true, Aqi]
  ·simp only [Bool.not_true, Bool.false_eq_true, if_false, Aqi]
theorem Bx7 {t : TypeId} {k : IntKind} (hu : P.underlying t = some (.int k)) (em : Bool) (n : Nat) (v : Value) (K : Unit -> Hp -> Prop) (E : Value -> Hp -> Prop) : wpS P (Instr.checkKey em (n + 1) t v) H K E = K () H := by
 unfold Instr.checkKey
 rw [Aqb, Aqj hu]
 rfl
theorem Bwj {ks : TypeId} {k1 k2 : IntKind} (h : Key2 P ks k1 k2) (em : Bool) (a b : Int) (K : Unit -> Hp -> Prop) (E : Value -> Hp -> Prop) :
  wpS P (Instr.checkKey em 10000 ks (.agg #[.int k1 a, .int k2 b])) H K E = K () H := by
 obtain ⟨⟨f1, f2, hu, hn1, hn2, ho1, ho2, ⟨d1, h1⟩, ⟨d2, h2⟩⟩, hh⟩ := h
 rw [show (10000 : Nat) = 9998 + 1 + 1 from rfl]
 unfold Instr.checkKey
 rw [Aqb, Aqj hu]
 simp only [Aqb, Aqi, List.forIn_toArray, List.forIn_cons, List.forIn_nil, hn1, hn2, ne_eq, not_false_eq_true, if_true]
 rw [Awa h1 rfl (v := .int k1 a) _ _ (by simp [ho1]), Bx7 h1, Awa h2 rfl (v := .int k2 b) _ _ (by simp [ho2]), Bx7 h2]
def MapF (k1 k2 kv : IntKind) (ok : Int -> Int -> Prop) (F : Int -> Int -> Int) (es : List MapEntry) : Prop := ∀ e ∈ es, ∃ c d, ok c d /\ e.key = .agg #[.int k1 c, .int k2 d] /\ e.val = .int kv (F c d)
theorem Ayu {ks : TypeId} {k1 k2 kv : IntKind} (h : Key2 P ks k1 k2) {ok : Int -> Int -> Prop} {F : Int -> Int -> Int} (a b : Int) (H : Hp) :
  ∀ (es : List MapEntry) (i : Nat), MapF k1 k2 kv ok F es -> ∃ r : Option (Nat × Value), (∀ j v, r = some (j, v) -> i <= j /\ v = .int kv (F a b) /\ ∃ e, es[j - i]? = some e /\ e.key = .agg #[.int k1 a, .int k2 b]) /\
   ∀ (K : Option (Nat × Value) -> Hp -> Prop) (E : Value -> Hp -> Prop), K r H -> wpS P (Instr.findAsking ks (.agg #[.int k1 a, .int k2 b]) es i) H K E
 | [], i, _ => ⟨none, fun j v h => (by cases h), fun K E hk => hk⟩
 | e :: es, i, hm => by
  obtain ⟨c, d, _, hke, hve⟩ := hm e List.mem_cons_self
  unfold Instr.findAsking
  cases hq : (a == c && b == d)
  ·obtain ⟨r, hr, hk⟩ := Ayu h a b H es (i + 1) (fun e he => hm e (List.mem_cons_of_mem _ he))
   refine ⟨r, fun j v hj => ?_, fun K E hK => ?_⟩
   ·obtain ⟨h1, h2, e', h3, h4⟩ := hr j v hj
    refine ⟨by omega, h2, e', ?_, h4⟩
    rw [show j - i = (j - (i + 1)) + 1 by omega, List.getElem?_cons_succ]
    exact h3
   ·rw [Aqb, hke, Bz4 h, hq]
    simp only [Bool.false_eq_true, if_false]
    exact hk K E hK
  ·have hq' := hq
   simp only [Bool.and_eq_true, beq_iff_eq] at hq
   obtain ⟨rfl, rfl⟩ := hq
   refine ⟨some (i, e.val), fun j v hj => ?_, fun K E hK => ?_⟩
   ·cases hj
    exact ⟨Nat.le_refl _, hve, e, by simp, hke⟩
   ·rw [Aqb, hke, Bz4 h, hq']
    simp only [if_true, Aqi]
    exact hK
theorem Bz7 {ks : TypeId} {k1 k2 kv : IntKind} (h : Key2 P ks k1 k2) {ok : Int -> Int -> Prop} {F : Int -> Int -> Int} (a b : Int) (H : Hp)
  (es : List MapEntry) (hm : MapF k1 k2 kv ok F es) : ∃ r : Option (Nat × Value), (∀ j v, r = some (j, v) -> v = .int kv (F a b) /\ ∃ e, es[j]? = some e /\ e.key = .agg #[.int k1 a, .int k2 b]) /\
   ∀ (K : Option (Nat × Value) -> Hp -> Prop) (E : Value -> Hp -> Prop), K r H -> wpS P (Instr.findKey ks (.agg #[.int k1 a, .int k2 b]) es) H K E := by
 obtain ⟨⟨f1, f2, hu, _⟩, _⟩ := id h
 cases es with
 | nil =>
  refine ⟨none, fun j v h => (by cases h), fun K E hK => ?_⟩
  unfold Instr.findKey
  rw [Aqb, Aqj hu]
  exact hK
 | cons e es =>
  obtain ⟨c, d, _, hke, hve⟩ := hm e List.mem_cons_self
  obtain ⟨r, hr, hk⟩ := Ayu h a b H (e :: es) 0 hm
  refine ⟨r, fun j v hj => ?_, fun K E hK => ?_⟩
  ·obtain ⟨_, h2, e', h3, h4⟩ := hr j v hj
   exact ⟨h2, e', by simpa using h3, h4⟩
  ·unfold Instr.findKey
   rw [Aqb, Aqj hu]
   simp only [Instr.findNow, hke, Instr.sameNow]
   exact hk K E hK
theorem Cz8 {mt ks vt : TypeId} {k1 k2 kv : IntKind} {z : Value} (hu : P.underlying mt = some (.map ks vt)) (h : Key2 P ks k1 k2) (hz : ∀ w, (zeroValue vt).run P w = .ok z w) {ok : Int -> Int -> Prop} {F : Int -> Int -> Int} (a b : Int)
  {mb : Nat} {p : Bool} {es : Array MapEntry} {clock : Nat} (hb : H mb = some (p, .map es clock)) (hm : MapF k1 k2 kv ok F es.toList) : ∃ v met, (met = true -> v = .int kv (F a b)) /\ (met = false -> v = z) /\ ∀ (K : Value -> Hp -> Prop) (E : Value -> Hp -> Prop),
   K (.tuple #[v, .bool met]) H -> wpS P (Instr.lookup mt (.map (some mb)) (.agg #[.int k1 a, .int k2 b]) true) H K E := by
 obtain ⟨r, hr, hk'⟩ := Bz7 h a b H es.toList hm
 have step : ∀ (K : Value -> Hp -> Prop) (E : Value -> Hp -> Prop), (match r with | some (_, v) => K (.tuple #[v, .bool true]) H | none => K (.tuple #[z, .bool false]) H) -> wpS P (Instr.lookup mt (.map (some mb)) (.agg #[.int k1 a, .int k2 b]) true) H K E := fun K E hK => by
  unfold Instr.lookup
  simp only [Aqb, Aqj hu]
  refine ⟨p, _, hb, rfl, rfl, ?_⟩
  simp only [Ak4, Aqi, Aqb, Bwj h]
  refine hk' _ _ ?_
  cases r with
  | none =>
   simp only [Aqb, Ax2 hz, Aqi, if_true]
   exact hK
  | some q =>
   obtain ⟨j, v⟩ := q
   simp only [Aqi, if_true]
   exact hK
 cases r with
 | none => exact ⟨z, false, by simp, fun _ => rfl, fun K E hK => step K E hK⟩
 | some q =>
  obtain ⟨j, v⟩ := q
  exact ⟨v, true, fun _ => (hr j v rfl).1, by simp, fun K E hK => step K E hK⟩
theorem Byc (k1 k2 : IntKind) (a b : Int) : Instr.sameBits 10000 (.agg #[.int k1 a, .int k2 b]) (.agg #[.int k1 a, .int k2 b]) = true := by
 rw [show (10000 : Nat) = 9998 + 1 + 1 from rfl]
 simp [Instr.sameBits]
theorem Bvk {mt ks vt : TypeId} {k1 k2 kv : IntKind} (hu : P.underlying mt = some (.map ks vt)) (h : Key2 P ks k1 k2) {ok : Int -> Int -> Prop} {F : Int -> Int -> Int} (a b : Int) (hok : ok a b)
  {mb : Nat} {es : Array MapEntry} {clock : Nat} (hb : H mb = some (true, .map es clock)) (hm : MapF k1 k2 kv ok F es.toList) (K : Unit -> Hp -> Prop) (E : Value -> Hp -> Prop)
  (hk : ∀ es' clock', MapF k1 k2 kv ok F es'.toList -> K () (H.set mb (.map es' clock'))) : wpS P (Instr.mapUpdate mt (.map (some mb)) (.agg #[.int k1 a, .int k2 b]) (.int kv (F a b))) H K E := by
 unfold Instr.mapUpdate
 simp only [Aqb, Aqj hu]
 refine ⟨true, _, hb, rfl, rfl, ?_⟩
 simp only [Ak4, Aqi, Aqb, Bwj h]
 obtain ⟨r, hr, hk'⟩ := Bz7 h a b H es.toList hm
 refine hk' _ _ ?_
 cases r with
 | none =>
  refine ⟨_, hb, rfl, rfl, hk _ _ fun e he => ?_⟩
  simp only [Array.toList_push, List.mem_append, List.mem_singleton] at he
  rcases he with he | rfl
  ·exact hm e he
  ·exact ⟨a, b, hok, rfl, rfl⟩
 | some q =>
  obtain ⟨j, v⟩ := q
  obtain ⟨hv, e, he, hke⟩ := hr j v rfl
  have he' : es[j]? = some e := by simpa using he
  simp only [he', Option.map_some, Option.getD_some, hke, Instr.keyThatStays, Byc, if_true, Aqi]
  refine ⟨_, hb, rfl, rfl, hk _ _ fun x hx => ?_⟩
  simp only [Array.toList_modify] at hx
  obtain ⟨i, hi, rfl⟩ := List.getElem_of_mem hx
  rw [List.getElem_modify]
  split
  ·exact ⟨a, b, hok, rfl, rfl⟩
  ·exact hm _ (List.getElem_mem _)
end
end Go.X
end
section
namespace Go.Proofs.YtgniilnljeedlaaGreatDoor
open Go Go.X
def Cze := And.intro (fun H => Aq1 (H := H) (P := Tryz.prog) (h := Tryz.zeroValue105)) (And.intro (fun H => Aqh (H := H) Tryz.underlying97 (i := 0) rfl (off := 0) rfl Tryz.sizeOf25) (And.intro (fun H => Aqh (H := H) Tryz.underlying25 (i := 2) rfl (off := 2) rfl Tryz.sizeOf22) (And.intro (fun H => Aqd (H := H) Tryz.underlying22 rfl) (And.intro @Cw1 (And.intro @By3 (fun H => Aq3 (H := H) Tryz.sizeOf105))))))
def Dqy := And.intro (fun H => Aqx (H := H) Tryz.underlying25 rfl Tryz.sizeOf25) @Bj4
def Bqq := And.intro (fun H => Aqh (H := H) Tryz.underlying105 (i := 1) rfl (off := 1) rfl Tryz.sizeOf92) (And.intro (fun H => Aqd (H := H) Tryz.underlying92 rfl) (And.intro (fun H => Aqh (H := H) Tryz.underlying97 (i := 1) rfl (off := 4) rfl Tryz.sizeOf22) (And.intro (fun H => Aqd (H := H) Tryz.underlying22 rfl) (And.intro (fun H => Aqh (H := H) Tryz.underlying105 (i := 0) rfl (off := 0) rfl Tryz.sizeOf3) (And.intro (fun H => Aqd (H := H) Tryz.underlying3 rfl) (And.intro (fun H => Aqq (H := H) Tryz.underlying22 Tryz.sizeOf3) (And.intro @By5 (And.intro @Ckk (And.intro (fun H => Aqh (H := H) Tryz.underlying97 (i := 0) rfl (off := 0) rfl Tryz.sizeOf25) (fun H => Aqh (H := H) Tryz.underlying25 (i := 0) rfl (off := 0) rfl Tryz.sizeOf3))))))))))
def Awf := And.intro (fun H => Aq1 (H := H) (P := Tryz.prog) (h := Tryz.zeroValue105)) (And.intro (fun H => Aqh (H := H) Tryz.underlying105 (i := 1) rfl (off := 1) rfl Tryz.sizeOf92) (And.intro (fun H => Aqd (H := H) Tryz.underlying92 rfl) (And.intro @Cya (And.intro (fun H => Axo (H := H) Tryz.sizeOf92) (And.intro (fun H => Aqh (H := H) Tryz.underlying105 (i := 0) rfl (off := 0) rfl Tryz.sizeOf3) (And.intro (fun H => Aqd (H := H) Tryz.underlying3 rfl) (And.intro (fun H => Aqh (H := H) Tryz.underlying97 (i := 1) rfl (off := 4) rfl Tryz.sizeOf22) (And.intro (fun H => Aqd (H := H) Tryz.underlying22 rfl) (And.intro (fun H => Aqq (H := H) Tryz.underlying22 Tryz.sizeOf3) (And.intro @Bk5 (And.intro @Bkx (fun H => Aq3 (H := H) Tryz.sizeOf105))))))))))))
abbrev dayO (places pieces : Int) (sv cv tv : Value) (mb : Nat) : Obj := .cells #[.int .i64 places, .int .i64 pieces, sv, cv, tv, .map (some mb)] 97 (0, 0)
abbrev Avv (c m : Nat) : Value := .agg #[.int .i64 c, .int .u8 m]
theorem Ayn (main : Md) (H : Hp) (places pieces : Int) (sa : Option Addr) (sn sc : Nat) (ca : Option Addr) (cn cc : Nat) (ta : Option Addr) (tn tc : Nat) :
  FnX Tryz.prog main 91 #[.agg #[.int .i64 places, .int .i64 pieces, .slice sa sn sc, .slice ca cn cc], .slice ta tn tc] H fun e H' => ∃ db mb, e = .returned (.pointer (some ⟨db, 0, none⟩)) /\ H.le H' /\ db ≠ mb /\ H db = none /\ H mb = none /\
   H' db = some (true, dayO places pieces (.slice sa sn sc) (.slice ca cn cc) (.slice ta tn tc) mb) /\ H' mb = some (true, .map #[] 0) := by
 refine Aqk Tryz.func91 rfl Tryz.ntmps91 (by simp) ?_
 (refine @unH _ ?_; refine z8 Dqy ?_; try (refine inK ?_; intro K hK))
 intro bb hbb
 refine hK _ _ ?_; clear hK K
 (refine @unH _ ?_; refine z8 Dqy ?_; try (refine inK ?_; intro K hK))
 intro mb hmb db hdb
 refine hK _ _ ?_; clear hK K
 (refine @unH _ ?_; refine z9 Tryz.results91 ?_)
 have hmn : mb ≠ bb := fun e => by rw [e, Aqw] at hmb; cases hmb
 have hdm : db ≠ mb := fun e => by rw [e, Aqw] at hdb; cases hdb
 exact ⟨db, mb, rfl, fun x v hx => Hp.le_set hdb _ _ (Hp.le_set hmb _ _ (Hp.le_set hbb _ _ hx)), hdm, (Lex.refl (b := none) |>.new hbb |>.new hmb).gone hdb, (Lex.refl (b := none) |>.new hbb).gone hmb, Aqw, by rw [Aqp hdm.symm]; exact Aqw⟩
theorem Aj6 (main : Md) (H : Hp) (db : Nat) (places pieces : Int) (sv cv tv : Value) (start : List Int) (mb : Nat) (hdb : H db = some (true, dayO places pieces sv cv tv mb)) (hs : SlI H sv start) (hx : ∀ x ∈ start, 0 <= x /\ x < 6) (hl : start.length <= 1000000) :
  FnX Tryz.prog main 88 #[.pointer (some ⟨db, 0, none⟩)] H fun e H' => e = .returned (Avv 0 (oOf start)) /\ H.le H' := by
 refine Aqk Tryz.func88 rfl Tryz.ntmps88 (by simp) ?_
 (refine @unH _ ?_; refine z8 Cze ?_; try (refine inK ?_; intro K hK))
 intro rb hrb
 refine hK _ _ ?_; clear hK K
 have hdb' := Hp.le_set hrb (o := .cells #[.int .i64 0, .int .u8 0] 105 (0, 0)) _ _ hdb
 (refine Axh ?_; intro K hK; simp -implicitDefEqProofs (disch := first | omega | (simp only [qd] <;> omega)) only [xq, ↓xp, qc, Nat.reduceAdd, List.range, List.range.loop, fine, Nat.reduceEqDiff, ↓reduceIte, yielded, reduceCtorEq, Nat.reduceLT, Nat.reduceMul, Nat.reduceSub, one, Nat.reduceLeDiff, Aqa, Cze, cell_of hdb', exists_eq_left'])
 refine (Bvo main _ sv start (hs.le (Hp.le_set hrb)) hx hl).runs.mono ?_
 rintro _ _ ⟨rfl, rfl⟩
 (refine @unH _ ?_; refine z0 Cze ?_)
 refine hK _ _ ?_; clear hK K
 (refine Ax7 ?_; (try simp only [nq, ↓reduceIte, Nat.reduceEqDiff]); rw [Axw, Az8 Tryz.results88 (by decide) (b := rb) (o := 0) rfl Tryz.underlying105 rfl Tryz.sizeOf105]; simp -implicitDefEqProofs (disch := first | omega | (simp only [qd] <;> omega)) only [xq, ↓xp, qc, Nat.reduceAdd, List.range, List.range.loop, fine, Nat.reduceEqDiff, ↓reduceIte, yielded, reduceCtorEq, Nat.reduceLT, Nat.reduceMul, Nat.reduceSub, one, Nat.reduceLeDiff, Aqa, Cze, Ajh])
 exact ⟨rfl, Hp.le_set hrb⟩
theorem Ayi (main : Md) (H : Hp) (db : Nat) (places pieces : Int) (sv cv tv : Value) (ts : List Int) (mb : Nat) (hdb : H db = some (true, dayO places pieces sv cv tv mb)) (hts : SlI H tv ts) (c m : Nat) (t : Int) (hc : ts[c]? = some t) (h0 : 0 <= t) (h6 : t < 6) (hm : m < 64) :
  FnX Tryz.prog main 110 #[.pointer (some ⟨db, 0, none⟩), Avv c m] H fun e H' => e = .returned (.tuple #[.bool (!m.testBit t.toNat), .bool (!m.testBit t.toNat && decide (places <= Aq4 m))]) /\ H.le H' := by
 have hcl : c < ts.length := (List.getElem?_eq_some_iff.1 hc).1
 obtain ⟨a, cap, rfl, hcap, hts⟩ := hts
 obtain ⟨tb, to, p, cs, fr, rfl, htb, htc⟩ := hts c t hc
 refine Aqk Tryz.func110 rfl Tryz.ntmps110 (by simp) ?_
 (refine @unH _ ?_; refine z8 Bqq ?_; try (refine inK ?_; intro K hK))
 intro sb hsb
 refine hK _ _ ?_; clear hK K
 have hle := Hp.le_set hsb (o := .cells #[.int .i64 c, .int .u8 m] 105 (0, 0))
 have hdb1 := hle _ _ hdb
 have htb1 := hle _ _ htb
 have hsb1 : (H.set sb (.cells #[.int .i64 c, .int .u8 m] 105 (0, 0))) sb = _ := Aqw
 generalize H.set sb (.cells #[.int .i64 c, .int .u8 m] 105 (0, 0)) = H1 at *
 have htc' : cs[to + (c : Int).toNat * 1]? = some (.int .i64 t) := by simpa using htc
 refine Aql ?_
 refine Akj 11 [(true, 0), (true, 1), (true, 2), (true, 3), (true, 4), (true, 5), (true, 6), (true, 7), (true, 8), (true, 9), (true, 10)] (by kernel_rfl) (by kernel_rfl) (by simp) (by kernel_rfl) ?_; intro K hK
 iterate 10 (apply Axc rfl rfl rfl; (focus (simp -implicitDefEqProofs (disch := first | omega | (simp only [qd] <;> omega)) only [xq, ↓xp, qc, Nat.reduceAdd, List.range, List.range.loop, fine, Nat.reduceEqDiff, ↓reduceIte, yielded, reduceCtorEq, Nat.reduceLT, Nat.reduceMul, Nat.reduceSub, one, Nat.reduceLeDiff, Aqa, Bqq, cell_of hdb1, cell_of htb1, cell_of hsb1, htc', exists_eq_left', and_true, true_and] <;> (first | exact rfl | exact ⟨rfl, rfl⟩))); simp -implicitDefEqProofs (disch := first | omega | (simp only [qd] <;> omega)) only [Aqn, Aqc])
 (apply Axc rfl rfl rfl; (focus (simp -implicitDefEqProofs (disch := first | omega | (simp only [qd] <;> omega)) only [xq, ↓xp, qc, Nat.reduceAdd, List.range, List.range.loop, fine, Nat.reduceEqDiff, ↓reduceIte, yielded, reduceCtorEq, Nat.reduceLT, Nat.reduceMul, Nat.reduceSub, one, Nat.reduceLeDiff, Aqa, Bqq]; exact quiet_of (Bvf main H1 m t hm h0 h6))); simp -implicitDefEqProofs (disch := omega) only [Aqn, Aqc])
 refine Ax1 (hK _ _ ?_); clear hK K
 refine Aq9 (by simp -implicitDefEqProofs (disch := first | omega | (simp only [qd] <;> omega)) only [Aqm, Aqr, Nat.reduceEqDiff, ↓reduceIte]; rfl) ?_
 cases hb : m.testBit t.toNat
 ·simp only [Bool.false_eq_true, if_false]
  refine Aqu ?_
  simp -implicitDefEqProofs (disch := first | omega | (simp only [qd] <;> omega)) only [thn, blk, ↓reduceIte, Nat.reduceEqDiff]
  refine Akj 11 [(true, 0), (true, 1), (true, 2), (true, 3), (true, 4), (true, 5), (true, 6), (true, 7), (true, 8), (true, 9), (true, 10)] (by kernel_rfl) (by kernel_rfl) (by simp) (by kernel_rfl) ?_; intro K hK
  iterate 2 (apply Axc rfl rfl rfl; (focus (simp -implicitDefEqProofs (disch := first | omega | (simp only [qd] <;> omega)) only [xq, ↓xp, qc, Nat.reduceAdd, List.range, List.range.loop, fine, Nat.reduceEqDiff, ↓reduceIte, yielded, reduceCtorEq, Nat.reduceLT, Nat.reduceMul, Nat.reduceSub, one, Nat.reduceLeDiff, Aqa, Bqq, cell_of hdb1, cell_of htb1, cell_of hsb1, htc', exists_eq_left', and_true, true_and] <;> (first | exact rfl | exact ⟨rfl, rfl⟩))); simp -implicitDefEqProofs (disch := first | omega | (simp only [qd] <;> omega)) only [Aqn, Aqc])
  (apply Axc rfl rfl rfl; (focus (simp -implicitDefEqProofs (disch := first | omega | (simp only [qd] <;> omega)) only [xq, ↓xp, qc, Nat.reduceAdd, List.range, List.range.loop, fine, Nat.reduceEqDiff, ↓reduceIte, yielded, reduceCtorEq, Nat.reduceLT, Nat.reduceMul, Nat.reduceSub, one, Nat.reduceLeDiff, Aqa, Bqq]; exact quiet_of (Bkd main H1 m hm))); simp -implicitDefEqProofs (disch := omega) only [Aqn, Aqc])
  iterate 8 (apply Axc rfl rfl rfl; (focus (simp -implicitDefEqProofs (disch := first | omega | (simp only [qd] <;> omega)) only [xq, ↓xp, qc, Nat.reduceAdd, List.range, List.range.loop, fine, Nat.reduceEqDiff, ↓reduceIte, yielded, reduceCtorEq, Nat.reduceLT, Nat.reduceMul, Nat.reduceSub, one, Nat.reduceLeDiff, Aqa, Bqq, cell_of hdb1, cell_of htb1, cell_of hsb1, htc', exists_eq_left', and_true, true_and] <;> (first | exact rfl | exact ⟨rfl, rfl⟩))); simp -implicitDefEqProofs (disch := first | omega | (simp only [qd] <;> omega)) only [Aqn, Aqc])
  refine Ax1 (hK _ _ ?_); clear hK K
  (refine @unH _ ?_; refine zB Tryz.results110 ?_)
  exact ⟨by simp, hle⟩
 ·simp only [if_true]
  (refine @unH _ ?_; refine z1 Bqq ?_)
  (refine Ax7 ?_; simp only [thn, blk]; rw [Axw, Akc Tryz.results110 (by decide) (by decide)]; simp only [Aqr, Nat.reduceEqDiff, ↓reduceIte])
  exact ⟨by simp, hle⟩
def Aqv (m : Nat) (sent : Int) (t : Int) : Nat := Aky (if 0 <= sent then Avb m sent.toNat else m) t.toNat
theorem Akr (main : Md) (H : Hp) (db : Nat) (places pieces : Int) (sv cv tv : Value) (ts : List Int) (mb : Nat) (hdb : H db = some (true, dayO places pieces sv cv tv mb)) (hts : SlI H tv ts) (hln : ts.length <= 1000000) (c m : Nat) (sent t : Int) (hc : ts[c]? = some t) (h0 : 0 <= t) (h6 : t < 6) (hm : m < 64) (hs : sent < 6) :
  FnX Tryz.prog main 113 #[.pointer (some ⟨db, 0, none⟩), Avv c m, .int .i64 sent] H fun e H' => e = .returned (Avv (c + 1) (Aqv m sent t)) /\ H.le H' := by
 have hcl : c < ts.length := (List.getElem?_eq_some_iff.1 hc).1
 obtain ⟨a, cap, rfl, hcap, hts⟩ := hts
 obtain ⟨tb, to, p, cs, fr, rfl, htb, htc⟩ := hts c t hc
 refine Aqk Tryz.func113 rfl Tryz.ntmps113 (by simp) ?_
 (refine @unH _ ?_; refine z8 Awf ?_; try (refine inK ?_; intro K hK))
 intro sb hsb rb hrb
 refine hK _ _ ?_; clear hK K
 have hle : H.le ((H.set sb (.cells #[.int .i64 c, .int .u8 m] 105 (0, 0))).set rb (.cells #[.int .i64 0, .int .u8 0] 105 (0, 0))) := fun x v hx => Hp.le_set hrb _ _ (Hp.le_set hsb _ _ hx)
 have hrs : rb ≠ sb := fun e => by rw [e, Aqw] at hrb; cases hrb
 have hsbv := Aqw (H := H) (b := sb) (o := .cells #[.int .i64 c, .int .u8 m] 105 (0, 0))
 have hrb0 : H rb = none := (Lex.refl (b := none) |>.new hsb).gone hrb
 refine Akf (fun a' H1 => ∃ e m', a' = act 29 e [] /\ e 0 = .pointer (some ⟨db, 0, none⟩) /\ e 4 = .pointer (some ⟨sb, 0, none⟩) /\ e 6 = .pointer (some ⟨rb, 0, none⟩) /\ m' = (if 0 <= sent then Avb m sent.toNat else m) /\ m' < 64 /\
  H1 sb = some (true, .cells #[.int .i64 c, .int .u8 (m' : Nat)] 105 (0, 0)) /\ H1 rb = some (true, .cells #[.int .i64 0, .int .u8 0] 105 (0, 0)) /\ H.le H1) ?_ ?_
 ·(refine @unH _ ?_; refine z1 Awf ?_)
  refine Aq9 (by simp -implicitDefEqProofs (disch := first | omega | (simp only [qd] <;> omega)) only [Aqm, Aqr, Nat.reduceEqDiff, ↓reduceIte]; rfl) ?_
  by_cases hs0 : 0 <= sent
  ·simp only [hs0, decide_true, if_true]
   have hsb1 := Hp.le_set hrb (o := .cells #[.int .i64 0, .int .u8 0] 105 (0, 0)) _ _ hsbv
   refine Ajd ?_; intro K hK
   simp -implicitDefEqProofs (disch := first | omega | (simp only [qd] <;> omega)) only [xq, ↓xp, qc, Nat.reduceAdd, List.range, List.range.loop, fine, Nat.reduceEqDiff, ↓reduceIte, yielded, reduceCtorEq, Nat.reduceLT, Nat.reduceMul, Nat.reduceSub, one, Nat.reduceLeDiff, Aqa, Awf, cell_of hsb1, exists_eq_left']
   refine (Byq main _ m sent hm hs0 hs).runs.mono ?_
   rintro _ _ ⟨rfl, rfl⟩
   simp -implicitDefEqProofs (disch := first | omega | (simp only [qd] <;> omega)) only [xq, ↓xp, qc, Nat.reduceAdd, List.range, List.range.loop, fine, Nat.reduceEqDiff, ↓reduceIte, yielded, reduceCtorEq, Nat.reduceLT, Nat.reduceMul, Nat.reduceSub, one, Nat.reduceLeDiff, Aqa, Awf, cell_of hsb1, Awd hsb1]
   refine hK _ _ ?_; clear hK K
   exact ⟨_, _, rfl, rfl, rfl, rfl, rfl, Bjk hm hs0 hs, Aqw, by rw [Aqp hrs]; exact Aqw, fun x v hx => by rw [Aqp (fun e => by rw [e, hsb] at hx; cases hx)]; exact hle _ _ hx⟩
  ·simp only [hs0, decide_false, Bool.false_eq_true, if_false]
   exact Aqu ⟨_, m, rfl, rfl, rfl, rfl, rfl, hm, by rw [Aqp hrs.symm]; exact Aqw, Aqw, hle⟩
 ·rintro a' H1 ⟨e, m', rfl, e0, e4, e6, hm', hm64, hsb1, hrb1, hle1⟩
  have hdb1 := hle1 _ _ hdb
  have htb1 := hle1 _ _ htb
  have htc' : cs[to + (c : Int).toNat * 1]? = some (.int .i64 t) := by simpa using htc
  have hc1 : ((c : Int) + 1) = ((c + 1 : Nat) : Int) := by omega
  refine Akj 15 [(true, 0), (true, 1), (true, 2), (true, 3), (true, 4), (true, 5), (true, 6), (true, 7), (true, 8), (true, 9), (true, 10), (true, 11), (true, 12), (true, 13), (true, 14), (false, 15)] (by kernel_rfl) (by kernel_rfl) (by simp) (by kernel_rfl) ?_; intro K hK
  iterate 13 (apply Axc rfl rfl rfl; (focus (simp -implicitDefEqProofs (disch := first | omega | (simp only [qd] <;> omega)) only [xq, ↓xp, qc, Nat.reduceAdd, List.range, List.range.loop, fine, Nat.reduceEqDiff, ↓reduceIte, yielded, reduceCtorEq, Nat.reduceLT, Nat.reduceMul, Nat.reduceSub, one, Nat.reduceLeDiff, Aqa, Awf, e0, e4, e6, cell_of hdb1, cell_of htb1, cell_of hsb1, htc', exists_eq_left', and_true, true_and] <;> (first | exact rfl | exact ⟨rfl, rfl⟩))); simp -implicitDefEqProofs (disch := first | omega | (simp only [qd] <;> omega)) only [Aqn, Aqc])
  (apply Axc rfl rfl rfl; (focus (simp -implicitDefEqProofs (disch := first | omega | (simp only [qd] <;> omega)) only [xq, ↓xp, qc, Nat.reduceAdd, List.range, List.range.loop, fine, Nat.reduceEqDiff, ↓reduceIte, yielded, reduceCtorEq, Nat.reduceLT, Nat.reduceMul, Nat.reduceSub, one, Nat.reduceLeDiff, Aqa, Awf]; exact quiet_of (Bxc main H1 m' t hm64 h0 h6))); simp -implicitDefEqProofs (disch := omega) only [Aqn, Aqc])
  iterate 1 (apply Axc rfl rfl rfl; (focus (simp -implicitDefEqProofs (disch := first | omega | (simp only [qd] <;> omega)) only [xq, ↓xp, qc, Nat.reduceAdd, List.range, List.range.loop, fine, Nat.reduceEqDiff, ↓reduceIte, yielded, reduceCtorEq, Nat.reduceLT, Nat.reduceMul, Nat.reduceSub, one, Nat.reduceLeDiff, Aqa, Awf, e0, e4, e6, cell_of hdb1, cell_of htb1, cell_of hsb1, htc', exists_eq_left', and_true, true_and] <;> (first | exact rfl | exact ⟨rfl, rfl⟩))); simp -implicitDefEqProofs (disch := first | omega | (simp only [qd] <;> omega)) only [Aqn, Aqc])
  refine Ajw ?_
  simp -implicitDefEqProofs (disch := first | omega | (simp only [qd] <;> omega)) only [xq, ↓xp, qc, Nat.reduceAdd, List.range, List.range.loop, fine, Nat.reduceEqDiff, ↓reduceIte, yielded, reduceCtorEq, Nat.reduceLT, Nat.reduceMul, Nat.reduceSub, one, Nat.reduceLeDiff, Aqa, Awf, e6, Bxb hrb1]
  refine hK _ _ ?_; clear hK K
  (refine Ax7 ?_; (try simp only [nq, ↓reduceIte, Nat.reduceEqDiff]); rw [Axw, Az8 Tryz.results113 (by decide) (b := rb) (o := 0) ?hcell Tryz.underlying105 rfl Tryz.sizeOf105]; (case hcell => exact e6); simp -implicitDefEqProofs (disch := first | omega | (simp only [qd] <;> omega)) only [xq, ↓xp, qc, Nat.reduceAdd, List.range, List.range.loop, fine, Nat.reduceEqDiff, ↓reduceIte, yielded, reduceCtorEq, Nat.reduceLT, Nat.reduceMul, Nat.reduceSub, one, Nat.reduceLeDiff, Aqa, Awf, Ajh])
  refine ⟨by rw [hc1, Aqv, hm'], ?_⟩
  exact (((Lex.of hle1).own hrb0 : Lex none H _)).toLe
def optF (L : Nat) (pl : Int) : List Int -> Nat -> Nat
 | [], _ => 0
 | t :: ts, m => if m.testBit t.toNat then optF L pl ts (Aqv m (-1) t) else if pl <= Aq4 m then (Ax4 m).foldl (fun acc p => min acc (1 + optF L pl ts (Aqv m p t))) (L + 1) else 1 + optF L pl ts (Aqv m (-1) t)
theorem Aji {m : Nat} {x : Int} (h : x ∈ Ax4 m) : 0 <= x /\ x < 6 /\ m.testBit x.toNat = true := by
 simp only [Ax4, Awl, List.mem_map, List.mem_filter, List.mem_range] at h
 obtain ⟨n, ⟨h1, h2⟩, rfl⟩ := h
 exact ⟨by omega, by omega, by simpa using h2⟩
theorem Ak9 {m : Nat} {sent t : Int} (hm : m < 64) (hs : sent < 6) (h0 : 0 <= t) (h6 : t < 6) : Aqv m sent t < 64 := by
 unfold Aqv
 split
 ·rename_i h
  exact Bq3 (Bjk hm h hs) h0 h6
 ·exact Bq3 hm h0 h6
theorem Awu (f : Int -> Nat) : ∀ (xs : List Int) (a : Nat), xs.foldl (fun acc p => min acc (f p)) a <= a
 | [], a => Nat.le_refl _
 | x :: xs, a => Nat.le_trans (Awu f xs _) (Nat.min_le_left _ _)
theorem Bqi (L : Nat) (pl : Int) : ∀ (ts : List Int) (m : Nat), optF L pl ts m <= L + 1 + ts.length
 | [], _ => by simp [optF]
 | t :: ts, m => by
  unfold optF
  have h1 := Bqi L pl ts (Aqv m (-1) t)
  have h2 := Awu (fun p => 1 + optF L pl ts (Aqv m p t)) (Ax4 m) (L + 1)
  simp only [List.length_cons]
  split
  ·omega
  ·split <;> omega
def Ax3 := And.intro (fun H => Aqh (H := H) Tryz.underlying105 (i := 0) rfl (off := 0) rfl Tryz.sizeOf3) (And.intro (fun H => Aqd (H := H) Tryz.underlying3 rfl) (And.intro (fun H => Aqh (H := H) Tryz.underlying97 (i := 1) rfl (off := 4) rfl Tryz.sizeOf22) (And.intro (fun H => Aqd (H := H) Tryz.underlying22 rfl) (And.intro (fun H => Aq5 (H := H) Tryz.underlying22) (And.intro (fun H => Aqh (H := H) Tryz.underlying97 (i := 2) rfl (off := 5) rfl Tryz.sizeOf95) (And.intro (fun H => Aqd (H := H) Tryz.underlying95 rfl) (And.intro (fun H => Aqx (H := H) Tryz.underlying105 rfl Tryz.sizeOf105) (And.intro @Bzl (And.intro (fun H => Aqh (H := H) Tryz.underlying105 (i := 1) rfl (off := 1) rfl Tryz.sizeOf92) (And.intro (fun H => Aqd (H := H) Tryz.underlying92 rfl) (And.intro @Bzm (And.intro (fun H => Aqq (H := H) Tryz.underlying22 Tryz.sizeOf3) (And.intro @Bzn (And.intro @Bqa @Bvl))))))))))))))
def Aj2 (H : Hp) (mb : Nat) (L : Nat) (pl : Int) (ts : List Int) : Prop := ∃ es clock, H mb = some (true, .map es clock) /\ MapF .i64 .u8 .i64 (fun _ _ => True) (fun c m => (optF L pl (ts.drop c.toNat) m.toNat : Nat)) es.toList
theorem Cvc : Key2 Tryz.prog 105 .i64 .u8 := ⟨⟨_, _, Tryz.underlying105, by decide, by decide, rfl, rfl, ⟨_, Tryz.underlying3⟩, ⟨_, Tryz.underlying92⟩⟩, by kernel_rfl⟩
theorem SlI.lexMap {H H' : Hp} {v : Value} {xs : List Int} (h : SlI H v xs) {mb : Nat} {p : Bool} {es : Array MapEntry} {cl : Nat} (hl : Lex (some mb) H H') (hm : H mb = some (p, .map es cl)) : SlI H' v xs :=
 h.move fun x p c fr hx => hl.keeps hx fun e => by rw [e, hm] at hx; cases hx
theorem Ajt (main : Md) (db : Nat) (pl pieces : Int) (sv cv tv : Value) (ts : List Int) (mb : Nat) (hdm : db ≠ mb) (hln : ts.length <= 1000) (hts6 : ∀ t ∈ ts, 0 <= t /\ t < 6) :
  ∀ (n c m : Nat) (H : Hp), ts.length - c = n -> c <= ts.length -> m < 64 -> H db = some (true, dayO pl pieces sv cv tv mb) -> SlI H tv ts -> Aj2 H mb ts.length pl ts ->
   FnX Tryz.prog main 87 #[.pointer (some ⟨db, 0, none⟩), Avv c m] H fun e H' => e = .returned (.int .i64 (optF ts.length pl (ts.drop c) m)) /\ Lex (some mb) H H' /\ Aj2 H' mb ts.length pl ts := by
 intro n
 induction n using Nat.strongRecOn with
 | _ n ih =>
 intro c m H hn hc hm hdb hts hk
 have htsS := hts
 obtain ⟨ta, tcap, rfl, htcap, _⟩ := hts
 refine Aqk Tryz.func87 rfl Tryz.ntmps87 (by simp) ?_
 (refine @unH _ ?_; refine z8 Ax3 ?_; try (refine inK ?_; intro K hK))
 intro sb hsb
 refine hK _ _ ?_; clear hK K
 obtain ⟨es, clock, hmb, hmap⟩ := hk
 have hle := Hp.le_set hsb (o := .cells #[.int .i64 c, .int .u8 m] 105 (0, 0))
 have hL0 : Lex (some mb) H (H.set sb (.cells #[.int .i64 c, .int .u8 m] 105 (0, 0))) := Lex.of hle
 have hdb1 := hle _ _ hdb
 have hmb1 := hle _ _ hmb
 have hts1 := htsS.le hle
 have hsbm : sb ≠ mb := fun e => by rw [e, hmb] at hsb; cases hsb
 have hsb1 : (H.set sb (.cells #[.int .i64 c, .int .u8 m] 105 (0, 0))) sb = _ := Aqw
 generalize H.set sb (.cells #[.int .i64 c, .int .u8 m] 105 (0, 0)) = H1 at *
 refine Aql ?_
 refine Akj 8 [(true, 0), (true, 1), (true, 2), (true, 3), (true, 4), (true, 5), (true, 6), (true, 7)] (by kernel_rfl) (by kernel_rfl) (by simp) (by kernel_rfl) ?_; intro K hK
 iterate 8 (apply Axc rfl rfl rfl; (focus (simp -implicitDefEqProofs (disch := first | omega | (simp only [qd] <;> omega)) only [xq, ↓xp, qc, Nat.reduceAdd, List.range, List.range.loop, fine, Nat.reduceEqDiff, ↓reduceIte, yielded, reduceCtorEq, Nat.reduceLT, Nat.reduceMul, Nat.reduceSub, one, Nat.reduceLeDiff, Aqa, Ax3, cell_of hdb1, cell_of hsb1, exists_eq_left', and_true, true_and] <;> (first | exact rfl | exact ⟨rfl, rfl⟩))); simp -implicitDefEqProofs (disch := first | omega | (simp only [qd] <;> omega)) only [Aqn, Aqc])
 refine Ax1 (hK _ _ ?_); clear hK K
 refine Aq9 (by simp -implicitDefEqProofs (disch := first | omega | (simp only [qd] <;> omega)) only [Aqm, Aqr, Nat.reduceEqDiff, ↓reduceIte]; rfl) ?_
 by_cases hcl : c = ts.length
 ·have : ((c : Int) == (ts.length : Int)) = true := by simp [hcl]
  simp only [this, if_true]
  (refine @unH _ ?_; refine z1 Ax3 ?_)
  (refine Ax7 ?_; simp only [thn, blk]; rw [Axw, Akz Tryz.results87 (by decide)]; simp only [Aqr, Nat.reduceEqDiff, ↓reduceIte])
  exact ⟨by rw [hcl, List.drop_length]; rfl, hL0, es, clock, hmb1, hmap⟩
 ·have : ((c : Int) == (ts.length : Int)) = false := by simp; omega
  simp only [this, Bool.false_eq_true, if_false]
  refine Aqu ?_
  simp -implicitDefEqProofs (disch := first | omega | (simp only [qd] <;> omega)) only [thn, blk, ↓reduceIte, Nat.reduceEqDiff]
  have hcl' : c < ts.length := by omega
  have hct : ts[c]? = some ts[c] := List.getElem?_eq_getElem hcl'
  have hdrop : ts.drop c = ts[c] :: ts.drop (c + 1) := List.drop_eq_getElem_cons hcl'
  generalize ts[c] = t at hct hdrop
  have ht6 := hts6 t (List.mem_of_getElem? hct)
  obtain ⟨v, met, hv1, hv0, hlook⟩ := Cz8 (P := Tryz.prog) Tryz.underlying95 Cvc Tryz.zeroValue3 (c : Int) (m : Int) hmb1 hmap
  refine Aql ?_
  refine Akj 11 [(true, 0), (true, 1), (true, 2), (true, 3), (true, 4), (true, 5), (true, 6), (true, 7), (true, 8), (true, 9), (true, 10)] (by kernel_rfl) (by kernel_rfl) (by simp) (by kernel_rfl) ?_; intro K hK
  iterate 5 (apply Axc rfl rfl rfl; (focus (simp -implicitDefEqProofs (disch := first | omega | (simp only [qd] <;> omega)) only [xq, ↓xp, qc, Nat.reduceAdd, List.range, List.range.loop, fine, Nat.reduceEqDiff, ↓reduceIte, yielded, reduceCtorEq, Nat.reduceLT, Nat.reduceMul, Nat.reduceSub, one, Nat.reduceLeDiff, Aqa, Ax3, cell_of hdb1, cell_of hsb1, Ajn hsb1, exists_eq_left', and_true, true_and] <;> (first | exact rfl | exact ⟨rfl, rfl⟩))); simp -implicitDefEqProofs (disch := first | omega | (simp only [qd] <;> omega)) only [Aqn, Aqc])
  apply Axc rfl rfl rfl
  ·(refine @unH _ ?_; refine z0 Ax3 ?_)
   refine hlook _ _ ?_
   simp only [Aq0]
   first | exact rfl | exact ⟨rfl, rfl⟩ | exact ⟨rfl, trivial⟩
  simp (disch := omega) only [Aqn, Aqc]
  iterate 5 (apply Axc rfl rfl rfl; (focus (simp -implicitDefEqProofs (disch := first | omega | (simp only [qd] <;> omega)) only [xq, ↓xp, qc, Nat.reduceAdd, List.range, List.range.loop, fine, Nat.reduceEqDiff, ↓reduceIte, yielded, reduceCtorEq, Nat.reduceLT, Nat.reduceMul, Nat.reduceSub, one, Nat.reduceLeDiff, Aqa, Ax3] <;> (first | exact rfl | exact ⟨rfl, rfl⟩))); simp -implicitDefEqProofs (disch := first | omega | (simp only [qd] <;> omega)) only [Aqn, Aqc])
  refine Ax1 (hK _ _ ?_); clear hK K
  (refine @unH _ ?_; refine z1 Ax3 ?_)
  refine Aq9 (by simp -implicitDefEqProofs (disch := first | omega | (simp only [qd] <;> omega)) only [Aqm, Aqr, Nat.reduceEqDiff, ↓reduceIte]; rfl) ?_
  cases hmet : met
  ·simp only [Bool.false_eq_true, if_false]
   refine Aqu ?_
   simp -implicitDefEqProofs (disch := first | omega | (simp only [qd] <;> omega)) only [thn, blk, ↓reduceIte, Nat.reduceEqDiff]
   (refine Axh ?_; intro K hK; simp -implicitDefEqProofs (disch := first | omega | (simp only [qd] <;> omega)) only [xq, ↓xp, qc, Nat.reduceAdd, List.range, List.range.loop, fine, Nat.reduceEqDiff, ↓reduceIte, yielded, reduceCtorEq, Nat.reduceLT, Nat.reduceMul, Nat.reduceSub, one, Nat.reduceLeDiff, Aqa, Ax3, Ajn hsb1])
   refine (Ayi main H1 db pl pieces sv cv _ ts mb hdb1 hts1 c m t hct ht6.1 ht6.2 hm).runs.mono ?_
   rintro _ H2 ⟨rfl, hle2⟩
   (refine @unH _ ?_; refine z0 Ax3 ?_)
   refine hK _ _ ?_; clear hK K
   have hL2 : Lex (some mb) H H2 := hL0.trans (Lex.of hle2)
   have hdb2 := hle2 _ _ hdb1
   have hmb2 := hle2 _ _ hmb1
   have hsb2 := hle2 _ _ hsb1
   have hts2 := hts1.le hle2
   have hk2 : Aj2 H2 mb ts.length pl ts := ⟨es, clock, hmb2, hmap⟩
   (refine @unH _ ?_; refine z1 Ax3 ?_)
   refine Akf (fun a' H3 => ∃ e, a' = act 81 e [] /\ e 0 = .pointer (some ⟨db, 0, none⟩) /\ e 3 = .pointer (some ⟨sb, 0, none⟩) /\ e 9 = .int .i64 (optF ts.length pl (ts.drop c) m : Nat) /\ Lex (some mb) H H3 /\ Aj2 H3 mb ts.length pl ts /\
    H3 db = some (true, dayO pl pieces sv cv (.slice ta ts.length tcap) mb) /\ H3 sb = some (true, .cells #[.int .i64 c, .int .u8 m] 105 (0, 0))) ?_ ?_
   ·cases hbit : m.testBit t.toNat
    ·by_cases hfull : pl <= Aq4 m
     ·
      have hopt : optF ts.length pl (ts.drop c) m = (Ax4 m).foldl (fun acc p => min acc (1 + optF ts.length pl (ts.drop (c + 1)) (Aqv m p t))) (ts.length + 1) := by
       rw [hdrop, optF, hbit, if_neg (by simp), if_pos hfull]
      refine Aqo (Aql (Aqo (Aql (Aqo (Aql (Aqo (Aql (Aql ?_)))))))) 
      (refine @unH _ ?_; refine z1 Ax3 ?_)
      refine Aq9 (by simp -implicitDefEqProofs (disch := first | omega | (simp only [qd] <;> omega)) only [Aqm, Aqr, Nat.reduceEqDiff, ↓reduceIte]; rfl) ?_
      simp only [Bool.not_false, Bool.true_and, hfull, decide_true, if_true]
      (refine Axa ?_; simp only [thn, blk, ↓reduceIte, Nat.reduceEqDiff])
      refine Aql ?_
      (refine Axh ?_; intro K hK; simp -implicitDefEqProofs (disch := first | omega | (simp only [qd] <;> omega)) only [xq, ↓xp, qc, Nat.reduceAdd, List.range, List.range.loop, fine, Nat.reduceEqDiff, ↓reduceIte, yielded, reduceCtorEq, Nat.reduceLT, Nat.reduceMul, Nat.reduceSub, one, Nat.reduceLeDiff, Aqa, Ax3, cell_of hdb2, exists_eq_left']; refine hK _ _ ?_; clear hK K)
      (refine Axh ?_; intro K hK; simp -implicitDefEqProofs (disch := first | omega | (simp only [qd] <;> omega)) only [xq, ↓xp, qc, Nat.reduceAdd, List.range, List.range.loop, fine, Nat.reduceEqDiff, ↓reduceIte, yielded, reduceCtorEq, Nat.reduceLT, Nat.reduceMul, Nat.reduceSub, one, Nat.reduceLeDiff, Aqa, Ax3, cell_of hsb2, exists_eq_left'])
      refine (Bjd main H2 m hm).runs.mono ?_
      rintro _ H3 ⟨lv, rfl, hlv, hle3⟩
      have hlvS := hlv
      obtain ⟨la, lc, rfl, hlc, hlv⟩ := hlv
      (refine @unH _ ?_; refine z0 Ax3 ?_)
      refine hK _ _ ?_; clear hK K
      have hol : (Ax4 m).length <= 6 := Bxw m 6
      refine Aqo (Axe (fun w a' H' => ∃ e j, w = (Ax4 m).length - j /\ j <= (Ax4 m).length /\ a' = act 81 e [] /\ e 0 = .pointer (some ⟨db, 0, none⟩) /\ e 3 = .pointer (some ⟨sb, 0, none⟩) /\
       e 9 = .int .i64 (((Ax4 m).take j).foldl (fun acc p => min acc (1 + optF ts.length pl (ts.drop (c + 1)) (Aqv m p t))) (ts.length + 1) : Nat) /\ e 49 = .slice la (Ax4 m).length lc /\ e 50 = .int .i64 (Ax4 m).length /\ e 51 = .int .i64 (j : Nat) /\
       Lex (some mb) H H' /\ Aj2 H' mb ts.length pl ts /\ H' db = some (true, dayO pl pieces sv cv (.slice ta ts.length tcap) mb) /\ H' sb = some (true, .cells #[.int .i64 c, .int .u8 m] 105 (0, 0)) /\
       SlI H' (.slice ta ts.length tcap) ts /\ SlI H' (.slice la (Ax4 m).length lc) (Ax4 m)) (n := (Ax4 m).length) ?_ ?_)
      ·refine ⟨_, 0, by omega, by omega, rfl, rfl, rfl, ?_, rfl, rfl, rfl, hL2.le hle3, ⟨es, clock, hle3 _ _ hmb2, hmap⟩, hle3 _ _ hdb2, hle3 _ _ hsb2, hts2.le hle3, hlvS⟩
       simp [upd]
      ·rintro w a' H' ⟨e, j, rfl, hj, rfl, e0, e3, e9, e49, e50, e51, hL4, hk4, hdb4, hsb4, hts4, hlv4⟩
       (refine @unH _ ?_; refine z1 (And.intro Ax3 (And.intro @e50 @e51)) ?_)
       refine Aql ?_
       refine Aq9 (by simp -implicitDefEqProofs (disch := first | omega | (simp only [qd] <;> omega)) only [Aqm, Aqr, Nat.reduceEqDiff, ↓reduceIte]; rfl) ?_
       by_cases hlt : j < (Ax4 m).length
       ·simp only [Int.ofNat_lt, hlt, decide_true, if_true]
        refine Aqu (Aql (Aqo ?_))
        obtain ⟨_, _, hlve, _, hlv5⟩ := id hlv4
        cases hlve
        obtain ⟨lb, lo, lp, lcs, lfr, hla, hlb, hlx⟩ := hlv5 j (Ax4 m)[j] (List.getElem?_eq_getElem hlt)
        have hpm := Aji (List.getElem_mem (l := Ax4 m) (n := j) hlt)
        have htake : (Ax4 m).take (j + 1) = (Ax4 m).take j ++ [(Ax4 m)[j]] := by rw [List.take_add_one, List.getElem?_eq_getElem hlt]; rfl
        generalize (Ax4 m)[j] = pp at hlx hpm htake
        have hlx' : lcs[lo + (j : Int).toNat * 1]? = some (.int .i64 pp) := by simpa using hlx
        have e49' := e49
        rw [hla] at e49'
        (refine Axh ?_; intro K hK; simp -implicitDefEqProofs (disch := first | omega | (simp only [qd] <;> omega)) only [xq, ↓xp, qc, Nat.reduceAdd, List.range, List.range.loop, fine, Nat.reduceEqDiff, ↓reduceIte, yielded, reduceCtorEq, Nat.reduceLT, Nat.reduceMul, Nat.reduceSub, one, Nat.reduceLeDiff, Aqa, Ax3, e49', e51, cell_of hlb, hlx', exists_eq_left']; refine hK _ _ ?_; clear hK K)
        refine Ajd ?_; intro K hK
        simp -implicitDefEqProofs (disch := first | omega | (simp only [qd] <;> omega)) only [xq, ↓xp, qc, Nat.reduceAdd, List.range, List.range.loop, fine, Nat.reduceEqDiff, ↓reduceIte, yielded, reduceCtorEq, Nat.reduceLT, Nat.reduceMul, Nat.reduceSub, one, Nat.reduceLeDiff, Aqa, Ax3, e0, e3, e9, Ajn hsb4]
        refine (Akr main H' db pl pieces sv cv _ ts mb hdb4 hts4 (by omega) c m pp t hct ht6.1 ht6.2 hm hpm.2.1).runs.mono ?_
        rintro _ H5 ⟨rfl, hle5⟩
        (refine @unH _ ?_; refine z0 Ax3 ?_)
        have hk5 : Aj2 H5 mb ts.length pl ts := by
         obtain ⟨es', cl', h1, h2⟩ := hk4
         exact ⟨es', cl', hle5 _ _ h1, h2⟩
        refine (ih (ts.length - (c + 1)) (by omega) (c + 1) (Aqv m pp t) H5 rfl (by omega) (Ak9 hm hpm.2.1 ht6.1 ht6.2) (hle5 _ _ hdb4) (hts4.le hle5) hk5).runs.mono ?_
        rintro _ H6 ⟨rfl, hL6, hk6⟩
        have hof := Bqi ts.length pl (ts.drop (c + 1)) (Aqv m pp t)
        rw [List.length_drop] at hof
        (refine @unH _ ?_; refine z0 Ax3 ?_)
        refine hK _ _ ?_; clear hK K
        simp -implicitDefEqProofs (disch := first | omega | (simp only [qd] <;> omega)) only [thn, blk, ↓reduceIte, Nat.reduceEqDiff]
        (refine @unH _ ?_; refine z2 (And.intro Ax3 @e51) ?_)
        simp -implicitDefEqProofs (disch := first | omega | (simp only [qd] <;> omega)) only [thn, blk, ↓reduceIte, Nat.reduceEqDiff]
        obtain ⟨es', cl', hm5, _⟩ := id hk5
        refine ⟨_, ?_, _, j + 1, rfl, hlt, rfl, e0, e3, ?_, e49, e50, rfl, (hL4.le hle5).trans hL6, hk6, hL6.keeps (hle5 _ _ hdb4) hdm, hL6.keeps (hle5 _ _ hsb4) hsbm, (hts4.le hle5).lexMap hL6 hm5, (hlv4.le hle5).lexMap hL6 hm5⟩
        ·omega
        ·rw [htake, List.foldl_append]
         show Value.int .i64 _ = Value.int .i64 _
         congr 1
         simp only [List.foldl_cons, List.foldl_nil]
         split <;> omega
       ·simp only [Int.ofNat_lt, hlt, decide_false, Bool.false_eq_true, if_false]
        (refine Axa ?_; simp only [thn, blk, ↓reduceIte, Nat.reduceEqDiff])
        refine Axa ?_
        simp -implicitDefEqProofs (disch := first | omega | (simp only [qd] <;> omega)) only [thn, blk, ↓reduceIte, Nat.reduceEqDiff]
        rw [List.take_of_length_le (by omega)] at e9
        exact ⟨_, rfl, e0, e3, by rw [hopt]; exact e9, hL4, hk4, hdb4, hsb4⟩
     ·
      have hopt : optF ts.length pl (ts.drop c) m = 1 + optF ts.length pl (ts.drop (c + 1)) (Aqv m (-1) t) := by
       rw [hdrop, optF, hbit, if_neg (by simp), if_neg hfull]
      refine Aqo (Aql (Aqo (Aql (Aqo (Aql (Aqo (Aql (Aql ?_))))))))
      (refine @unH _ ?_; refine z1 Ax3 ?_)
      refine Aq9 (by simp -implicitDefEqProofs (disch := first | omega | (simp only [qd] <;> omega)) only [Aqm, Aqr, Nat.reduceEqDiff, ↓reduceIte]; rfl) ?_
      simp only [Bool.not_false, Bool.true_and, hfull, decide_false, Bool.false_eq_true, if_false]
      refine Aqu ?_
      simp -implicitDefEqProofs (disch := first | omega | (simp only [qd] <;> omega)) only [thn, blk, ↓reduceIte, Nat.reduceEqDiff]
      (refine @unH _ ?_; refine z1 Ax3 ?_)
      refine Aq9 (by simp -implicitDefEqProofs (disch := first | omega | (simp only [qd] <;> omega)) only [Aqm, Aqr, Nat.reduceEqDiff, ↓reduceIte]; rfl) ?_
      simp only [Bool.not_false, if_true]
      (refine Axa ?_; simp only [thn, blk, ↓reduceIte, Nat.reduceEqDiff])
      (refine @unH _ ?_; refine z2 Ax3 ?_)
      simp -implicitDefEqProofs (disch := first | omega | (simp only [qd] <;> omega)) only [thn, blk, ↓reduceIte, Nat.reduceEqDiff]
      (refine Axh ?_; intro K hK; simp -implicitDefEqProofs (disch := first | omega | (simp only [qd] <;> omega)) only [xq, ↓xp, qc, Nat.reduceAdd, List.range, List.range.loop, fine, Nat.reduceEqDiff, ↓reduceIte, yielded, reduceCtorEq, Nat.reduceLT, Nat.reduceMul, Nat.reduceSub, one, Nat.reduceLeDiff, Aqa, Ax3, Ajn hsb2])
      refine (Akr main H2 db pl pieces sv cv _ ts mb hdb2 hts2 (by omega) c m (-1) t hct ht6.1 ht6.2 hm (by omega)).runs.mono ?_
      rintro _ H5 ⟨rfl, hle5⟩
      (refine @unH _ ?_; refine z0 Ax3 ?_)
      have hk5 : Aj2 H5 mb ts.length pl ts := ⟨es, clock, hle5 _ _ hmb2, hmap⟩
      refine (ih (ts.length - (c + 1)) (by omega) (c + 1) (Aqv m (-1) t) H5 rfl (by omega) (Ak9 hm (by omega) ht6.1 ht6.2) (hle5 _ _ hdb2) (hts2.le hle5) hk5).runs.mono ?_
      rintro _ H6 ⟨rfl, hL6, hk6⟩
      have hof := Bqi ts.length pl (ts.drop (c + 1)) (Aqv m (-1) t)
      rw [List.length_drop] at hof
      (refine @unH _ ?_; refine z0 Ax3 ?_)
      refine hK _ _ ?_; clear hK K
      refine Axa ?_
      simp -implicitDefEqProofs (disch := first | omega | (simp only [qd] <;> omega)) only [thn, blk, ↓reduceIte, Nat.reduceEqDiff]
      refine ⟨_, rfl, rfl, rfl, ?_, (hL2.le hle5).trans hL6, hk6, hL6.keeps (hle5 _ _ hdb2) hdm, hL6.keeps (hle5 _ _ hsb2) hsbm⟩
      rw [hopt]
      show Value.int .i64 _ = Value.int .i64 _
      congr 1
      all_goals omega
    ·
      have hopt : optF ts.length pl (ts.drop c) m = optF ts.length pl (ts.drop (c + 1)) (Aqv m (-1) t) := by
       rw [hdrop, optF, hbit, if_pos rfl]
      refine Aqo (Aql (Aqo (Aql (Aqo (Aql (Aqo (Aql (Aql ?_))))))))
      (refine @unH _ ?_; refine z1 Ax3 ?_)
      refine Aq9 (by simp -implicitDefEqProofs (disch := first | omega | (simp only [qd] <;> omega)) only [Aqm, Aqr, Nat.reduceEqDiff, ↓reduceIte]; rfl) ?_
      simp only [Bool.not_true, Bool.false_and, Bool.false_eq_true, if_false]
      refine Aqu ?_
      simp -implicitDefEqProofs (disch := first | omega | (simp only [qd] <;> omega)) only [thn, blk, ↓reduceIte, Nat.reduceEqDiff]
      (refine @unH _ ?_; refine z1 Ax3 ?_)
      refine Aq9 (by simp -implicitDefEqProofs (disch := first | omega | (simp only [qd] <;> omega)) only [Aqm, Aqr, Nat.reduceEqDiff, ↓reduceIte]; rfl) ?_
      simp only [Bool.not_true, Bool.false_eq_true, if_false]
      refine Aqu ?_
      simp -implicitDefEqProofs (disch := first | omega | (simp only [qd] <;> omega)) only [thn, blk, ↓reduceIte, Nat.reduceEqDiff]
      (refine Axa ?_; simp only [thn, blk, ↓reduceIte, Nat.reduceEqDiff])
      (refine Axh ?_; intro K hK; simp -implicitDefEqProofs (disch := first | omega | (simp only [qd] <;> omega)) only [xq, ↓xp, qc, Nat.reduceAdd, List.range, List.range.loop, fine, Nat.reduceEqDiff, ↓reduceIte, yielded, reduceCtorEq, Nat.reduceLT, Nat.reduceMul, Nat.reduceSub, one, Nat.reduceLeDiff, Aqa, Ax3, Ajn hsb2])
      refine (Akr main H2 db pl pieces sv cv _ ts mb hdb2 hts2 (by omega) c m (-1) t hct ht6.1 ht6.2 hm (by omega)).runs.mono ?_
      rintro _ H5 ⟨rfl, hle5⟩
      (refine @unH _ ?_; refine z0 Ax3 ?_)
      have hk5 : Aj2 H5 mb ts.length pl ts := ⟨es, clock, hle5 _ _ hmb2, hmap⟩
      refine (ih (ts.length - (c + 1)) (by omega) (c + 1) (Aqv m (-1) t) H5 rfl (by omega) (Ak9 hm (by omega) ht6.1 ht6.2) (hle5 _ _ hdb2) (hts2.le hle5) hk5).runs.mono ?_
      rintro _ H6 ⟨rfl, hL6, hk6⟩
      have hof := Bqi ts.length pl (ts.drop (c + 1)) (Aqv m (-1) t)
      rw [List.length_drop] at hof
      (refine @unH _ ?_; refine z0 Ax3 ?_)
      refine hK _ _ ?_; clear hK K
      refine Axa ?_
      simp -implicitDefEqProofs (disch := first | omega | (simp only [qd] <;> omega)) only [thn, blk, ↓reduceIte, Nat.reduceEqDiff]
      refine ⟨_, rfl, rfl, rfl, ?_, (hL2.le hle5).trans hL6, hk6, hL6.keeps (hle5 _ _ hdb2) hdm, hL6.keeps (hle5 _ _ hsb2) hsbm⟩
      rw [hopt]
      show Value.int .i64 _ = Value.int .i64 _
      congr 1
      all_goals omega
   ·rintro a' H3 ⟨e, rfl, e0, e3, e9, hL3, hk3, hdb3, hsb3⟩
    obtain ⟨es', cl', hm3, hmap3⟩ := hk3
    refine Akj 6 [(true, 0), (true, 1), (true, 2), (true, 3), (true, 4), (true, 5), (false, 6)] (by kernel_rfl) (by kernel_rfl) (by simp) (by kernel_rfl) ?_; intro K hK
    iterate 6 (apply Axc rfl rfl rfl; (focus (simp -implicitDefEqProofs (disch := first | omega | (simp only [qd] <;> omega)) only [xq, ↓xp, qc, Nat.reduceAdd, List.range, List.range.loop, fine, Nat.reduceEqDiff, ↓reduceIte, yielded, reduceCtorEq, Nat.reduceLT, Nat.reduceMul, Nat.reduceSub, one, Nat.reduceLeDiff, Aqa, Ax3, e0, e3, e9, cell_of hdb3, Ajn hsb3, exists_eq_left', and_true, true_and] <;> (first | exact rfl | exact ⟨rfl, rfl⟩))); simp -implicitDefEqProofs (disch := first | omega | (simp only [qd] <;> omega)) only [Aqn, Aqc])
    refine Ajw ?_
    (refine @unH _ ?_; refine z0 (And.intro Ax3 @e9) ?_)
    refine Bvk (P := Tryz.prog) Tryz.underlying95 Cvc (F := fun c m => (optF ts.length pl (ts.drop c.toNat) m.toNat : Nat)) (c : Int) (m : Int) trivial hm3 hmap3 _ _ ?_
    intro es'' cl'' hmap''
    refine hK _ _ ?_; clear hK K
    (refine @unH _ ?_; refine z1 (And.intro Ax3 @e9) ?_)
    (refine @unH _ ?_; refine z9 Tryz.results87 ?_)
    exact ⟨by trivial, hL3.set, es'', cl'', Aqw, hmap''⟩
  ·simp only [if_true]
   rw [hv1 hmet]
   (refine @unH _ ?_; refine z1 Ax3 ?_)
   (refine Ax7 ?_; simp only [thn, blk]; rw [Axw, Akz Tryz.results87 (by decide)]; simp only [Aqr, Nat.reduceEqDiff, ↓reduceIte])
   exact ⟨by simp, hL0, es, clock, hmb1, hmap⟩
end Go.Proofs.YtgniilnljeedlaaGreatDoor
end
