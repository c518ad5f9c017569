/- Texts Haul Office Maps Days Auto Scope Check Ops2 Meths Begin Barrow Rules Slices Rank Look. -/
import Derived.Test.YtofmadjgbcopdaaGreatDoorJ03
set_option linter.defProp false
set_option linter.unusedSimpArgs false
set_option linter.unusedVariables false
set_option maxRecDepth 100000
set_option maxHeartbeats 2000000
section
namespace Go.Proofs.YtofmadjgbcopdaaGreatDoor
open Go Go.X
def y21_18 := @bld_78_0_2_0
theorem RowX.own {t : Option Nat} {H₀ H : Hp} {v : Value} {e e' : TypeId} {cs : List Value} (h : RowX t H₀ H v e cs) {x : Nat} {p : Bool} {c' : Array Value} {fr : Nat × Nat} (hx0 : H₀ x = none) (hx : H x = some (p, .cells c' e' fr)) (he : e' ≠ e) {o : Obj} : RowX t H₀ (H.set x o) v e cs := by
 refine ⟨h.1.own hx0, h.2.imp id ?_⟩
 rintro ⟨b, c, cap, h0, h1, h2, h3, h4, h5⟩
 refine ⟨b, c, cap, h0, ?_, h2, h3, h4, h5⟩
 rw [set_ne (H := H) (b := x) (b' := b) (fun e'' => ?_)]
 ·exact h1
 ·rw [e'', hx] at h1
  simp only [Option.some.injEq, Prod.mk.injEq, Obj.cells.injEq] at h1
  exact he h1.2.2.1
def drop (H : Hp) (b : Nat) : Hp := fun x => if x = b then none else H x
theorem drop_at {H : Hp} {b : Nat} : drop H b b = none := by simp [drop]
theorem drop_ne {H : Hp} {b x : Nat} (h : x ≠ b) : drop H b x = H x := by simp [drop, h]
theorem Lex.drop {t : Option Nat} {H H' : Hp} {b : Nat} (h : Lex t H H') (hb : H b = none) : Lex t H (drop H' b) := fun x v hx => by
 rw [drop_ne (fun e => by rw [e, hb] at hx; cases hx)]
 exact h x v hx
theorem drop_le {H : Hp} {b : Nat} : (Go.Proofs.YtofmadjgbcopdaaGreatDoor.drop H b).le H := fun x v hx => by
 by_cases e : x = b
 ·rw [e, drop_at] at hx; cases hx
 ·rwa [drop_ne e] at hx
def VT (H : Hp) (sv : Value) (start : List Int) (cv : Value) (xss : List (List Int)) (tv : Value) (ts : List Int) : Prop := SlI H sv start /\ SlR H cv xss /\ SlI H tv ts
section
variable {H H' : Hp} {sv : Value} {start : List Int} {cv : Value} {xss : List (List Int)} {tv : Value} {ts : List Int}
theorem VT.move (h : VT H sv start cv xss tv ts) (hl : ∀ x p c fr e, (e = 3 ∨ e = 22) -> H x = some (p, .cells c e fr) -> H' x = some (p, .cells c e fr)) : VT H' sv start cv xss tv ts :=
 ⟨h.1.move fun _ _ _ _ hx => hl _ _ _ _ _ (.inl rfl) hx, h.2.1.move hl, h.2.2.move fun _ _ _ _ hx => hl _ _ _ _ _ (.inl rfl) hx⟩
theorem VT.set (h : VT H sv start cv xss tv ts) {b : Nat} {p : Bool} {c : Array Value} {e : TypeId} {fr : Nat × Nat} (hb : H b = some (p, .cells c e fr)) (h1 : e ≠ 3) (h2 : e ≠ 22) {o : Obj} : VT (H.set b o) sv start cv xss tv ts :=
 h.move fun x p' c' fr' e' he hx => by
  rw [set_ne (H := H) (b := b) (b' := x) (fun e'' => ?_)]
  ·exact hx
  ·rw [e'', hb] at hx
   simp only [Option.some.injEq, Prod.mk.injEq, Obj.cells.injEq] at hx
   rcases he with he | he
   ·exact h1 (hx.2.2.1.trans he)
   ·exact h2 (hx.2.2.1.trans he)
theorem VT.drop (h : VT H sv start cv xss tv ts) {b : Nat} {p : Bool} {c : Array Value} {e : TypeId} {fr : Nat × Nat} (hb : H b = some (p, .cells c e fr)) (h1 : e ≠ 3) (h2 : e ≠ 22) : VT (Go.Proofs.YtofmadjgbcopdaaGreatDoor.drop H b) sv start cv xss tv ts :=
 h.move fun x p' c' fr' e' he hx => by
  rw [drop_ne (fun e'' => ?_)]
  ·exact hx
  ·rw [e'', hb] at hx
   simp only [Option.some.injEq, Prod.mk.injEq, Obj.cells.injEq] at hx
   rcases he with he | he
   ·exact h1 (hx.2.2.1.trans he)
   ·exact h2 (hx.2.2.1.trans he)
theorem VT.lex (h : VT H sv start cv xss tv ts) {b k : Nat} (hl : Lex (some b) H H') (hT : TinI H b k) : VT H' sv start cv xss tv ts := ⟨h.1.lex hl hT, h.2.1.lex hl hT, h.2.2.lex hl hT⟩
theorem VT.le (h : VT H sv start cv xss tv ts) (hl : H.le H') : VT H' sv start cv xss tv ts := h.move fun _ _ _ _ _ _ hx => hl _ _ hx
end
theorem TinI.drop {H : Hp} {b k x : Nat} (h : TinI H b k) {o : Obj} (hx : H x = some (true, o)) (hn : x ≠ b) : TinI (drop H x) b k := by
 obtain ⟨sa, sl, sc, g, st, h1, h2, h3, h4⟩ := h
 refine ⟨sa, sl, sc, g, st, by rw [drop_ne hn.symm]; exact h1, h2, h3, fun i hi => ?_⟩
 obtain ⟨sb, so, c, e, fr, y, ha, hs, hy⟩ := h4 i hi
 exact ⟨sb, so, c, e, fr, y, ha, by rw [drop_ne (fun e' => by rw [e', hx] at hs; cases hs)]; exact hs, hy⟩
def TimesOk (n : Nat) (ts : List Int) : Prop := ts.length = n /\ ts.Pairwise (· <= ·) /\ ∀ x ∈ ts, 0 <= x /\ x <= 99
theorem newTin_spec (m : Md) (H : Hp) (sa : Option Addr) (sl sc : Nat) (hs : ∀ i : Nat, i < sl -> ∃ sb so c e fr x, sa = some ⟨sb, so, none⟩ /\ H sb = some (false, .cells c e fr) /\ c[so + i]? = some (.int .i64 x)) (k : Nat) (hk : k <= 4611686018427387904) :
  FnX Tryz.prog m 21 #[.slice sa sl sc] H fun e H' => ∃ b, e = .returned (.pointer (some ⟨b, 0, none⟩)) /\ H.le H' /\ TinI H' b k := by
 refine FnX_start Tryz.func21 rfl Tryz.ntmps21 (by simp) ?_
 (refine @unH _ ?_; refine z1 @y21_18 ?_)
 (refine @unH _ ?_; refine z8 @y21_18 ?_; try (refine inK ?_; intro K hK))
 intro b hb
 refine hK _ _ ?_; clear hK K
 (refine @unH _ ?_; refine z9 Tryz.results21 ?_)
 refine ⟨b, rfl, Hp.le_set hb, sa, sl, sc, 0, _, set_at, by omega, by omega, fun i hi => ?_⟩
 obtain ⟨sb, so, c, e, fr, x, h1, h2, h3⟩ := hs i hi
 exact ⟨sb, so, c, e, fr, x, h1, Hp.le_set hb _ _ h2, h3⟩
end Go.Proofs.YtofmadjgbcopdaaGreatDoor
end
section
namespace Go.Proofs.YtofmadjgbcopdaaGreatDoor
open Go Go.X
def y131_19 := And.intro @callF156 @lit_22_1_0_0
def y162_19 := And.intro (fun H => len_slice (H := H) Tryz.underlying22) (And.intro (fun H => indexAt_slice (H := H) Tryz.underlying22 Tryz.sizeOf3) (And.intro (fun H => loadAt_one (H := H) Tryz.underlying3 rfl) @callF157))
def oWith (m n : Nat) : Nat := m ||| 2 ^ n
def oWithout (m n : Nat) : Nat := m &&& (63 - 2 ^ n)
def oCount (m : Nat) : Nat := (List.range 6).countP fun n => m.testBit n
def oListN (m k : Nat) : List Int := ((List.range k).filter fun n => m.testBit n).map fun n : Nat => (n : Int)
def oList (m : Nat) : List Int := oListN m 6
def oOf (xs : List Int) : Nat := xs.foldl (fun m x => oWith m x.toNat) 0
theorem has_bits : ∀ m : Fin 64, ∀ n : Fin 6, (bitv (fun x a b => a &&& b) IntKind.u8 ((m.val : Int).fdiv (2 ^ min (n.val : Int).toNat IntKind.u8.bits)) 1 == 1) = m.val.testBit (n.val : Int).toNat := by decide +kernel
theorem with_bits : ∀ m : Fin 64, ∀ n : Fin 6, bitv (fun x a b => a ||| b) IntKind.u8 (m.val : Int) (IntKind.u8.wrap (1 * 2 ^ min (n.val : Int).toNat IntKind.u8.bits)) = (oWith m.val (n.val : Int).toNat : Nat) /\ oWith m.val (n.val : Int).toNat < 64 := by decide +kernel
theorem without_bits : ∀ m : Fin 64, ∀ n : Fin 6, bitv (fun x a b => a &&& ~~~b) IntKind.u8 (m.val : Int) (IntKind.u8.wrap (1 * 2 ^ min (n.val : Int).toNat IntKind.u8.bits)) = (oWithout m.val (n.val : Int).toNat : Nat) /\ oWithout m.val (n.val : Int).toNat < 64 := by decide +kernel
theorem count_bits : ∀ m : Fin 64, m.val ≠ 0 -> bitv (fun x a b => a &&& b) IntKind.u8 (m.val : Int) (IntKind.u8.wrap ((m.val : Int) - 1)) = (m.val &&& (m.val - 1) : Nat) /\ (m.val &&& (m.val - 1)) < m.val /\ oCount (m.val &&& (m.val - 1)) + 1 = oCount m.val := by decide +kernel
theorem oCount_bits : ∀ m : Fin 64, oCount m.val <= 6 := by decide +kernel
theorem oCount_le (m : Nat) (hm : m < 64) : oCount m <= 6 := oCount_bits ⟨m, hm⟩
theorem has_fin {m : Nat} {n : Int} (hm : m < 64) (h0 : 0 <= n) (h1 : n < 6) : ∃ (a : Fin 64) (b : Fin 6), a.val = m /\ (b.val : Int) = n := ⟨⟨m, hm⟩, ⟨n.toNat, by omega⟩, rfl, by simp; omega⟩
theorem oWith_lt {m : Nat} {n : Int} (hm : m < 64) (h0 : 0 <= n) (h1 : n < 6) : oWith m n.toNat < 64 := by
 obtain ⟨a, b, rfl, rfl⟩ := has_fin hm h0 h1
 exact (with_bits a b).2
theorem oWithout_lt {m : Nat} {n : Int} (hm : m < 64) (h0 : 0 <= n) (h1 : n < 6) : oWithout m n.toNat < 64 := by
 obtain ⟨a, b, rfl, rfl⟩ := has_fin hm h0 h1
 exact (without_bits a b).2
theorem has_spec (main : Md) (H : Hp) (m : Nat) (n : Int) (hm : m < 64) (h0 : 0 <= n) (h1 : n < 6) :
  FnX Tryz.prog main 156 #[.int .u8 m, .int .i64 n] H fun e H' => e = .returned (.bool (m.testBit n.toNat)) /\ H' = H := by
 refine FnX_start Tryz.func156 rfl Tryz.ntmps156 (by simp) ?_
 (refine @unH _ ?_; refine z1 trivial ?_)
 (refine @unH _ ?_; refine z1 trivial ?_)
 (refine @unH _ ?_; refine z9 Tryz.results156 ?_)
 obtain ⟨a, b, rfl, rfl⟩ := has_fin hm h0 h1
 exact ⟨by rw [has_bits a b], trivial⟩
theorem with_spec (main : Md) (H : Hp) (m : Nat) (n : Int) (hm : m < 64) (h0 : 0 <= n) (h1 : n < 6) :
  FnX Tryz.prog main 157 #[.int .u8 m, .int .i64 n] H fun e H' => e = .returned (.int .u8 (oWith m n.toNat)) /\ H' = H := by
 refine FnX_start Tryz.func157 rfl Tryz.ntmps157 (by simp) ?_
 (refine @unH _ ?_; refine z1 trivial ?_)
 (refine @unH _ ?_; refine z1 trivial ?_)
 (refine @unH _ ?_; refine z9 Tryz.results157 ?_)
 obtain ⟨a, b, rfl, rfl⟩ := has_fin hm h0 h1
 exact ⟨by rw [(with_bits a b).1], trivial⟩
theorem without_spec (main : Md) (H : Hp) (m : Nat) (n : Int) (hm : m < 64) (h0 : 0 <= n) (h1 : n < 6) :
  FnX Tryz.prog main 164 #[.int .u8 m, .int .i64 n] H fun e H' => e = .returned (.int .u8 (oWithout m n.toNat)) /\ H' = H := by
 refine FnX_start Tryz.func164 rfl Tryz.ntmps164 (by simp) ?_
 (refine @unH _ ?_; refine z1 trivial ?_)
 (refine @unH _ ?_; refine z1 trivial ?_)
 (refine @unH _ ?_; refine z9 Tryz.results164 ?_)
 obtain ⟨a, b, rfl, rfl⟩ := has_fin hm h0 h1
 exact ⟨by rw [(without_bits a b).1], trivial⟩
theorem count_spec (main : Md) (H : Hp) (m : Nat) (hm : m < 64) :
  FnX Tryz.prog main 163 #[.int .u8 m] H fun e H' => e = .returned (.int .i64 (oCount m)) /\ H' = H := by
 refine FnX_start Tryz.func163 rfl Tryz.ntmps163 (by simp) ?_
 (refine @unH _ ?_; refine z1 trivial ?_)
 (refine @unH _ ?_; refine z1 trivial ?_)
 refine wpX_seq ?_
 refine wpX_block (wpX_loop (fun w a' H' => ∃ e j, w < 64 /\ a' = act 13 e [] /\ e 0 = .int .u8 (w : Nat) /\ e 3 = .int .i64 (j : Nat) /\ j <= 6 /\ j + oCount w = oCount m /\ H' = H) (n := m) ?_ ?_)
 ·exact ⟨_, 0, hm, rfl, rfl, rfl, by omega, by omega, rfl⟩
 ·rintro w a' H' ⟨e, j, hw, rfl, e0, e3, hj6, hj, rfl⟩
  refine wpX_seq ?_
  (refine @unH _ ?_; refine z1 @e0 ?_)
  refine wpX_cond (by simp -implicitDefEqProofs (disch := first | omega | (simp only [qd] <;> omega)) only [act_eval, upd_get, Nat.reduceEqDiff, ↓reduceIte]; rfl) ?_
  by_cases hz : w = 0
  ·subst hz
   simp only [Int.natCast_zero, bne_self_eq_false, decide_false, Bool.false_eq_true, if_false]
   (refine wpX_exit ?_; simp only [thn, blk, ↓reduceIte, Nat.reduceEqDiff])
   (refine @unH _ ?_; refine z1 @e3 ?_)
   (refine @unH _ ?_; refine z9 Tryz.results163 ?_)
   have : oCount 0 = 0 := by decide
   exact ⟨by rw [<- hj, this, Nat.add_zero], trivial⟩
  ·have hne : ((w : Int) != 0) = true := by simp; omega
   obtain ⟨h1, h2, h3⟩ := count_bits ⟨w, hw⟩ hz
   simp only at h1 h2 h3
   simp only [hne, if_true]
   refine wpX_skip (wpX_seq (wpX_block ?_))
   (refine @unH _ ?_; refine z2 @e3 ?_)
   simp -implicitDefEqProofs (disch := first | omega | (simp only [qd] <;> omega)) only [thn, blk, ↓reduceIte, Nat.reduceEqDiff]
   (refine @unH _ ?_; refine z2 (And.intro @e0 @h1) ?_)
   simp -implicitDefEqProofs (disch := first | omega | (simp only [qd] <;> omega)) only [thn, blk, ↓reduceIte, Nat.reduceEqDiff]
   exact ⟨_, h2, _, j + 1, by omega, rfl, rfl, rfl, by have := oCount_le m hm; omega, by omega, by trivial⟩
theorem oListN_succ (m k : Nat) : oListN m (k + 1) = oListN m k ++ if m.testBit k then [(k : Int)] else [] := by
 unfold oListN
 rw [List.range_succ, List.filter_append, List.map_append]
 congr 1
 by_cases h : m.testBit k <;> simp [h]
theorem oListN_len (m k : Nat) : (oListN m k).length <= k := by
 unfold oListN
 rw [List.length_map]
 exact Nat.le_trans (List.length_filter_le _ _) (by simp)
theorem list_specF (main : Md) (H : Hp) (m : Nat) (hm : m < 64) :
  FnX Tryz.prog main 131 #[.int .u8 m] H fun e H' => ∃ v, e = .returned v /\ SlI H' v (oList m) /\ H.le H' /\ ∀ a n c, v = .slice (some a) n c -> H a.block = none := by
 refine FnX_start Tryz.func131 rfl Tryz.ntmps131 (by simp) ?_
 (refine @unH _ ?_; refine z1 y131_19 ?_)
 (refine @unH _ ?_; refine z1 y131_19 ?_)
 refine wpX_seq ?_
 (refine @unH _ ?_; refine z1 y131_19 ?_)
 refine wpX_block (wpX_loop (fun w a' H' => ∃ e j lv, w = 6 - j /\ j <= 6 /\ a' = act 17 e [] /\ e 0 = .int .u8 m /\ e 3 = lv /\ e 5 = .int .i64 (j : Nat) /\ RowX none H H' lv 3 (ints (oListN m j))) (n := 6) ?_ ?_)
 ·exact ⟨_, 0, _, by omega, by omega, rfl, rfl, rfl, rfl, RowX.nil⟩
 ·rintro w a' H' ⟨e, j, lv, rfl, hj, rfl, e0, e3, e5, hrow⟩
  (refine @unH _ ?_; refine z1 (And.intro y131_19 @e5) ?_)
  refine wpX_seq ?_
  refine wpX_cond (by simp -implicitDefEqProofs (disch := first | omega | (simp only [qd] <;> omega)) only [act_eval, upd_get, Nat.reduceEqDiff, ↓reduceIte]; rfl) ?_
  by_cases hlt : j < 6
  ·have hlt' : (j : Int) < 6 := by omega
   simp only [hlt', decide_true, if_true]
   refine wpX_skip (wpX_seq (wpX_block ?_))
   (refine @unH _ ?_; refine z1 (And.intro y131_19 @e5) ?_)
   (refine @unH _ ?_; refine z8 (And.intro y131_19 @e0) ?_; try (refine inK ?_; intro K hK))
   refine (has_spec main H' m j hm (by omega) (by omega)).runs.mono ?_
   rintro _ _ ⟨rfl, rfl⟩
   (refine @unH _ ?_; refine z0 y131_19 ?_)
   refine hK _ _ ?_; clear hK K
   refine wpX_cond (by simp -implicitDefEqProofs (disch := first | omega | (simp only [qd] <;> omega)) only [act_eval, upd_get, Nat.reduceEqDiff, ↓reduceIte]; rfl) ?_
   by_cases hb : m.testBit j
   ·simp only [Int.toNat_natCast, hb, if_true]
    refine wpX_last ?_; intro K hK
    (refine @unH _ ?_; refine z0 (And.intro y131_19 @e3) ?_)
    intro gb hgb
    refine append_i hrow hgb (by have := oListN_len m j; omega) _ _ _ _ ?_
    intro v' H5 hr5 ho5
    (refine @unH _ ?_; refine z0 y131_19 ?_)
    refine hK _ _ ?_; clear hK K
    simp -implicitDefEqProofs (disch := first | omega | (simp only [qd] <;> omega)) only [thn, blk, ↓reduceIte, Nat.reduceEqDiff]
    (refine @unH _ ?_; refine z2 (And.intro y131_19 @e5) ?_)
    simp -implicitDefEqProofs (disch := first | omega | (simp only [qd] <;> omega)) only [thn, blk, ↓reduceIte, Nat.reduceEqDiff]
    refine ⟨_, ?_, _, j + 1, v', rfl, by omega, rfl, e0, rfl, rfl, by rw [oListN_succ, if_pos hb]; exact hr5⟩
    omega
   ·simp only [Int.toNat_natCast, hb, Bool.false_eq_true, if_false]
    refine wpX_skip ?_
    simp -implicitDefEqProofs (disch := first | omega | (simp only [qd] <;> omega)) only [thn, blk, ↓reduceIte, Nat.reduceEqDiff]
    (refine @unH _ ?_; refine z2 (And.intro y131_19 @e5) ?_)
    simp -implicitDefEqProofs (disch := first | omega | (simp only [qd] <;> omega)) only [thn, blk, ↓reduceIte, Nat.reduceEqDiff]
    refine ⟨_, ?_, _, j + 1, lv, rfl, by omega, rfl, e0, e3, rfl, by rw [oListN_succ, if_neg hb, List.append_nil]; exact hrow⟩
    omega
  ·have hlt' : ¬ (j : Int) < 6 := by omega
   simp only [hlt', decide_false, Bool.false_eq_true, if_false]
   (refine wpX_exit ?_; simp only [thn, blk, ↓reduceIte, Nat.reduceEqDiff])
   (refine @unH _ ?_; refine z1 (And.intro y131_19 @e3) ?_)
   (refine @unH _ ?_; refine z9 Tryz.results131 ?_)
   have : j = 6 := by omega
   subst this
   refine ⟨_, rfl, hrow.ints, hrow.1.toLe, fun a n c hv => ?_⟩
   rcases hrow.2 with ⟨h1, _⟩ | ⟨b', c', cap', h0, _, h2, _⟩
   ·rw [h1] at hv; cases hv
   ·rw [h2] at hv
    cases hv
    exact h0
theorem list_spec (main : Md) (H : Hp) (m : Nat) (hm : m < 64) :
  FnX Tryz.prog main 131 #[.int .u8 m] H fun e H' => ∃ v, e = .returned v /\ SlI H' v (oList m) /\ H.le H' :=
 (list_specF main H m hm).mono fun e H' ⟨v, h1, h2, h3, _⟩ => ⟨v, h1, h2, h3⟩
theorem oOf_lt : ∀ (xs : List Int) (m : Nat), m < 64 -> (∀ x ∈ xs, 0 <= x /\ x < 6) -> xs.foldl (fun m x => oWith m x.toNat) m < 64
 | [], m, hm, _ => hm
 | x :: xs, m, hm, h => oOf_lt xs _ (oWith_lt hm (h x List.mem_cons_self).1 (h x List.mem_cons_self).2) fun y hy => h y (List.mem_cons_of_mem _ hy)
theorem officeOf_spec (main : Md) (H : Hp) (v : Value) (xs : List Int) (hv : SlI H v xs) (hx : ∀ x ∈ xs, 0 <= x /\ x < 6) (hl : xs.length <= 1000000) :
  FnX Tryz.prog main 162 #[v] H fun e H' => e = .returned (.int .u8 (oOf xs)) /\ H' = H := by
 obtain ⟨a, cap, rfl, hc, hv⟩ := hv
 refine FnX_start Tryz.func162 rfl Tryz.ntmps162 (by simp) ?_
 (refine @unH _ ?_; refine z1 y162_19 ?_)
 (refine @unH _ ?_; refine z1 y162_19 ?_)
 refine wpX_seq ?_
 (refine @unH _ ?_; refine z1 y162_19 ?_)
 refine wpX_block (wpX_loop (fun w a' H' => ∃ e j, w = xs.length - j /\ j <= xs.length /\ a' = act 17 e [] /\ e 3 = .int .u8 (oOf (xs.take j) : Nat) /\ e 6 = .slice a xs.length cap /\ e 7 = .int .i64 xs.length /\ e 8 = .int .i64 (j : Nat) /\ H' = H) (n := xs.length) ?_ ?_)
 ·exact ⟨_, 0, by omega, by omega, rfl, rfl, rfl, rfl, rfl, rfl⟩
 ·rintro w a' H' ⟨e, j, rfl, hj, rfl, e3, e6, e7, e8, rfl⟩
  (refine @unH _ ?_; refine z1 (And.intro y162_19 (And.intro @e7 @e8)) ?_)
  refine wpX_seq ?_
  refine wpX_cond (by simp -implicitDefEqProofs (disch := first | omega | (simp only [qd] <;> omega)) only [act_eval, upd_get, Nat.reduceEqDiff, ↓reduceIte]; rfl) ?_
  by_cases hlt : j < xs.length
  ·simp only [Int.ofNat_lt, hlt, decide_true, if_true]
   refine wpX_skip (wpX_seq (wpX_block ?_))
   obtain ⟨b, o, p, c, fr, rfl, hb, hx'⟩ := hv j xs[j] (List.getElem?_eq_getElem hlt)
   have hx'' : c[o + (j : Int).toNat * 1]? = some (.int .i64 xs[j]) := by simpa using hx'
   have hxj := hx _ (List.getElem_mem hlt)
   (refine wpX_stmt ?_; intro K hK; simp -implicitDefEqProofs (disch := first | omega | (simp only [qd] <;> omega)) only [xq, ↓xp, qc, Nat.reduceAdd, List.range, List.range.loop, fine, Nat.reduceEqDiff, ↓reduceIte, yielded, reduceCtorEq, Nat.reduceLT, Nat.reduceMul, Nat.reduceSub, one, Nat.reduceLeDiff, runX_cons, y162_19, e6, e8, cell_of hb, hx'', exists_eq_left']; refine hK _ _ ?_; clear hK K)
   refine wpX_last ?_; intro K hK
   (refine @unH _ ?_; refine z0 (And.intro y162_19 @e3) ?_)
   refine (with_spec main H' (oOf (xs.take j)) xs[j] (oOf_lt _ 0 (by omega) fun x h => hx x (List.mem_of_mem_take h)) hxj.1 hxj.2).runs.mono ?_
   rintro _ _ ⟨rfl, rfl⟩
   (refine @unH _ ?_; refine z0 y162_19 ?_)
   refine hK _ _ ?_; clear hK K
   simp -implicitDefEqProofs (disch := first | omega | (simp only [qd] <;> omega)) only [thn, blk, ↓reduceIte, Nat.reduceEqDiff]
   (refine @unH _ ?_; refine z2 (And.intro y162_19 @e8) ?_)
   simp -implicitDefEqProofs (disch := first | omega | (simp only [qd] <;> omega)) only [thn, blk, ↓reduceIte, Nat.reduceEqDiff]
   refine ⟨_, ?_, _, j + 1, rfl, hlt, rfl, ?_, e6, e7, rfl, by trivial⟩
   ·omega
   ·show Value.int .u8 _ = _
    rw [List.take_add_one, List.getElem?_eq_getElem hlt]
    unfold oOf
    rw [List.foldl_append]
    rfl
  ·simp only [Int.ofNat_lt, hlt, decide_false, Bool.false_eq_true, if_false]
   (refine wpX_exit ?_; simp only [thn, blk, ↓reduceIte, Nat.reduceEqDiff])
   (refine @unH _ ?_; refine z1 (And.intro y162_19 @e3) ?_)
   (refine @unH _ ?_; refine z9 Tryz.results162 ?_)
   exact ⟨by rw [List.take_of_length_le (by omega)], trivial⟩
end Go.Proofs.YtofmadjgbcopdaaGreatDoor
end
section
namespace Go.X
open Go
section
variable {P : Program} {H : Hp}
theorem equal_int {t : TypeId} {k : IntKind} (hu : P.underlying t = some (.int k)) (d : Nat) (j : IntKind) (a b : Int) (K : Bool -> Hp -> Prop) (E : Value -> Hp -> Prop) : wpS P (Op.equalIn (d + 1) t (.int j a) (.int j b)) H K E = K (a == b) H := by
 unfold Op.equalIn
 simp only [wpS_bind', wpS_underlying hu, if_true, wpS_pure]
theorem wpS_purec {α : Type} (x : α) (K : α -> Hp -> Prop) (E : Value -> Hp -> Prop) : wpS P (Sem.pure x) H K E = K x H := rfl
theorem wpS_program (K : Program -> Hp -> Prop) (E : Value -> Hp -> Prop) : wpS P program H K E = K P H := rfl
theorem checkKey_int {t : TypeId} {k : IntKind} (hu : P.underlying t = some (.int k)) (em : Bool) (n : Nat) (v : Value) (K : Unit -> Hp -> Prop) (E : Value -> Hp -> Prop) : wpS P (Instr.checkKey em (n + 1) t v) H K E = K () H := by
 unfold Instr.checkKey
 rw [wpS_bind', wpS_underlying hu]
 rfl
end
end Go.X
end
section
namespace Go.Proofs.YtofmadjgbcopdaaGreatDoor
open Go Go.X
def y127_21 := And.intro (fun H => loadAt_aggE (H := H) Tryz.underlying25 rfl Tryz.sizeOf25) @bld_175_0_1_2_0
def y128_21 := And.intro (fun H => ex_alloc (H := H) (P := Tryz.prog) (h := Tryz.zeroValue178)) (And.intro (fun H => fieldAt_eq (H := H) Tryz.underlying175 (i := 0) rfl (off := 0) rfl Tryz.sizeOf25) (And.intro (fun H => fieldAt_eq (H := H) Tryz.underlying25 (i := 2) rfl (off := 2) rfl Tryz.sizeOf22) (And.intro (fun H => loadAt_one (H := H) Tryz.underlying22 rfl) (And.intro @callF162 (And.intro @bld_178_1_0 (fun H => storeAt_agg (H := H) Tryz.sizeOf178))))))
def y129_21 := And.intro (fun H => fieldAt_eq (H := H) Tryz.underlying178 (i := 1) rfl (off := 1) rfl Tryz.sizeOf176) (And.intro (fun H => loadAt_one (H := H) Tryz.underlying176 rfl) (And.intro (fun H => fieldAt_eq (H := H) Tryz.underlying175 (i := 1) rfl (off := 4) rfl Tryz.sizeOf22) (And.intro (fun H => loadAt_one (H := H) Tryz.underlying22 rfl) (And.intro (fun H => fieldAt_eq (H := H) Tryz.underlying178 (i := 0) rfl (off := 0) rfl Tryz.sizeOf3) (And.intro (fun H => loadAt_one (H := H) Tryz.underlying3 rfl) (And.intro (fun H => indexAt_slice (H := H) Tryz.underlying22 Tryz.sizeOf3) (And.intro @callF156 (And.intro @callF163 (And.intro (fun H => fieldAt_eq (H := H) Tryz.underlying175 (i := 0) rfl (off := 0) rfl Tryz.sizeOf25) (fun H => fieldAt_eq (H := H) Tryz.underlying25 (i := 0) rfl (off := 0) rfl Tryz.sizeOf3))))))))))
def y132_21 := And.intro (fun H => ex_alloc (H := H) (P := Tryz.prog) (h := Tryz.zeroValue178)) (And.intro (fun H => fieldAt_eq (H := H) Tryz.underlying178 (i := 1) rfl (off := 1) rfl Tryz.sizeOf176) (And.intro (fun H => loadAt_one (H := H) Tryz.underlying176 rfl) (And.intro @callF164 (And.intro (fun H => storeAt_int (H := H) Tryz.sizeOf176) (And.intro (fun H => fieldAt_eq (H := H) Tryz.underlying178 (i := 0) rfl (off := 0) rfl Tryz.sizeOf3) (And.intro (fun H => loadAt_one (H := H) Tryz.underlying3 rfl) (And.intro (fun H => fieldAt_eq (H := H) Tryz.underlying175 (i := 1) rfl (off := 4) rfl Tryz.sizeOf22) (And.intro (fun H => loadAt_one (H := H) Tryz.underlying22 rfl) (And.intro (fun H => indexAt_slice (H := H) Tryz.underlying22 Tryz.sizeOf3) (And.intro @callF157 (And.intro @bld_178_0_1_0 (fun H => storeAt_agg (H := H) Tryz.sizeOf178))))))))))))
abbrev dayO (places pieces : Int) (sv cv tv : Value) (mb : Nat) : Obj := .cells #[.int .i64 places, .int .i64 pieces, sv, cv, tv, .map (some mb)] 175 (0, 0)
abbrev spotV (c m : Nat) : Value := .agg #[.int .i64 c, .int .u8 m]
theorem vopen_spec (main : Md) (H : Hp) (places pieces : Int) (sa : Option Addr) (sn sc : Nat) (ca : Option Addr) (cn cc : Nat) (ta : Option Addr) (tn tc : Nat) :
  FnX Tryz.prog main 127 #[.agg #[.int .i64 places, .int .i64 pieces, .slice sa sn sc, .slice ca cn cc], .slice ta tn tc] H fun e H' => ∃ db mb, e = .returned (.pointer (some ⟨db, 0, none⟩)) /\ H.le H' /\ db ≠ mb /\ H db = none /\ H mb = none /\
   H' db = some (true, dayO places pieces (.slice sa sn sc) (.slice ca cn cc) (.slice ta tn tc) mb) /\ H' mb = some (true, .map #[] 0) := by
 refine FnX_start Tryz.func127 rfl Tryz.ntmps127 (by simp) ?_
 (refine @unH _ ?_; refine z8 y127_21 ?_; try (refine inK ?_; intro K hK))
 intro bb hbb
 refine hK _ _ ?_; clear hK K
 (refine @unH _ ?_; refine z8 y127_21 ?_; try (refine inK ?_; intro K hK))
 intro mb hmb db hdb
 refine hK _ _ ?_; clear hK K
 (refine @unH _ ?_; refine z9 Tryz.results127 ?_)
 have hmn : mb ≠ bb := fun e => by rw [e, set_at] at hmb; cases hmb
 have hdm : db ≠ mb := fun e => by rw [e, set_at] at hdb; cases hdb
 exact ⟨db, mb, rfl, fun x v hx => Hp.le_set hdb _ _ (Hp.le_set hmb _ _ (Hp.le_set hbb _ _ hx)), hdm, (Lex.refl (b := none) |>.new hbb |>.new hmb).gone hdb, (Lex.refl (b := none) |>.new hbb).gone hmb, set_at, by rw [set_ne hdm.symm]; exact set_at⟩
theorem first_spec (main : Md) (H : Hp) (db : Nat) (places pieces : Int) (sv cv tv : Value) (start : List Int) (mb : Nat) (hdb : H db = some (true, dayO places pieces sv cv tv mb)) (hs : SlI H sv start) (hx : ∀ x ∈ start, 0 <= x /\ x < 6) (hl : start.length <= 1000000) :
  FnX Tryz.prog main 128 #[.pointer (some ⟨db, 0, none⟩)] H fun e H' => e = .returned (spotV 0 (oOf start)) /\ H.le H' := by
 refine FnX_start Tryz.func128 rfl Tryz.ntmps128 (by simp) ?_
 (refine @unH _ ?_; refine z8 y128_21 ?_; try (refine inK ?_; intro K hK))
 intro rb hrb
 refine hK _ _ ?_; clear hK K
 have hdb' := Hp.le_set hrb (o := .cells #[.int .i64 0, .int .u8 0] 178 (0, 0)) _ _ hdb
 (refine wpX_stmt ?_; intro K hK; simp -implicitDefEqProofs (disch := first | omega | (simp only [qd] <;> omega)) only [xq, ↓xp, qc, Nat.reduceAdd, List.range, List.range.loop, fine, Nat.reduceEqDiff, ↓reduceIte, yielded, reduceCtorEq, Nat.reduceLT, Nat.reduceMul, Nat.reduceSub, one, Nat.reduceLeDiff, runX_cons, y128_21, cell_of hdb', exists_eq_left'])
 refine (officeOf_spec main _ sv start (hs.le (Hp.le_set hrb)) hx hl).runs.mono ?_
 rintro _ _ ⟨rfl, rfl⟩
 (refine @unH _ ?_; refine z0 y128_21 ?_)
 refine hK _ _ ?_; clear hK K
 (refine wpX_ret ?_; (try simp only [nq, ↓reduceIte, Nat.reduceEqDiff]); rw [bodyX_ret, results_cell Tryz.results128 (by decide) (b := rb) (o := 0) rfl Tryz.underlying178 rfl Tryz.sizeOf178]; simp -implicitDefEqProofs (disch := first | omega | (simp only [qd] <;> omega)) only [xq, ↓xp, qc, Nat.reduceAdd, List.range, List.range.loop, fine, Nat.reduceEqDiff, ↓reduceIte, yielded, reduceCtorEq, Nat.reduceLT, Nat.reduceMul, Nat.reduceSub, one, Nat.reduceLeDiff, runX_cons, y128_21, loadA_set])
 exact ⟨rfl, Hp.le_set hrb⟩
theorem needs_spec (main : Md) (H : Hp) (db : Nat) (places pieces : Int) (sv cv tv : Value) (ts : List Int) (mb : Nat) (hdb : H db = some (true, dayO places pieces sv cv tv mb)) (hts : SlI H tv ts) (c m : Nat) (t : Int) (hc : ts[c]? = some t) (h0 : 0 <= t) (h6 : t < 6) (hm : m < 64) :
  FnX Tryz.prog main 129 #[.pointer (some ⟨db, 0, none⟩), spotV c m] H fun e H' => e = .returned (.tuple #[.bool (!m.testBit t.toNat), .bool (!m.testBit t.toNat && decide (places <= oCount m))]) /\ H.le H' := by
 have hcl : c < ts.length := (List.getElem?_eq_some_iff.1 hc).1
 obtain ⟨a, cap, rfl, hcap, hts⟩ := hts
 obtain ⟨tb, to, p, cs, fr, rfl, htb, htc⟩ := hts c t hc
 refine FnX_start Tryz.func129 rfl Tryz.ntmps129 (by simp) ?_
 (refine @unH _ ?_; refine z8 y129_21 ?_; try (refine inK ?_; intro K hK))
 intro sb hsb
 refine hK _ _ ?_; clear hK K
 have hle := Hp.le_set hsb (o := .cells #[.int .i64 c, .int .u8 m] 178 (0, 0))
 have hdb1 := hle _ _ hdb
 have htb1 := hle _ _ htb
 have hsb1 : (H.set sb (.cells #[.int .i64 c, .int .u8 m] 178 (0, 0))) sb = _ := set_at
 generalize H.set sb (.cells #[.int .i64 c, .int .u8 m] 178 (0, 0)) = H1 at *
 have htc' : cs[to + (c : Int).toNat * 1]? = some (.int .i64 t) := by simpa using htc
 refine wpX_seq ?_
 refine wpX_dst0 11 [(true, 0), (true, 1), (true, 2), (true, 3), (true, 4), (true, 5), (true, 6), (true, 7), (true, 8), (true, 9), (true, 10)] (by kernel_rfl) (by kernel_rfl) (by simp) (by kernel_rfl) ?_; intro K hK
 iterate 10 (apply plan_take rfl rfl rfl; (focus (simp -implicitDefEqProofs (disch := first | omega | (simp only [qd] <;> omega)) only [xq, ↓xp, qc, Nat.reduceAdd, List.range, List.range.loop, fine, Nat.reduceEqDiff, ↓reduceIte, yielded, reduceCtorEq, Nat.reduceLT, Nat.reduceMul, Nat.reduceSub, one, Nat.reduceLeDiff, runX_cons, y129_21, cell_of hdb1, cell_of htb1, cell_of hsb1, htc', exists_eq_left', and_true, true_and] <;> (first | exact rfl | exact ⟨rfl, rfl⟩))); simp -implicitDefEqProofs (disch := first | omega | (simp only [qd] <;> omega)) only [act_put, act_put_none])
 (apply plan_take rfl rfl rfl; (focus (simp -implicitDefEqProofs (disch := first | omega | (simp only [qd] <;> omega)) only [xq, ↓xp, qc, Nat.reduceAdd, List.range, List.range.loop, fine, Nat.reduceEqDiff, ↓reduceIte, yielded, reduceCtorEq, Nat.reduceLT, Nat.reduceMul, Nat.reduceSub, one, Nat.reduceLeDiff, runX_cons, y129_21]; exact quiet_of (has_spec main H1 m t hm h0 h6))); simp -implicitDefEqProofs (disch := omega) only [act_put, act_put_none])
 refine plan_nil (hK _ _ ?_); clear hK K
 refine wpX_cond (by simp -implicitDefEqProofs (disch := first | omega | (simp only [qd] <;> omega)) only [act_eval, upd_get, Nat.reduceEqDiff, ↓reduceIte]; rfl) ?_
 cases hb : m.testBit t.toNat
 ·simp only [Bool.false_eq_true, if_false]
  refine wpX_skip ?_
  simp -implicitDefEqProofs (disch := first | omega | (simp only [qd] <;> omega)) only [thn, blk, ↓reduceIte, Nat.reduceEqDiff]
  refine wpX_dst0 11 [(true, 0), (true, 1), (true, 2), (true, 3), (true, 4), (true, 5), (true, 6), (true, 7), (true, 8), (true, 9), (true, 10)] (by kernel_rfl) (by kernel_rfl) (by simp) (by kernel_rfl) ?_; intro K hK
  iterate 2 (apply plan_take rfl rfl rfl; (focus (simp -implicitDefEqProofs (disch := first | omega | (simp only [qd] <;> omega)) only [xq, ↓xp, qc, Nat.reduceAdd, List.range, List.range.loop, fine, Nat.reduceEqDiff, ↓reduceIte, yielded, reduceCtorEq, Nat.reduceLT, Nat.reduceMul, Nat.reduceSub, one, Nat.reduceLeDiff, runX_cons, y129_21, cell_of hdb1, cell_of htb1, cell_of hsb1, htc', exists_eq_left', and_true, true_and] <;> (first | exact rfl | exact ⟨rfl, rfl⟩))); simp -implicitDefEqProofs (disch := first | omega | (simp only [qd] <;> omega)) only [act_put, act_put_none])
  (apply plan_take rfl rfl rfl; (focus (simp -implicitDefEqProofs (disch := first | omega | (simp only [qd] <;> omega)) only [xq, ↓xp, qc, Nat.reduceAdd, List.range, List.range.loop, fine, Nat.reduceEqDiff, ↓reduceIte, yielded, reduceCtorEq, Nat.reduceLT, Nat.reduceMul, Nat.reduceSub, one, Nat.reduceLeDiff, runX_cons, y129_21]; exact quiet_of (count_spec main H1 m hm))); simp -implicitDefEqProofs (disch := omega) only [act_put, act_put_none])
  iterate 8 (apply plan_take rfl rfl rfl; (focus (simp -implicitDefEqProofs (disch := first | omega | (simp only [qd] <;> omega)) only [xq, ↓xp, qc, Nat.reduceAdd, List.range, List.range.loop, fine, Nat.reduceEqDiff, ↓reduceIte, yielded, reduceCtorEq, Nat.reduceLT, Nat.reduceMul, Nat.reduceSub, one, Nat.reduceLeDiff, runX_cons, y129_21, cell_of hdb1, cell_of htb1, cell_of hsb1, htc', exists_eq_left', and_true, true_and] <;> (first | exact rfl | exact ⟨rfl, rfl⟩))); simp -implicitDefEqProofs (disch := first | omega | (simp only [qd] <;> omega)) only [act_put, act_put_none])
  refine plan_nil (hK _ _ ?_); clear hK K
  (refine @unH _ ?_; refine zB Tryz.results129 ?_)
  exact ⟨by simp, hle⟩
 ·simp only [if_true]
  (refine @unH _ ?_; refine z1 y129_21 ?_)
  (refine wpX_ret ?_; simp only [thn, blk]; rw [bodyX_ret, results_two Tryz.results129 (by decide) (by decide)]; simp only [upd_get, Nat.reduceEqDiff, ↓reduceIte])
  exact ⟨by simp, hle⟩
def oNext (m : Nat) (sent : Int) (t : Int) : Nat := oWith (if 0 <= sent then oWithout m sent.toNat else m) t.toNat
theorem vnext_spec (main : Md) (H : Hp) (db : Nat) (places pieces : Int) (sv cv tv : Value) (ts : List Int) (mb : Nat) (hdb : H db = some (true, dayO places pieces sv cv tv mb)) (hts : SlI H tv ts) (hln : ts.length <= 1000000) (c m : Nat) (sent t : Int) (hc : ts[c]? = some t) (h0 : 0 <= t) (h6 : t < 6) (hm : m < 64) (hs : sent < 6) :
  FnX Tryz.prog main 132 #[.pointer (some ⟨db, 0, none⟩), spotV c m, .int .i64 sent] H fun e H' => e = .returned (spotV (c + 1) (oNext m sent t)) /\ H.le H' := by
 have hcl : c < ts.length := (List.getElem?_eq_some_iff.1 hc).1
 obtain ⟨a, cap, rfl, hcap, hts⟩ := hts
 obtain ⟨tb, to, p, cs, fr, rfl, htb, htc⟩ := hts c t hc
 refine FnX_start Tryz.func132 rfl Tryz.ntmps132 (by simp) ?_
 (refine @unH _ ?_; refine z8 y132_21 ?_; try (refine inK ?_; intro K hK))
 intro sb hsb rb hrb
 refine hK _ _ ?_; clear hK K
 have hle : H.le ((H.set sb (.cells #[.int .i64 c, .int .u8 m] 178 (0, 0))).set rb (.cells #[.int .i64 0, .int .u8 0] 178 (0, 0))) := fun x v hx => Hp.le_set hrb _ _ (Hp.le_set hsb _ _ hx)
 have hrs : rb ≠ sb := fun e => by rw [e, set_at] at hrb; cases hrb
 have hsbv := set_at (H := H) (b := sb) (o := .cells #[.int .i64 c, .int .u8 m] 178 (0, 0))
 have hrb0 : H rb = none := (Lex.refl (b := none) |>.new hsb).gone hrb
 refine wpX_cut (fun a' H1 => ∃ e m', a' = act 29 e [] /\ e 0 = .pointer (some ⟨db, 0, none⟩) /\ e 4 = .pointer (some ⟨sb, 0, none⟩) /\ e 6 = .pointer (some ⟨rb, 0, none⟩) /\ m' = (if 0 <= sent then oWithout m sent.toNat else m) /\ m' < 64 /\
  H1 sb = some (true, .cells #[.int .i64 c, .int .u8 (m' : Nat)] 178 (0, 0)) /\ H1 rb = some (true, .cells #[.int .i64 0, .int .u8 0] 178 (0, 0)) /\ H.le H1) ?_ ?_
 ·(refine @unH _ ?_; refine z1 y132_21 ?_)
  refine wpX_cond (by simp -implicitDefEqProofs (disch := first | omega | (simp only [qd] <;> omega)) only [act_eval, upd_get, Nat.reduceEqDiff, ↓reduceIte]; rfl) ?_
  by_cases hs0 : 0 <= sent
  ·simp only [hs0, decide_true, if_true]
   have hsb1 := Hp.le_set hrb (o := .cells #[.int .i64 0, .int .u8 0] 178 (0, 0)) _ _ hsbv
   refine wpX_last ?_; intro K hK
   simp -implicitDefEqProofs (disch := first | omega | (simp only [qd] <;> omega)) only [xq, ↓xp, qc, Nat.reduceAdd, List.range, List.range.loop, fine, Nat.reduceEqDiff, ↓reduceIte, yielded, reduceCtorEq, Nat.reduceLT, Nat.reduceMul, Nat.reduceSub, one, Nat.reduceLeDiff, runX_cons, y132_21, cell_of hsb1, exists_eq_left']
   refine (without_spec main _ m sent hm hs0 hs).runs.mono ?_
   rintro _ _ ⟨rfl, rfl⟩
   simp -implicitDefEqProofs (disch := first | omega | (simp only [qd] <;> omega)) only [xq, ↓xp, qc, Nat.reduceAdd, List.range, List.range.loop, fine, Nat.reduceEqDiff, ↓reduceIte, yielded, reduceCtorEq, Nat.reduceLT, Nat.reduceMul, Nat.reduceSub, one, Nat.reduceLeDiff, runX_cons, y132_21, cell_of hsb1, stor_at hsb1]
   refine hK _ _ ?_; clear hK K
   exact ⟨_, _, rfl, rfl, rfl, rfl, rfl, oWithout_lt hm hs0 hs, set_at, by rw [set_ne hrs]; exact set_at, fun x v hx => by rw [set_ne (fun e => by rw [e, hsb] at hx; cases hx)]; exact hle _ _ hx⟩
  ·simp only [hs0, decide_false, Bool.false_eq_true, if_false]
   exact wpX_skip ⟨_, m, rfl, rfl, rfl, rfl, rfl, hm, by rw [set_ne hrs.symm]; exact set_at, set_at, hle⟩
 ·rintro a' H1 ⟨e, m', rfl, e0, e4, e6, hm', hm64, hsb1, hrb1, hle1⟩
  have hdb1 := hle1 _ _ hdb
  have htb1 := hle1 _ _ htb
  have htc' : cs[to + (c : Int).toNat * 1]? = some (.int .i64 t) := by simpa using htc
  have hc1 : ((c : Int) + 1) = ((c + 1 : Nat) : Int) := by omega
  refine wpX_dst0 15 [(true, 0), (true, 1), (true, 2), (true, 3), (true, 4), (true, 5), (true, 6), (true, 7), (true, 8), (true, 9), (true, 10), (true, 11), (true, 12), (true, 13), (true, 14), (false, 15)] (by kernel_rfl) (by kernel_rfl) (by simp) (by kernel_rfl) ?_; intro K hK
  iterate 13 (apply plan_take rfl rfl rfl; (focus (simp -implicitDefEqProofs (disch := first | omega | (simp only [qd] <;> omega)) only [xq, ↓xp, qc, Nat.reduceAdd, List.range, List.range.loop, fine, Nat.reduceEqDiff, ↓reduceIte, yielded, reduceCtorEq, Nat.reduceLT, Nat.reduceMul, Nat.reduceSub, one, Nat.reduceLeDiff, runX_cons, y132_21, e0, e4, e6, cell_of hdb1, cell_of htb1, cell_of hsb1, htc', exists_eq_left', and_true, true_and] <;> (first | exact rfl | exact ⟨rfl, rfl⟩))); simp -implicitDefEqProofs (disch := first | omega | (simp only [qd] <;> omega)) only [act_put, act_put_none])
  (apply plan_take rfl rfl rfl; (focus (simp -implicitDefEqProofs (disch := first | omega | (simp only [qd] <;> omega)) only [xq, ↓xp, qc, Nat.reduceAdd, List.range, List.range.loop, fine, Nat.reduceEqDiff, ↓reduceIte, yielded, reduceCtorEq, Nat.reduceLT, Nat.reduceMul, Nat.reduceSub, one, Nat.reduceLeDiff, runX_cons, y132_21]; exact quiet_of (with_spec main H1 m' t hm64 h0 h6))); simp -implicitDefEqProofs (disch := omega) only [act_put, act_put_none])
  iterate 1 (apply plan_take rfl rfl rfl; (focus (simp -implicitDefEqProofs (disch := first | omega | (simp only [qd] <;> omega)) only [xq, ↓xp, qc, Nat.reduceAdd, List.range, List.range.loop, fine, Nat.reduceEqDiff, ↓reduceIte, yielded, reduceCtorEq, Nat.reduceLT, Nat.reduceMul, Nat.reduceSub, one, Nat.reduceLeDiff, runX_cons, y132_21, e0, e4, e6, cell_of hdb1, cell_of htb1, cell_of hsb1, htc', exists_eq_left', and_true, true_and] <;> (first | exact rfl | exact ⟨rfl, rfl⟩))); simp -implicitDefEqProofs (disch := first | omega | (simp only [qd] <;> omega)) only [act_put, act_put_none])
  refine plan_tail ?_
  simp -implicitDefEqProofs (disch := first | omega | (simp only [qd] <;> omega)) only [xq, ↓xp, qc, Nat.reduceAdd, List.range, List.range.loop, fine, Nat.reduceEqDiff, ↓reduceIte, yielded, reduceCtorEq, Nat.reduceLT, Nat.reduceMul, Nat.reduceSub, one, Nat.reduceLeDiff, runX_cons, y132_21, e6, storL_of hrb1]
  refine hK _ _ ?_; clear hK K
  (refine wpX_ret ?_; (try simp only [nq, ↓reduceIte, Nat.reduceEqDiff]); rw [bodyX_ret, results_cell Tryz.results132 (by decide) (b := rb) (o := 0) ?hcell Tryz.underlying178 rfl Tryz.sizeOf178]; (case hcell => exact e6); simp -implicitDefEqProofs (disch := first | omega | (simp only [qd] <;> omega)) only [xq, ↓xp, qc, Nat.reduceAdd, List.range, List.range.loop, fine, Nat.reduceEqDiff, ↓reduceIte, yielded, reduceCtorEq, Nat.reduceLT, Nat.reduceMul, Nat.reduceSub, one, Nat.reduceLeDiff, runX_cons, y132_21, loadA_set])
  refine ⟨by rw [hc1, oNext, hm'], ?_⟩
  exact (((Lex.of hle1).own hrb0 : Lex none H _)).toLe
theorem oList_mem {m : Nat} {x : Int} (h : x ∈ oList m) : 0 <= x /\ x < 6 /\ m.testBit x.toNat = true := by
 simp only [oList, oListN, List.mem_map, List.mem_filter, List.mem_range] at h
 obtain ⟨n, ⟨h1, h2⟩, rfl⟩ := h
 exact ⟨by omega, by omega, by simpa using h2⟩
theorem oNext_lt {m : Nat} {sent t : Int} (hm : m < 64) (hs : sent < 6) (h0 : 0 <= t) (h6 : t < 6) : oNext m sent t < 64 := by
 unfold oNext
 split
 ·rename_i h
  exact oWith_lt (oWithout_lt hm h hs) h0 h6
 ·exact oWith_lt hm h0 h6
end Go.Proofs.YtofmadjgbcopdaaGreatDoor
end
section
namespace Go.X
open Go
section
variable {P : Program} {main : Md} {lp : Option Nat} {Q : Exit -> Act -> Hp -> Prop} {a : Act} {H : Hp}
def cellK (q : Option (Bool × Obj)) (o : Nat) : Option Value := match q with
 | some (_, .cells c _ _) => c[o]?
 | _ => none
theorem cell_K {b o : Nat} : H.cell ⟨b, o, none⟩ = cellK (H b) o := by
 unfold Hp.cell cellK
 simp
 rfl
theorem cellK_some {p : Bool} {c : Array Value} {e : TypeId} {f : Nat × Nat} {o : Nat} : cellK (some (p, .cells c e f)) o = c[o]? := rfl
def storK (q : Option (Bool × Obj)) (H : Hp) (b o : Nat) (v : Value) (K : Hp -> Prop) : Prop := match q with
 | some (true, .cells c e (lo, hi)) => o < c.size /\ (decide (lo <= o) && decide (o < hi)) = false /\ K (H.set b (.cells (c.setIfInBounds o v) e (lo, hi)))
 | _ => False
theorem stor_K {b o : Nat} {v : Value} {K : Hp -> Prop} : stor H b o v K = storK (H b) H b o v K := rfl
theorem storK_some {c : Array Value} {e : TypeId} {b o : Nat} {v : Value} {K : Hp -> Prop} : storK (some (true, .cells c e (0, 0))) H b o v K = (o < c.size /\ K (H.set b (.cells (c.setIfInBounds o v) e (0, 0)))) := by
 simp [storK]
def loadAK (q : Option (Bool × Obj)) (o n : Nat) (K : Value -> Prop) : Prop := match q with
 | some (_, .cells c _ _) => o + n <= c.size /\ K (.agg (c.extract o (o + n)))
 | _ => False
theorem loadA_K {b o n : Nat} {K : Value -> Prop} : loadA H b o n K = loadAK (H b) o n K := rfl
theorem loadAK_some {p : Bool} {c : Array Value} {e : TypeId} {f : Nat × Nat} {o n : Nat} {K : Value -> Prop} : loadAK (some (p, .cells c e f)) o n K = (o + n <= c.size /\ K (.agg (c.extract o (o + n)))) := rfl
def storLK' (q : Option (Bool × Obj)) (H : Hp) (b o : Nat) (vs : List Value) (K : Hp -> Prop) : Prop := match q with
 | some (true, .cells c e f) => if f = (0, 0) then (vs.all one) = true /\ o + vs.length <= c.size /\ K (H.set b (.cells (over c o vs) e (0, 0))) else storL H b o vs K
 | _ => storL H b o vs K
theorem storL_K {b o : Nat} {v : Value} {vs : List Value} {K : Hp -> Prop} : storL H b o (v :: vs) K = storLK' (H b) H b o (v :: vs) K := by
 rcases hb : H b with _ | ⟨p, ob⟩
 ·rfl
 ·cases p
  ·rfl
  ·cases ob <;> try rfl
   rename_i c e f
   simp only [storLK']
   split
   ·rename_i hf; subst hf; rw [storL_of hb]
   ·rfl
theorem storLK_some {c : Array Value} {e : TypeId} {b o : Nat} {vs : List Value} {K : Hp -> Prop} : storLK' (some (true, .cells c e (0, 0))) H b o vs K = ((vs.all one) = true /\ o + vs.length <= c.size /\ K (H.set b (.cells (over c o vs) e (0, 0)))) := by
 simp [storLK']
@[congr] theorem storLK_congr {q q' : Option (Bool × Obj)} {H' : Hp} {b o b' o' : Nat} {vs vs' : List Value} {K : Hp -> Prop} (hq : q = q') (hH : H = H') (hb : b = b') (ho : o = o') (hv : vs = vs') : storLK' q H b o vs K = storLK' q' H' b' o' vs' K := by subst hq hH hb ho hv; rfl
@[congr] theorem storK_congr {q q' : Option (Bool × Obj)} {H' : Hp} {b o b' o' : Nat} {v v' : Value} {K : Hp -> Prop} (hq : q = q') (hH : H = H') (hb : b = b') (ho : o = o') (hv : v = v') : storK q H b o v K = storK q' H' b' o' v' K := by subst hq hH hb ho hv; rfl
@[congr] theorem loadAK_congr {q q' : Option (Bool × Obj)} {o n : Nat} {o' : Nat} {K : Value -> Prop} (hq : q = q') (ho : o = o') : loadAK q o n K = loadAK q' o' n K := by subst hq ho; rfl
theorem set_get {b x : Nat} {o : Obj} : (H.set b o) x = if x = b then some (true, o) else H x := rfl
theorem nlt_t {x y : Nat} (h : x < y) : (x < y) = True := by simp [h]
theorem nle_t {x y : Nat} (h : x <= y) : (x <= y) = True := by simp [h]
theorem dlt_t {x y : Int} (h : x < y) : decide (x < y) = true := decide_eq_true h
theorem dlt_f {x y : Int} (h : y <= x) : decide (x < y) = false := decide_eq_false (by omega)
theorem dle_t {x y : Int} (h : x <= y) : decide (x <= y) = true := decide_eq_true h
theorem dle_f {x y : Int} (h : y < x) : decide (x <= y) = false := decide_eq_false (by omega)
theorem beq_t {x y : Int} (h : x = y) : (x == y) = true := by simp [h]
theorem beq_f {x y : Int} (h : x ≠ y) : (x == y) = false := by simp [h]
theorem bne_t {x y : Int} (h : x ≠ y) : (x != y) = true := by simp [h]
theorem bne_f {x y : Int} (h : x = y) : (x != y) = false := by simp [h]
theorem toNat_cast (n : Nat) : ((n : Int)).toNat = n := rfl
theorem thn_n {next : Act -> Hp -> Prop} : thn next Q .normal a H = next a H := rfl
theorem thn_e {next : Act -> Hp -> Prop} {i : Nat} : thn next Q (.exit i) a H = Q (.exit i) a H := rfl
theorem thn_g {next : Act -> Hp -> Prop} {i : Nat} : thn next Q (.goto i) a H = Q (.goto i) a H := rfl
theorem thn_r {next : Act -> Hp -> Prop} : thn next Q .ret a H = Q .ret a H := rfl
theorem blk_n {id : Nat} : blk id Q .normal a H = Q .normal a H := rfl
theorem blk_e {id i : Nat} : blk id Q (.exit i) a H = if i = id then Q .normal a H else Q (.exit i) a H := rfl
theorem blk_g {id i : Nat} : blk id Q (.goto i) a H = Q (.goto i) a H := rfl
theorem blk_r {id : Nat} : blk id Q .ret a H = Q .ret a H := rfl
def yl (ds : List (Option Tmp)) (tmps : Array Value) (j : Nat) : Option Bool := match ((ds[j]?).bind id).bind (tmps[·]?) with
 | some (.bool b) => some b
 | _ => none
def ylK (q : Option Value) : Option Bool := match q with
 | some (.bool b) => some b
 | _ => none
def wantL (ds : List (Option Tmp)) (o : Oper) (tmps : Array Value) : Bool := match o.guard with
 | none => true
 | some (j, b) => yl ds tmps j == some b
theorem want_L {ops : Array Oper} {o : Oper} {tmps : Array Value} : Region.wanted o (yielded ops tmps) = wantL (ops.toList.map (·.dst)) o tmps := by
 unfold Region.wanted wantL
 cases o.guard with
 | none => rfl
 | some g =>
  obtain ⟨j, b⟩ := g
  have : yielded ops tmps j = yl (ops.toList.map (·.dst)) tmps j := by
   unfold yielded yl
   simp only [List.getElem?_map, Array.getElem?_toList]
   cases ops[j]? <;> rfl
  simp only [this]
def stepL (P : Program) (main : Md) (lp : Option Nat) (ds : List (Option Tmp)) (o : Oper) (Q : Exit -> Act -> Hp -> Prop) (K : Act -> Hp -> Prop) (a : Act) (H : Hp) : Prop :=
 if wantL ds o a.tmps then fine lp o = true /\ opX P main lp o a H K Q else K (a.put o.dst undef) H
def runL (P : Program) (main : Md) (lp : Option Nat) (ds : List (Option Tmp)) (Q : Exit -> Act -> Hp -> Prop) : List Oper -> Act -> Hp -> Prop
 | [], a, H => Q .normal a H
 | o :: rest, a, H => stepL P main lp ds o Q (runL P main lp ds Q rest) a H
theorem runL_sound {ops : Array Oper} : ∀ (rest : List Oper) (k : Nat) (a : Act) (H : Hp), ops.toList.drop k = rest -> runL P main lp (ops.toList.map (·.dst)) Q rest a H -> runX P main lp ops Q (List.range' k rest.length) a H
 | [], _, _, _, _, h => h
 | o :: rest, k, a, H, hd, h => by
  simp only [List.length_cons, List.range'_succ]
  unfold runX numX
  have hk : ops[k]? = some o := by
   have := congrArg (·[0]?) hd
   simpa using this
  rw [hk]
  simp only []
  rw [want_L]
  have hd' : ops.toList.drop (k + 1) = rest := by rw [<- List.drop_drop, hd]; rfl
  unfold runL stepL at h
  split
  ·rename_i hw
   rw [if_pos hw] at h
   exact ⟨h.1, opX_mono h.2 fun a' H' h' => runL_sound rest (k + 1) a' H' hd' h'⟩
  ·rename_i hw
   rw [if_neg hw] at h
   exact runL_sound rest (k + 1) _ _ hd' h
theorem runL_all {ops : List Oper} {ds : List (Option Tmp)} (hds : ops.map (·.dst) = ds) (h : runL P main lp ds Q ops a H) : runX P main lp ops.toArray Q (List.range ops.toArray.size) a H := by
 subst hds
 rw [List.range_eq_range']
 have := runL_sound (ops := ops.toArray) ops 0 a H (by simp) (by simpa using h)
 simpa using this
theorem wpX_stmtL {id : Nat} {ops : List Oper} {ds : List (Option Tmp)} {y : Code} (hds : ops.map (·.dst) = ds) (h : ∀ K : Act -> Hp -> Prop, (∀ a' H', wpX P main lp y Q a' H' -> K a' H') -> runL P main lp ds (only K) ops a H) :
 wpX P main lp (.seq (.region id ops.toArray false) y) Q a H := wpX_stmt fun K hK => runL_all hds (h K hK)
theorem wpX_lastL {id : Nat} {ops : List Oper} {ds : List (Option Tmp)} (hds : ops.map (·.dst) = ds) (h : ∀ K : Act -> Hp -> Prop, (∀ a' H', Q .normal a' H' -> K a' H') -> runL P main lp ds (only K) ops a H) :
 wpX P main lp (.region id ops.toArray false) Q a H := wpX_last fun K hK => runL_all hds (h K hK)
@[congr] theorem runL_congr {ds : List (Option Tmp)} {l : List Oper} {a a' : Act} {H H' : Hp} (ha : a = a') (hH : H = H') : runL P main lp ds Q l a H = runL P main lp ds Q l a' H' := by subst ha hH; rfl
def gateL (q : Option Bool) (b : Bool) (x y : Prop) : Prop := if q == some b then x else y
@[congr] theorem gateL_congr {q q' : Option Bool} {b b' : Bool} {x y : Prop} (hq : q = q') (hb : b = b') : gateL q b x y = gateL q' b' x y := by subst hq hb; rfl
theorem gateL_tt {x y : Prop} : gateL (some true) true x y = x := rfl
theorem gateL_ff {x y : Prop} : gateL (some false) false x y = x := rfl
theorem gateL_tf {x y : Prop} : gateL (some true) false x y = y := rfl
theorem gateL_ft {x y : Prop} : gateL (some false) true x y = y := rfl
theorem yl_eq {ds : List (Option Tmp)} {tmps : Array Value} {j : Nat} : yl ds tmps j = ylK (((ds[j]?).bind id).bind (tmps[·]?)) := rfl
theorem ylK_bool {b : Bool} : ylK (some (.bool b)) = some b := rfl
theorem id_opt {t : Option Tmp} : id t = t := rfl
theorem wpX_condK {c : Operand} {x y : Code} {t : Bool} (ht : a.eval c = .bool t) (h1 : t = true -> wpX P main lp x Q a H) (h2 : t = false -> wpX P main lp y Q a H) : wpX P main lp (.cond c x y) Q a H := by
 refine wpX_cond ht ?_
 cases t
 ·exact h2 rfl
 ·exact h1 rfl
theorem runL_nil {ds : List (Option Tmp)} : runL P main lp ds Q [] a H = Q .normal a H := rfl
theorem runL_one {ds : List (Option Tmp)} {d : Option Tmp} {op : Op} {ty : TypeId} {pos : String} {af : Array Edge} {rest : List Oper} :
 runL P main lp ds Q (⟨d, op, ty, pos, af, none⟩ :: rest) a H = (fine lp ⟨d, op, ty, pos, af, none⟩ = true /\ opX P main lp ⟨d, op, ty, pos, af, none⟩ a H (runL P main lp ds Q rest) Q) := rfl
theorem runL_g {ds : List (Option Tmp)} {d : Option Tmp} {op : Op} {ty : TypeId} {pos : String} {af : Array Edge} {j : Nat} {b : Bool} {rest : List Oper} :
 runL P main lp ds Q (⟨d, op, ty, pos, af, some (j, b)⟩ :: rest) a H = gateL (yl ds a.tmps j) b (fine lp ⟨d, op, ty, pos, af, some (j, b)⟩ = true /\ opX P main lp ⟨d, op, ty, pos, af, some (j, b)⟩ a H (runL P main lp ds Q rest) Q) (runL P main lp ds Q rest (a.put d undef) H) := rfl
end
end Go.X
end
section
namespace Go.X
open Go
open Go.Conc (G base)
section
variable {P : Program} {main : Md} {lp : Option Nat} {Q : Exit -> Act -> Hp -> Prop} {a : Act} {H : Hp}
def scp (c : Code) (I : Nat -> Act -> Hp -> Prop) (Q : Exit -> Act -> Hp -> Prop) : Exit -> Act -> Hp -> Prop
 | .normal, a, H => Q .normal a H
 | .exit id, a, H => Q (.exit id) a H
 | .goto l, a, H => if (findLabel c l).isSome then I l a H else Q (.goto l) a H
 | .ret, a, H => Q .ret a H
 | .panic ch, a, H => Q (.panic ch) a H
 | .outgrown, _, _ => False
theorem scp_n {c : Code} {I : Nat -> Act -> Hp -> Prop} : scp c I Q .normal a H = Q .normal a H := rfl
theorem scp_e {c : Code} {I : Nat -> Act -> Hp -> Prop} {i : Nat} : scp c I Q (.exit i) a H = Q (.exit i) a H := rfl
theorem scp_r {c : Code} {I : Nat -> Act -> Hp -> Prop} : scp c I Q .ret a H = Q .ret a H := rfl
theorem wpX_scope {c : Code} (I : Nat -> Nat -> Act -> Hp -> Prop) (h : wpX P main lp c (scp c (fun l a H => ∃ n, I l n a H) Q) a H)
  (hr : ∀ l rest n a H, findLabel c l = some rest -> I l n a H -> wpX P main lp rest (scp c (fun l a H => ∃ n', n' < n /\ I l n' a H) Q) a H) : wpX P main lp (.scope c) Q a H := by
 intro b k cs Stop hk hl hc
 have key : ∀ n l rest a H, findLabel c l = some rest -> I l n a H -> WPG P main Stop (G (fat b a (.code rest :: .inScope c :: k)) cs) H := by
  intro n
  induction n using Nat.strongRecOn with
  | _ n ih =>
  intro l rest a H hf hI
  refine hr l rest n a H hf hI b (.inScope c :: k) cs Stop hk hl fun e a' H' q => ?_
  cases e with
  | normal => exact .ctl (g' := G (fat b a' k) cs) rfl (fun w => by simp [G, stepG, stepG.exec, fat]) (hc _ _ _ q)
  | exit id => exact fun k' hk' => hc _ _ _ q k' (hk'.trans (by simp [exitTo]))
  | goto l' =>
   simp only [scp] at q
   split at q
   ·rename_i hs
    obtain ⟨n', hlt, hI'⟩ := q
    obtain ⟨rest', hf'⟩ := Option.isSome_iff_exists.1 hs
    intro k' hk'
    have hx : gotoIn l' k' = some (.code rest' :: .inScope c :: k) := hk'.trans (by simp [gotoIn, hf'])
    exact .ctl (g' := G (fat b a' (.code rest' :: .inScope c :: k)) cs) rfl (fun w => by simp [G, stepG, stepG.exec, fat, hx]) (ih n' hlt l' rest' a' H' hf' hI')
   ·rename_i hs
    have hn : findLabel c l' = none := by simpa using hs
    exact fun k' hk' => hc _ _ _ q k' (hk'.trans (by simp [gotoIn, hn]))
  | ret => exact hc _ _ _ q
  | panic ch => exact hc _ _ _ q
  | outgrown => exact q.elim
 refine .ctl (g' := G (fat b a (.code c :: .inScope c :: k)) cs) rfl (fun w => by simp [G, stepG, stepG.exec, fat]) ?_
 refine h b (.inScope c :: k) cs Stop hk hl fun e a' H' q => ?_
 cases e with
 | normal => exact .ctl (g' := G (fat b a' k) cs) rfl (fun w => by simp [G, stepG, stepG.exec, fat]) (hc _ _ _ q)
 | exit id => exact fun k' hk' => hc _ _ _ q k' (hk'.trans (by simp [exitTo]))
 | goto l' =>
  simp only [scp] at q
  split at q
  ·rename_i hs
   obtain ⟨n', hI'⟩ := q
   obtain ⟨rest', hf'⟩ := Option.isSome_iff_exists.1 hs
   intro k' hk'
   have hx : gotoIn l' k' = some (.code rest' :: .inScope c :: k) := hk'.trans (by simp [gotoIn, hf'])
   exact .ctl (g' := G (fat b a' (.code rest' :: .inScope c :: k)) cs) rfl (fun w => by simp [G, stepG, stepG.exec, fat, hx]) (key n' l' rest' a' H' hf' hI')
  ·rename_i hs
   have hn : findLabel c l' = none := by simpa using hs
   exact fun k' hk' => hc _ _ _ q k' (hk'.trans (by simp [gotoIn, hn]))
 | ret => exact hc _ _ _ q
 | panic ch => exact hc _ _ _ q
 | outgrown => exact q.elim
def scp0 (Q : Exit -> Act -> Hp -> Prop) : Exit -> Act -> Hp -> Prop
 | .normal, a, H => Q .normal a H
 | .exit id, a, H => Q (.exit id) a H
 | .goto _, _, _ => False
 | .ret, a, H => Q .ret a H
 | .panic ch, a, H => Q (.panic ch) a H
 | .outgrown, _, _ => False
theorem scp0_n : scp0 Q .normal a H = Q .normal a H := rfl
theorem scp0_e {i : Nat} : scp0 Q (.exit i) a H = Q (.exit i) a H := rfl
theorem scp0_r : scp0 Q .ret a H = Q .ret a H := rfl
theorem wpX_scope0 {c : Code} (h : wpX P main lp c (scp0 Q) a H) : wpX P main lp (.scope c) Q a H := by
 refine wpX_scope (fun _ _ _ _ => False) (wpX_mono h fun e a H q => ?_) fun _ _ _ _ _ _ h => h.elim
 cases e <;> first | exact q | exact q.elim
end
def aq := And.intro @runL_nil (And.intro @gateL_tt (And.intro @gateL_ff (And.intro @gateL_tf (And.intro @gateL_ft (And.intro @yl_eq (And.intro @ylK_bool (And.intro @id_opt (And.intro @cell_K (And.intro @cellK_some (And.intro @stor_K (And.intro @storK_some (And.intro @loadA_K (And.intro @loadAK_some (And.intro @storL_nil (And.intro @storL_K (And.intro @storLK_some (And.intro @set_set (And.intro @set_get (And.intro @toNat_cast (And.intro @Nat.mul_one (And.intro @true_and (And.intro @and_true (And.intro @decide_true (And.intro @decide_false (And.intro @nlt_t (And.intro @nle_t (And.intro @dlt_t (And.intro @dlt_f (And.intro @dle_t (And.intro @dle_f (And.intro @beq_t (And.intro @beq_f (And.intro @bne_t (And.intro @bne_f (And.intro @Bool.not_true @Bool.not_false)))))))))))))))))))))))))))))))))))
def ap := And.intro @runL_one @runL_g
def qe0 := @exists_eq_left'
def qe1 := @if_true
def qe2 := @if_false
def qe3 := @beq_iff_eq
def qe4 := @beq_eq_false_iff_ne
def qe5 := @bne_iff_ne
def qe6 := @bne_eq_false_iff_eq
def bq := And.intro @dlt_t (And.intro @dlt_f (And.intro @dle_t (And.intro @dle_f (And.intro @beq_t (And.intro @beq_f (And.intro @bne_t (And.intro @bne_f (And.intro @decide_true (And.intro @decide_false (And.intro @Bool.not_true (And.intro @Bool.not_false (And.intro @Bool.false_eq_true (And.intro @Bool.and_self (And.intro @Bool.and_true (And.intro @Bool.and_false (And.intro @Bool.true_and @Bool.false_and))))))))))))))))
def dq := And.intro @decide_eq_true_eq (And.intro @decide_eq_false_iff_not (And.intro @Bool.not_eq_true' (And.intro @Bool.not_eq_false' (And.intro @Int.not_lt @Int.not_le))))
def nq := And.intro @scp_n (And.intro @scp_e (And.intro @scp_r (And.intro @scp0_n (And.intro @scp0_e (And.intro @scp0_r (And.intro @thn_n (And.intro @thn_e (And.intro @thn_g (And.intro @thn_r (And.intro @blk_n (And.intro @blk_e (And.intro @blk_g @blk_r))))))))))))
end Go.X
end
section
namespace Go.Proofs.YtofmadjgbcopdaaGreatDoor
open Go Go.X
def y124_24 := And.intro (fun H => fieldAt_eq (H := H) Tryz.underlying25 (i := 0) rfl (off := 0) rfl Tryz.sizeOf3) (And.intro (fun H => loadAt_one (H := H) Tryz.underlying3 rfl) (And.intro @callF155 (And.intro (fun H => fieldAt_eq (H := H) Tryz.underlying25 (i := 1) rfl (off := 1) rfl Tryz.sizeOf3) (And.intro (fun H => fieldAt_eq (H := H) Tryz.underlying25 (i := 2) rfl (off := 2) rfl Tryz.sizeOf22) (And.intro (fun H => loadAt_one (H := H) Tryz.underlying22 rfl) (And.intro (fun H => len_slice (H := H) Tryz.underlying22) (And.intro (fun H => indexAt_slice (H := H) Tryz.underlying22 Tryz.sizeOf3) (And.intro @callF156 (And.intro @callF157 (And.intro (fun H => fieldAt_eq (H := H) Tryz.underlying25 (i := 3) rfl (off := 3) rfl Tryz.sizeOf23) (And.intro (fun H => loadAt_one (H := H) Tryz.underlying23 rfl) (And.intro (fun H => len_slice (H := H) Tryz.underlying23) (fun H => indexAt_slice (H := H) Tryz.underlying23 Tryz.sizeOf22)))))))))))))
theorem outside_spec (m : Md) (H : Hp) (n lo hi : Int) :
  FnX Tryz.prog m 155 #[.int .i64 n, .int .i64 lo, .int .i64 hi] H fun e H' => e = .returned (.bool (decide (n < lo) || decide (hi < n))) /\ H' = H := by
 refine FnX_start Tryz.func155 rfl Tryz.ntmps155 (by simp) ?_
 by_cases h : n < lo
 ·(refine @unH _ ?_; refine z1 trivial ?_)
  (refine @unH _ ?_; refine z1 (decide_eq_true h) ?_)
  (refine @unH _ ?_; refine z9 Tryz.results155 ?_)
  simp [h]
 ·(refine @unH _ ?_; refine z1 trivial ?_)
  (refine @unH _ ?_; refine z1 (decide_eq_false h) ?_)
  (refine @unH _ ?_; refine z9 Tryz.results155 ?_)
  simp [h]
theorem inside_spec (m : Md) (H : Hp) (n lo hi : Int) (h0 : lo <= n) (h1 : n <= hi) :
  FnX Tryz.prog m 155 #[.int .i64 n, .int .i64 lo, .int .i64 hi] H fun e H' => e = .returned (.bool false) /\ H' = H :=
 (outside_spec m H n lo hi).mono fun e H' ⟨he, hH⟩ => ⟨by rw [he, decide_eq_false (by omega), decide_eq_false (by omega)]; rfl, hH⟩
theorem oWith_testBit (m n k : Nat) : (oWith m n).testBit k = (m.testBit k || decide (n = k)) := by
 unfold oWith
 rw [Nat.testBit_or, Nat.testBit_two_pow]
theorem foldl_testBit : ∀ (xs : List Int) (m : Nat), (∀ x ∈ xs, 0 <= x) -> ∀ y : Int, 0 <= y -> (xs.foldl (fun m x => oWith m x.toNat) m).testBit y.toNat = (m.testBit y.toNat || decide (y ∈ xs))
 | [], m, _, y, _ => by simp
 | x :: xs, m, h, y, hy => by
  rw [List.foldl_cons, foldl_testBit xs _ (fun z hz => h z (List.mem_cons_of_mem _ hz)) y hy, oWith_testBit, Bool.or_assoc]
  congr 1
  have hx := h x List.mem_cons_self
  have : decide (x.toNat = y.toNat) = decide (y = x) := by
   by_cases e : y = x
   ·subst e; simp
   ·rw [decide_eq_false e, decide_eq_false (by omega)]
  rw [this, <- Bool.decide_or]
  simp [List.mem_cons]
theorem oOf_testBit (xs : List Int) (h : ∀ x ∈ xs, 0 <= x) (y : Int) (hy : 0 <= y) : (oOf xs).testBit y.toNat = decide (y ∈ xs) := by
 unfold oOf
 rw [foldl_testBit xs 0 h y hy]
 simp
theorem check_spec (main : Md) (H : Hp) (places pieces : Int) (sv cv : Value) (start : List Int) (xss : List (List Int)) (hsv : SlI H sv start) (hcv : SlR H cv xss) (hok : VaultOk places pieces start xss) (hx8 : xss.length <= 8) :
  FnX Tryz.prog main 124 #[.agg #[.int .i64 places, .int .i64 pieces, sv, cv]] H fun e H' => e = .returned (.int .i64 0) /\ H.le H' := by
 obtain ⟨hp1, hp4, hq1, hq6, hsl, hsd, hsb, hcs⟩ := hok
 have hsvS := hsv
 have hcvS := hcv
 obtain ⟨sa, sc, rfl, hsc, _⟩ := hsv
 obtain ⟨ca, cc, rfl, hcc, _⟩ := hcv
 refine FnX_start Tryz.func124 rfl Tryz.ntmps124 (by simp) ?_
 (refine @unH _ ?_; refine z8 y124_24 ?_; try (refine inK ?_; intro K hK))
 intro vb hvb
 refine hK _ _ ?_; clear hK K
 have hle := Hp.le_set hvb (o := .cells #[.int .i64 places, .int .i64 pieces, .slice sa start.length sc, .slice ca xss.length cc] 25 (0, 0))
 have hvb1 : (H.set vb (.cells #[.int .i64 places, .int .i64 pieces, .slice sa start.length sc, .slice ca xss.length cc] 25 (0, 0))) vb = _ := set_at
 have hsv1 := hsvS.le hle
 have hcv1 := hcvS.le hle
 generalize H.set vb (.cells #[.int .i64 places, .int .i64 pieces, .slice sa start.length sc, .slice ca xss.length cc] 25 (0, 0)) = H1 at *
 refine wpX_seq ?_
 (refine wpX_stmt ?_; intro K hK; simp -implicitDefEqProofs (disch := first | omega | (simp only [qd] <;> omega)) only [xq, ↓xp, qc, Nat.reduceAdd, List.range, List.range.loop, fine, Nat.reduceEqDiff, ↓reduceIte, yielded, reduceCtorEq, Nat.reduceLT, Nat.reduceMul, Nat.reduceSub, one, Nat.reduceLeDiff, runX_cons, y124_24, cell_of hvb1, exists_eq_left'])
 refine (inside_spec main _ places 1 4 hp1 hp4).runs.mono ?_
 rintro _ H2 ⟨rfl, hh⟩
 rw [hh]; clear hh H2
 simp -implicitDefEqProofs (disch := first | omega | (simp only [qd] <;> omega)) only [xq, ↓xp, qc, Nat.reduceAdd, List.range, List.range.loop, fine, Nat.reduceEqDiff, ↓reduceIte, yielded, reduceCtorEq, Nat.reduceLT, Nat.reduceMul, Nat.reduceSub, one, Nat.reduceLeDiff, runX_cons, y124_24, cell_of hvb1, exists_eq_left']
 refine (inside_spec main _ pieces 1 6 hq1 hq6).runs.mono ?_
 rintro _ H2 ⟨rfl, hh⟩
 rw [hh]; clear hh H2
 simp -implicitDefEqProofs (disch := first | omega | (simp only [qd] <;> omega)) only [xq, ↓xp, qc, Nat.reduceAdd, List.range, List.range.loop, fine, Nat.reduceEqDiff, ↓reduceIte, yielded, reduceCtorEq, Nat.reduceLT, Nat.reduceMul, Nat.reduceSub, one, Nat.reduceLeDiff, runX_cons, y124_24, cell_of hvb1, exists_eq_left']
 refine hK _ _ ?_; clear hK K
 (refine wpX_cond (by simp -implicitDefEqProofs (disch := first | omega | (simp only [qd] <;> omega)) only [act_eval, upd_get, Nat.reduceEqDiff, ↓reduceIte]; rfl) ?_; simp only [Bool.false_eq_true, if_false]; refine wpX_skip ?_)
 simp -implicitDefEqProofs (disch := first | omega | (simp only [qd] <;> omega)) only [thn, blk, ↓reduceIte, Nat.reduceEqDiff]
 refine wpX_seq ?_
 (refine wpX_stmt ?_; intro K hK; simp -implicitDefEqProofs (disch := first | omega | (simp only [qd] <;> omega)) only [xq, ↓xp, qc, Nat.reduceAdd, List.range, List.range.loop, fine, Nat.reduceEqDiff, ↓reduceIte, yielded, reduceCtorEq, Nat.reduceLT, Nat.reduceMul, Nat.reduceSub, one, Nat.reduceLeDiff, runX_cons, y124_24, cell_of hvb1, exists_eq_left']; refine hK _ _ ?_; clear hK K)
 have hgt : decide (places < (start.length : Int)) = false := decide_eq_false (by omega)
 (refine wpX_cond (by simp -implicitDefEqProofs (disch := first | omega | (simp only [qd] <;> omega)) only [act_eval, upd_get, Nat.reduceEqDiff, ↓reduceIte]; rfl) ?_; simp only [hgt, Bool.false_eq_true, if_false]; refine wpX_skip ?_)
 simp -implicitDefEqProofs (disch := first | omega | (simp only [qd] <;> omega)) only [thn, blk, ↓reduceIte, Nat.reduceEqDiff]
 (refine @unH _ ?_; refine z1 y124_24 ?_)
 refine wpX_cut (fun a' H' => ∃ e, a' = act 82 e [] /\ e 1 = .pointer (some ⟨vb, 0, none⟩) /\ H' = H1) ?_ ?_
 ·(refine wpX_stmt ?_; intro K hK; simp -implicitDefEqProofs (disch := first | omega | (simp only [qd] <;> omega)) only [xq, ↓xp, qc, Nat.reduceAdd, List.range, List.range.loop, fine, Nat.reduceEqDiff, ↓reduceIte, yielded, reduceCtorEq, Nat.reduceLT, Nat.reduceMul, Nat.reduceSub, one, Nat.reduceLeDiff, runX_cons, y124_24, cell_of hvb1, exists_eq_left']; refine hK _ _ ?_; clear hK K)
  refine wpX_block (wpX_loop (fun w a' H' => ∃ e j, w = start.length - j /\ j <= start.length /\ a' = act 82 e [] /\ e 1 = .pointer (some ⟨vb, 0, none⟩) /\ e 3 = .int .u8 (oOf (start.take j) : Nat) /\ e 25 = .slice sa start.length sc /\ e 26 = .int .i64 start.length /\ e 27 = .int .i64 (j : Nat) /\ H' = H1) (n := start.length) ?_ ?_)
  ·exact ⟨_, 0, by omega, by omega, rfl, rfl, rfl, rfl, rfl, rfl, rfl⟩
  ·rintro w a' H' ⟨e, j, rfl, hj, rfl, e1, e3, e25, e26, e27, hH⟩
   rw [hH]
   (refine @unH _ ?_; refine z1 (And.intro y124_24 (And.intro @e26 @e27)) ?_)
   refine wpX_seq ?_
   refine wpX_cond (by simp -implicitDefEqProofs (disch := first | omega | (simp only [qd] <;> omega)) only [act_eval, upd_get, Nat.reduceEqDiff, ↓reduceIte]; rfl) ?_
   by_cases hlt : j < start.length
   ·simp only [Int.ofNat_lt, hlt, decide_true, if_true]
    refine wpX_skip (wpX_seq (wpX_block ?_))
    obtain ⟨_, _, hve, _, hsx⟩ := id hsv1
    cases hve
    obtain ⟨b, o, p, c, fr, rfl, hb, hx⟩ := hsx j start[j] (List.getElem?_eq_getElem hlt)
    have hx' : c[o + (j : Int).toNat * 1]? = some (.int .i64 start[j]) := by simpa using hx
    have hxb := hsb _ (List.getElem_mem hlt)
    have htake : start.take (j + 1) = start.take j ++ [start[j]] := by rw [List.take_add_one, List.getElem?_eq_getElem hlt]; rfl
    have hnew : (oOf (start.take j)).testBit (start[j]).toNat = false := by
     rw [oOf_testBit _ (fun y hy => (hsb y (List.mem_of_mem_take hy)).1) _ hxb.1]
     simp only [decide_eq_false_iff_not]
     intro hmem
     obtain ⟨i, hi, he⟩ := List.getElem_of_mem hmem
     rw [List.getElem_take] at he
     rw [List.length_take] at hi
     have := (List.nodup_iff_pairwise_ne.1 hsd |> List.pairwise_iff_getElem.1) i j (by omega) hlt (by omega)
     exact this he
    have hm64 : oOf (start.take j) < 64 := oOf_lt _ 0 (by omega) fun x h => by have := hsb x (List.mem_of_mem_take h); omega
    generalize start[j] = x at hx hx' hxb htake hnew
    (refine wpX_stmt ?_; intro K hK; simp -implicitDefEqProofs (disch := first | omega | (simp only [qd] <;> omega)) only [xq, ↓xp, qc, Nat.reduceAdd, List.range, List.range.loop, fine, Nat.reduceEqDiff, ↓reduceIte, yielded, reduceCtorEq, Nat.reduceLT, Nat.reduceMul, Nat.reduceSub, one, Nat.reduceLeDiff, runX_cons, y124_24, e25, e27, cell_of hb, hx', exists_eq_left']; refine hK _ _ ?_; clear hK K)
    refine wpX_seq ?_
    (refine wpX_stmt ?_; intro K hK; simp -implicitDefEqProofs (disch := first | omega | (simp only [qd] <;> omega)) only [xq, ↓xp, qc, Nat.reduceAdd, List.range, List.range.loop, fine, Nat.reduceEqDiff, ↓reduceIte, yielded, reduceCtorEq, Nat.reduceLT, Nat.reduceMul, Nat.reduceSub, one, Nat.reduceLeDiff, runX_cons, y124_24, e1, cell_of hvb1, exists_eq_left'])
    refine (inside_spec main H1 x 0 (pieces - 1) hxb.1 (by omega)).runs.mono ?_
    rintro _ H2 ⟨rfl, hh⟩
    rw [hh]; clear hh H2
    (refine @unH _ ?_; refine z0 y124_24 ?_)
    refine hK _ _ ?_; clear hK K
    (refine wpX_cond (by simp -implicitDefEqProofs (disch := first | omega | (simp only [qd] <;> omega)) only [act_eval, upd_get, Nat.reduceEqDiff, ↓reduceIte]; rfl) ?_; simp only [Bool.false_eq_true, if_false]; refine wpX_skip ?_)
    simp -implicitDefEqProofs (disch := first | omega | (simp only [qd] <;> omega)) only [thn, blk, ↓reduceIte, Nat.reduceEqDiff]
    refine wpX_seq ?_
    (refine @unH _ ?_; refine z8 (And.intro y124_24 @e3) ?_; try (refine inK ?_; intro K hK))
    refine (has_spec main H1 _ x hm64 hxb.1 (by omega)).runs.mono ?_
    rintro _ H2 ⟨rfl, hh⟩
    rw [hh, hnew]; clear hh H2
    (refine @unH _ ?_; refine z0 y124_24 ?_)
    refine hK _ _ ?_; clear hK K
    (refine wpX_cond (by simp -implicitDefEqProofs (disch := first | omega | (simp only [qd] <;> omega)) only [act_eval, upd_get, Nat.reduceEqDiff, ↓reduceIte]; rfl) ?_; simp only [Bool.false_eq_true, if_false]; refine wpX_skip ?_)
    simp -implicitDefEqProofs (disch := first | omega | (simp only [qd] <;> omega)) only [thn, blk, ↓reduceIte, Nat.reduceEqDiff]
    refine wpX_last ?_; intro K hK
    (refine @unH _ ?_; refine z0 (And.intro y124_24 @e3) ?_)
    refine (with_spec main H1 _ x hm64 hxb.1 (by omega)).runs.mono ?_
    rintro _ H2 ⟨rfl, hh⟩
    rw [hh]; clear hh H2
    (refine @unH _ ?_; refine z0 y124_24 ?_)
    refine hK _ _ ?_; clear hK K
    simp -implicitDefEqProofs (disch := first | omega | (simp only [qd] <;> omega)) only [thn, blk, ↓reduceIte, Nat.reduceEqDiff]
    (refine @unH _ ?_; refine z2 (And.intro y124_24 @e27) ?_)
    simp -implicitDefEqProofs (disch := first | omega | (simp only [qd] <;> omega)) only [thn, blk, ↓reduceIte, Nat.reduceEqDiff]
    refine ⟨_, ?_, _, j + 1, rfl, hlt, rfl, e1, ?_, e25, e26, rfl, by trivial⟩
    ·omega
    ·show Value.int .u8 _ = _
     rw [htake]
     unfold oOf
     rw [List.foldl_append]
     rfl
   ·simp only [Int.ofNat_lt, hlt, decide_false, Bool.false_eq_true, if_false]
    (refine wpX_exit ?_; simp only [thn, blk, ↓reduceIte, Nat.reduceEqDiff])
    exact ⟨_, rfl, e1, by trivial⟩
 ·rintro a' H' ⟨e, rfl, e1, hH0⟩
  rw [hH0]; clear hH0 H'
  refine wpX_seq ?_
  (refine wpX_stmt ?_; intro K hK; simp -implicitDefEqProofs (disch := first | omega | (simp only [qd] <;> omega)) only [xq, ↓xp, qc, Nat.reduceAdd, List.range, List.range.loop, fine, Nat.reduceEqDiff, ↓reduceIte, yielded, reduceCtorEq, Nat.reduceLT, Nat.reduceMul, Nat.reduceSub, one, Nat.reduceLeDiff, runX_cons, y124_24, e1, cell_of hvb1, exists_eq_left']; refine hK _ _ ?_; clear hK K)
  have hgt8 : decide ((8 : Int) < (xss.length : Int)) = false := decide_eq_false (by omega)
  (refine wpX_cond (by simp -implicitDefEqProofs (disch := first | omega | (simp only [qd] <;> omega)) only [act_eval, upd_get, Nat.reduceEqDiff, ↓reduceIte]; rfl) ?_; simp only [hgt8, Bool.false_eq_true, if_false]; refine wpX_skip ?_)
  simp -implicitDefEqProofs (disch := first | omega | (simp only [qd] <;> omega)) only [thn, blk, ↓reduceIte, Nat.reduceEqDiff]
  refine wpX_seq ?_
  (refine wpX_stmt ?_; intro K hK; simp -implicitDefEqProofs (disch := first | omega | (simp only [qd] <;> omega)) only [xq, ↓xp, qc, Nat.reduceAdd, List.range, List.range.loop, fine, Nat.reduceEqDiff, ↓reduceIte, yielded, reduceCtorEq, Nat.reduceLT, Nat.reduceMul, Nat.reduceSub, one, Nat.reduceLeDiff, runX_cons, y124_24, e1, cell_of hvb1, exists_eq_left']; refine hK _ _ ?_; clear hK K)
  refine wpX_block (wpX_loop (fun w a' H' => ∃ e i, w = xss.length - i /\ i <= xss.length /\ a' = act 82 e [] /\ e 1 = .pointer (some ⟨vb, 0, none⟩) /\ e 48 = .slice ca xss.length cc /\ e 49 = .int .i64 xss.length /\ e 50 = .int .i64 (i : Nat) /\ H' = H1) (n := xss.length) ?_ ?_)
  ·exact ⟨_, 0, by omega, by omega, rfl, e1, rfl, rfl, rfl, by trivial⟩
  ·rintro w a' H' ⟨e, i, rfl, hi, rfl, e1, e48, e49, e50, hH⟩
   rw [hH]
   (refine @unH _ ?_; refine z1 (And.intro y124_24 (And.intro @e49 @e50)) ?_)
   refine wpX_seq ?_
   refine wpX_cond (by simp -implicitDefEqProofs (disch := first | omega | (simp only [qd] <;> omega)) only [act_eval, upd_get, Nat.reduceEqDiff, ↓reduceIte]; rfl) ?_
   by_cases hlt : i < xss.length
   ·simp only [Int.ofNat_lt, hlt, decide_true, if_true]
    refine wpX_skip (wpX_seq (wpX_block ?_))
    obtain ⟨_, _, hve, _, hsx⟩ := id hcv1
    cases hve
    obtain ⟨b, o, p, c, fr, rw', rfl, hb, hx, hrow⟩ := hsx i xss[i] (List.getElem?_eq_getElem hlt)
    have hx' : c[o + (i : Int).toNat * 1]? = some rw' := by simpa using hx
    have hco := hcs _ (List.getElem_mem hlt)
    generalize xss[i] = xs at hx hx' hco hrow
    have hxl := hco.len
    obtain ⟨hne, hasc, hxb⟩ := hco
    obtain ⟨ra, rc, rfl, hrc, hrx⟩ := hrow
    have hpos : 0 < xs.length := List.length_pos_iff.2 hne
    (refine wpX_stmt ?_; intro K hK; simp -implicitDefEqProofs (disch := first | omega | (simp only [qd] <;> omega)) only [xq, ↓xp, qc, Nat.reduceAdd, List.range, List.range.loop, fine, Nat.reduceEqDiff, ↓reduceIte, yielded, reduceCtorEq, Nat.reduceLT, Nat.reduceMul, Nat.reduceSub, one, Nat.reduceLeDiff, runX_cons, y124_24, e48, e50, cell_of hb, hx', exists_eq_left']; refine hK _ _ ?_; clear hK K)
    refine wpX_seq ?_
    (refine @unH _ ?_; refine z1 y124_24 ?_)
    have hl0 : ((xs.length : Int) == 0) = false := by simp; omega
    (refine wpX_cond (by simp -implicitDefEqProofs (disch := first | omega | (simp only [qd] <;> omega)) only [act_eval, upd_get, Nat.reduceEqDiff, ↓reduceIte]; rfl) ?_; simp only [hl0, Bool.false_eq_true, if_false]; refine wpX_skip ?_)
    simp -implicitDefEqProofs (disch := first | omega | (simp only [qd] <;> omega)) only [thn, blk, ↓reduceIte, Nat.reduceEqDiff]
    (refine @unH _ ?_; refine z1 y124_24 ?_)
    refine wpX_block (wpX_loop (fun w a' H' => ∃ e k, w = xs.length - k /\ k <= xs.length /\ a' = act 82 e [] /\ e 1 = .pointer (some ⟨vb, 0, none⟩) /\ e 7 = .slice ra xs.length rc /\ e 48 = .slice (some ⟨b, o, none⟩) xss.length cc /\ e 49 = .int .i64 xss.length /\ e 50 = .int .i64 (i : Nat) /\
     e 57 = .slice ra xs.length rc /\ e 58 = .int .i64 xs.length /\ e 59 = .int .i64 (k : Nat) /\ H' = H1) (n := xs.length) ?_ ?_)
    ·exact ⟨_, 0, by omega, by omega, rfl, e1, rfl, e48, e49, e50, rfl, rfl, rfl, by trivial⟩
    ·rintro w a' H' ⟨e, k, rfl, hk, rfl, e1, e7, e48, e49, e50, e57, e58, e59, hH⟩
     rw [hH]
     (refine @unH _ ?_; refine z1 (And.intro y124_24 (And.intro @e58 @e59)) ?_)
     refine wpX_seq ?_
     refine wpX_cond (by simp -implicitDefEqProofs (disch := first | omega | (simp only [qd] <;> omega)) only [act_eval, upd_get, Nat.reduceEqDiff, ↓reduceIte]; rfl) ?_
     by_cases hlt2 : k < xs.length
     ·simp only [Int.ofNat_lt, hlt2, decide_true, if_true]
      refine wpX_skip (wpX_seq (wpX_block ?_))
      obtain ⟨b2, o2, p2, c2, fr2, rfl, hb2, hx2⟩ := hrx k xs[k] (List.getElem?_eq_getElem hlt2)
      have hx2' : c2[o2 + (k : Int).toNat * 1]? = some (.int .i64 xs[k]) := by simpa using hx2
      have hxk := hxb _ (List.getElem_mem hlt2)
      have hprev : 0 < k -> ∃ y : Int, c2[o2 + ((k : Int) - 1).toNat * 1]? = some (.int .i64 y) /\ decide (xs[k] <= y) = false := fun hk0 => by
       have hk1 : k - 1 < xs.length := by omega
       obtain ⟨b3, o3, p3, c3, fr3, hre, hb3, hx3⟩ := hrx (k - 1) xs[k - 1] (List.getElem?_eq_getElem hk1)
       cases hre
       rw [hb2] at hb3
       cases hb3
       have hlt3 : xs[k - 1] < xs[k] := (List.pairwise_iff_getElem.1 hasc) (k - 1) k hk1 hlt2 (by omega)
       exact ⟨xs[k - 1], by rw [show ((k : Int) - 1).toNat * 1 = k - 1 by omega]; exact hx3, decide_eq_false (by omega)⟩
      clear hx2
      generalize xs[k] = x at hx2' hxk hprev
      (refine wpX_stmt ?_; intro K hK; simp -implicitDefEqProofs (disch := first | omega | (simp only [qd] <;> omega)) only [xq, ↓xp, qc, Nat.reduceAdd, List.range, List.range.loop, fine, Nat.reduceEqDiff, ↓reduceIte, yielded, reduceCtorEq, Nat.reduceLT, Nat.reduceMul, Nat.reduceSub, one, Nat.reduceLeDiff, runX_cons, y124_24, e57, e59, cell_of hb2, hx2', exists_eq_left']; refine hK _ _ ?_; clear hK K)
      refine wpX_seq ?_
      (refine wpX_stmt ?_; intro K hK; simp -implicitDefEqProofs (disch := first | omega | (simp only [qd] <;> omega)) only [xq, ↓xp, qc, Nat.reduceAdd, List.range, List.range.loop, fine, Nat.reduceEqDiff, ↓reduceIte, yielded, reduceCtorEq, Nat.reduceLT, Nat.reduceMul, Nat.reduceSub, one, Nat.reduceLeDiff, runX_cons, y124_24, e1, cell_of hvb1, exists_eq_left'])
      refine (inside_spec main H1 x 0 (pieces - 1) hxk.1 (by omega)).runs.mono ?_
      rintro _ H2 ⟨rfl, hh⟩
      rw [hh]; clear hh H2
      (refine @unH _ ?_; refine z0 y124_24 ?_)
      refine hK _ _ ?_; clear hK K
      (refine wpX_cond (by simp -implicitDefEqProofs (disch := first | omega | (simp only [qd] <;> omega)) only [act_eval, upd_get, Nat.reduceEqDiff, ↓reduceIte]; rfl) ?_; simp only [Bool.false_eq_true, if_false]; refine wpX_skip ?_)
      simp -implicitDefEqProofs (disch := first | omega | (simp only [qd] <;> omega)) only [thn, blk, ↓reduceIte, Nat.reduceEqDiff]
      by_cases hk0 : k = 0
      ·(refine @unH _ ?_; refine zA y124_24 ?_; (repeat (refine inC ?_; intro hc)); try (refine inK ?_; intro K hK))
       exact ⟨_, by omega, _, k + 1, rfl, hlt2, rfl, e1, e7, e48, e49, e50, e57, e58, by subst hk0; rfl, by trivial⟩
      ·obtain ⟨y, hx3', hle3⟩ := hprev (by omega)
       have hjm : ((k : Int) - 1).toNat = k - 1 := by omega
       simp only [hjm, Nat.mul_one] at hx3'
       (refine @unH _ ?_; refine zA y124_24 ?_; (repeat (refine inC ?_; intro hc)); try (refine inK ?_; intro K hK))
       exact ⟨_, by omega, _, k + 1, rfl, hlt2, rfl, e1, e7, e48, e49, e50, e57, e58, rfl, by trivial⟩
     ·simp only [Int.ofNat_lt, hlt2, decide_false, Bool.false_eq_true, if_false]
      (refine wpX_exit ?_; simp only [thn, blk, ↓reduceIte, Nat.reduceEqDiff])
      (refine @unH _ ?_; refine z2 (And.intro y124_24 @e50) ?_)
      simp -implicitDefEqProofs (disch := first | omega | (simp only [qd] <;> omega)) only [thn, blk, ↓reduceIte, Nat.reduceEqDiff]
      refine ⟨_, ?_, _, i + 1, rfl, hlt, rfl, e1, e48, e49, rfl, by trivial⟩
      omega
   ·simp only [Int.ofNat_lt, hlt, decide_false, Bool.false_eq_true, if_false]
    (refine wpX_exit ?_; simp only [thn, blk, ↓reduceIte, Nat.reduceEqDiff])
    (refine @unH _ ?_; refine z1 y124_24 ?_)
    (refine @unH _ ?_; refine z9 Tryz.results124 ?_)
    exact ⟨by trivial, hle⟩
end Go.Proofs.YtofmadjgbcopdaaGreatDoor
end
section
namespace Go.X
open Go
section
variable {P : Program} {main : Md} {lp : Option Nat} {Q : Exit -> Act -> Hp -> Prop} {a : Act} {H : Hp}
theorem le_of_set {H H' : Hp} {b : Nat} {o : Obj} (h : H.set b o = H') (hb : H b = none) : H.le H' := h ▸ Hp.le_set hb
theorem at_of_set {H H' : Hp} {b : Nat} {o : Obj} (h : H.set b o = H') : H' b = some (true, o) := by rw [<- h, get_set, if_pos rfl]
theorem other_of_set {H H' : Hp} {b x : Nat} {o : Obj} {v : Bool × Obj} (h : H.set b o = H') (hx : H x = some v) (hn : x ≠ b) : H' x = some v := by rw [<- h, get_set, if_neg hn]; exact hx
theorem ne_new {H : Hp} {b x : Nat} {v : Bool × Obj} (hx : H x = some v) (hb : H b = none) : x ≠ b := fun e => by rw [e, hb] at hx; cases hx
theorem eqG_slice (op : BinOp) (t : TypeId) (x y : Operand) (p q : Option Addr) (n c n' c' : Nat) (K : Unit -> Hp -> Prop) (E : Value -> Hp -> Prop) : wpS P (eqGuard op t x y (.slice p n c) (.slice q n' c')) H K E = K () H := by
 unfold eqGuard; cases op <;> rfl
theorem eqG_bool (op : BinOp) (t : TypeId) (x y : Operand) (p q : Bool) (K : Unit -> Hp -> Prop) (E : Value -> Hp -> Prop) : wpS P (eqGuard op t x y (.bool p) (.bool q)) H K E = K () H := by
 unfold eqGuard; cases op <;> rfl
theorem eqG_iface (op : BinOp) (t : TypeId) (x y : Operand) (u : TypeId) (v : Value) (K : Unit -> Hp -> Prop) (E : Value -> Hp -> Prop) : wpS P (eqGuard op t x y (.iface u v) .nilIface) H K E = K () H := by
 unfold eqGuard; cases op <;> rfl
theorem eqG_nil (op : BinOp) (t : TypeId) (x : Operand) (v : Value) (K : Unit -> Hp -> Prop) (E : Value -> Hp -> Prop) : wpS P (eqGuard op t x (.const v) .nilIface .nilIface) H K E = K () H := by
 unfold eqGuard; cases op <;> cases x <;> rfl
theorem bin_eql_slice {t e : TypeId} (hu : P.underlying t = some (.slice e)) (p : Option Addr) (n c : Nat) (K : Value -> Hp -> Prop) (E : Value -> Hp -> Prop) : wpS P (binOp .eql t (.slice p n c) (.slice none 0 0)) H K E = K (.bool p.isNone) H := by
 simp only [binOp]
 rw [wpS_bind']
 unfold Op.equal Op.maxDepth
 rw [show (10000 : Nat) = 9999 + 1 from rfl]
 unfold Op.equalIn
 rw [wpS_bind', wpS_underlying hu]
 cases p <;> rfl
theorem bin_eql_nil {t : TypeId} {ms : Array (String × TypeId)} (hu : P.underlying t = some (.interface ms)) (K : Value -> Hp -> Prop) (E : Value -> Hp -> Prop) : wpS P (binOp .eql t .nilIface .nilIface) H K E = K (.bool true) H := by
 simp only [binOp]
 rw [wpS_bind']
 unfold Op.equal Op.maxDepth
 rw [show (10000 : Nat) = 9999 + 1 from rfl]
 unfold Op.equalIn
 rw [wpS_bind', wpS_underlying hu]
 rfl
theorem bin_eql_iface {t : TypeId} {ms : Array (String × TypeId)} (hu : P.underlying t = some (.interface ms)) (u : TypeId) (v : Value) (K : Value -> Hp -> Prop) (E : Value -> Hp -> Prop) : wpS P (binOp .eql t (.iface u v) .nilIface) H K E = K (.bool false) H := by
 simp only [binOp]
 rw [wpS_bind']
 unfold Op.equal Op.maxDepth
 rw [show (10000 : Nat) = 9999 + 1 from rfl]
 unfold Op.equalIn
 rw [wpS_bind', wpS_underlying hu]
 rfl
theorem bin_neq_nil {t : TypeId} {ms : Array (String × TypeId)} (hu : P.underlying t = some (.interface ms)) (K : Value -> Hp -> Prop) (E : Value -> Hp -> Prop) : wpS P (binOp .neq t .nilIface .nilIface) H K E = K (.bool false) H := by
 simp only [binOp]
 rw [wpS_bind']
 unfold Op.equal Op.maxDepth
 rw [show (10000 : Nat) = 9999 + 1 from rfl]
 unfold Op.equalIn
 rw [wpS_bind', wpS_underlying hu]
 rfl
theorem bin_neq_iface {t : TypeId} {ms : Array (String × TypeId)} (hu : P.underlying t = some (.interface ms)) (u : TypeId) (v : Value) (K : Value -> Hp -> Prop) (E : Value -> Hp -> Prop) : wpS P (binOp .neq t (.iface u v) .nilIface) H K E = K (.bool true) H := by
 simp only [binOp]
 rw [wpS_bind']
 unfold Op.equal Op.maxDepth
 rw [show (10000 : Nat) = 9999 + 1 from rfl]
 unfold Op.equalIn
 rw [wpS_bind', wpS_underlying hu]
 rfl
theorem assert_ok {t st : TypeId} {d : TypeDesc} (hu : P.underlying t = some d) (hd : (match d with | .interface _ => true | _ => false) = false) {z : Value} (hz : ∀ w, (zeroValue t).run P w = .ok z w) (u : TypeId) (v : Value) (K : Value -> Hp -> Prop) (E : Value -> Hp -> Prop) :
  wpS P (Instr.typeAssert (.iface u v) st t true) H K E = if u = t then K (.tuple #[v, .bool true]) H else K (.tuple #[z, .bool false]) H := by
 unfold Instr.typeAssert
 rw [wpS_bind', wpS_underlying hu]
 cases d <;> first | (cases hd; done) | (simp only [wpS_ite, wpS_pure, if_true, wpS_bind', wpS_zeroValue hz])
def methK (P : Program) (v : Value) (name : String) (args : Array Value) (H : Hp) (K : Next -> Hp -> Prop) (E : Value -> Hp -> Prop) : Prop := wpS P (callMethod v name args) H K E
@[congr] theorem methK_congr {v v' : Value} {name : String} {args args' : Array Value} {H' : Hp} {K : Next -> Hp -> Prop} {E : Value -> Hp -> Prop} (hv : v = v') (ha : args = args') (hH : H = H') : methK P v name args H K E = methK P v' name args' H' K E := by subst hv ha hH; rfl
theorem ex_invoke (ρ : Operand -> Value) (d : Option Tmp) (ty : TypeId) (pos : String) (af : Array Edge) (g : Option (Nat × Bool)) (K : Next -> Hp -> Prop) (E : Value -> Hp -> Prop) {x : Operand} {name : String} {args : List Operand} {ats : Array TypeId} :
  wpS P (execOp ρ ⟨d, .call ⟨.invoke x name, args.toArray, ats⟩, ty, pos, af, g⟩) H K E = methK P (ρ x) name (args.toArray.map ρ) H K E := by
 simp only [execOp, resolve, invoke, methK]
 rw [wpS_bind']
 simp only [wpS_pure]
 have h0 : (#[ρ x] ++ Array.map ρ args.toArray)[0]? = some (ρ x) := by simp
 have h1 : (#[ρ x] ++ Array.map ρ args.toArray).extract 1 (#[ρ x] ++ Array.map ρ args.toArray).size = Array.map ρ args.toArray := by
  apply Array.ext'
  simp [List.extract_eq_take_drop, List.take_of_length_le]
 simp only [h0, h1]
theorem zeroCells_one (z : Value) (n : Nat) : (Builtin.zeroCells #[z] n).toList = List.replicate n z := by
 unfold Builtin.zeroCells
 apply List.ext_getElem
 ·simp
 ·intro i h1 h2
  simp [Nat.mod_one]
theorem clear_slice {t e : TypeId} (hu : P.underlying t = some (.slice e)) {z : Value} (hz : ∀ w, (zeroValue e).run P w = .ok z w) (hz1 : one z = true) (ty : TypeId) (cb : Array Bool) (b o n cap : Nat) {c : Array Value} {e1 : TypeId}
  (hb : H b = some (true, .cells c e1 (0, 0))) (hn : o + n <= c.size) (K : Next -> Hp -> Prop) (E : Value -> Hp -> Prop)
  (hK : K (.value (.tuple #[])) (H.set b (.cells (over c o (List.replicate n z)) e1 (0, 0)))) :
  wpS P (builtin .clear #[t] ty cb #[.slice (some ⟨b, o, none⟩) n cap]) H K E := by
 simp only [builtin]
 rw [wpS_bind']
 unfold Builtin.clear_
 simp only [List.getElem?_toArray, List.getElem?_cons_zero]
 cases n with
 | zero =>
  rw [List.replicate_zero, over_nil, set_self hb] at hK
  simp only [wpS_bind', wpS_underlying hu, wpS_pure]
  exact hK
 | succ n =>
  simp only [wpS_bind', wpS_underlying hu, wpS_zeroValue hz, cells_one hz1]
  rw [zeroCells_one]
  refine wpS_storeCells b o _ E _ 0 H c e1 (fun v hv => by rw [List.eq_of_mem_replicate hv]; exact hz1) hb (by simp; omega) ?_
  rw [Nat.add_zero]
  exact hK
theorem append_zero {t e : TypeId} (hu : P.underlying t = some (.slice e)) {sz : Nat} (hs : ∀ w, (sizeOf e).run P w = .ok sz w) (ty : TypeId) (cb : Array Bool) (p q : Option Addr) (n cap cap2 : Nat) (h : n <= cap) (K : Next -> Hp -> Prop) (E : Value -> Hp -> Prop) (hK : K (.value (.slice p n cap)) H) :
  wpS P (builtin .append #[t, t] ty cb #[.slice p n cap, .slice q 0 cap2]) H K E := by
 simp only [builtin]
 rw [wpS_bind']
 unfold Builtin.append_
 simp only [List.getElem?_toArray, List.getElem?_cons_zero, List.getElem?_cons_succ]
 rw [wpS_bind', wpS_underlying hu]
 simp only [wpS_bind', wpS_sizeOf hs, wpS_underlying hu, wpS_pure, Bool.false_eq_true, if_false, Builtin.lenOf, wpS_ite, Nat.add_zero, h, if_true, Bool.not_false]
 have hf : ∀ (K' : Array Value -> Hp -> Prop), wpS P (Builtin.firstCells sz 0 (.slice q 0 cap2)) H K' E = K' #[] H := fun K' => by
  unfold Builtin.firstCells
  cases q with
  | none => rfl
  | some a => simp only [loadCells, Nat.zero_mul]; rfl
 rw [hf]
 cases p with
 | none => simp only [wpS_pure]; exact hK
 | some a => simp only [wpS_bind', storeCells, wpS_pure]; exact hK
end
end Go.X
end
section
namespace Go.Proofs.YtofmadjgbcopdaaGreatDoor
open Go Go.X
variable {H : Hp} (args : Array Value) (K : Next -> Hp -> Prop) (E : Value -> Hp -> Prop)
theorem meth_vault_low (v : Value) : methK Tryz.prog (.iface 166 v) "gladstone/vault.rank" args H K E = wpS Tryz.prog (callFunc 192 (#[v] ++ args)) H K E := by kernel_rfl
theorem nilm_vault_low (v : Value) : nilK Tryz.prog (.func (.method "gladstone/vault.rank") #[.iface 166 v] #[]) H K E = K (.value (.func (.method "gladstone/vault.rank") #[.iface 166 v] #[])) H := by kernel_rfl
theorem meth_vault_old (v : Value) : methK Tryz.prog (.iface 167 v) "gladstone/vault.rank" args H K E = wpS Tryz.prog (callFunc 193 (#[v] ++ args)) H K E := by kernel_rfl
theorem nilm_vault_old (v : Value) : nilK Tryz.prog (.func (.method "gladstone/vault.rank") #[.iface 167 v] #[]) H K E = K (.value (.func (.method "gladstone/vault.rank") #[.iface 167 v] #[])) H := by kernel_rfl
theorem meth_vault_stale (v : Value) : methK Tryz.prog (.iface 168 v) "gladstone/vault.rank" args H K E = wpS Tryz.prog (callFunc 194 (#[v] ++ args)) H K E := by kernel_rfl
theorem nilm_vault_stale (v : Value) : nilK Tryz.prog (.func (.method "gladstone/vault.rank") #[.iface 168 v] #[]) H K E = K (.value (.func (.method "gladstone/vault.rank") #[.iface 168 v] #[])) H := by kernel_rfl
theorem meth_vault_late (v : Value) : methK Tryz.prog (.iface 169 v) "gladstone/vault.rank" args H K E = wpS Tryz.prog (callFunc 195 (#[v] ++ args)) H K E := by kernel_rfl
theorem nilm_vault_late (v : Value) : nilK Tryz.prog (.func (.method "gladstone/vault.rank") #[.iface 169 v] #[]) H K E = K (.value (.func (.method "gladstone/vault.rank") #[.iface 169 v] #[])) H := by kernel_rfl
theorem meth_barrow_tardy (v : Value) : methK Tryz.prog (.iface 199 v) "gladstone/barrow.by" args H K E = wpS Tryz.prog (callFunc 196 (#[v] ++ args)) H K E := by kernel_rfl
theorem nilm_barrow_tardy (v : Value) : nilK Tryz.prog (.func (.method "gladstone/barrow.by") #[.iface 199 v] #[]) H K E = K (.value (.func (.method "gladstone/barrow.by") #[.iface 199 v] #[])) H := by kernel_rfl
theorem meth_barrow_timely (v : Value) : methK Tryz.prog (.iface 200 v) "gladstone/barrow.by" args H K E = wpS Tryz.prog (callFunc 197 (#[v] ++ args)) H K E := by kernel_rfl
theorem nilm_barrow_timely (v : Value) : nilK Tryz.prog (.func (.method "gladstone/barrow.by") #[.iface 200 v] #[]) H K E = K (.value (.func (.method "gladstone/barrow.by") #[.iface 200 v] #[])) H := by kernel_rfl
end Go.Proofs.YtofmadjgbcopdaaGreatDoor
end
section
namespace Go.Proofs.YtofmadjgbcopdaaGreatDoor
open Go Go.X
def y84_27 := And.intro (fun H => loadAt_aggE (H := H) Tryz.underlying25 rfl Tryz.sizeOf25) (And.intro @callF124 (And.intro (fun H => ex_alloc (H := H) (P := Tryz.prog) (h := Tryz.zeroValue160)) (And.intro @callF126 (And.intro (fun H => makeI (H := H) Tryz.underlying163 rfl) (And.intro @callF125 (And.intro (fun H => fieldAt_eq (H := H) Tryz.underlying160 (i := 0) rfl (off := 0) rfl Tryz.sizeOf39) (And.intro (fun H => loadAt_one (H := H) Tryz.underlying39 rfl) @callF127)))))))
def y125_27 := And.intro @eqG_iface (And.intro @eqG_nil (And.intro (fun H => bin_eql_nil (H := H) Tryz.underlying142) (And.intro (fun H => bin_eql_iface (H := H) Tryz.underlying142) (And.intro (fun H => bin_neq_nil (H := H) Tryz.underlying142) (And.intro (fun H => bin_neq_iface (H := H) Tryz.underlying142) (And.intro (fun H => bin_eql_nil (H := H) Tryz.underlying20) (And.intro (fun H => bin_eql_iface (H := H) Tryz.underlying20) (And.intro (fun H => bin_neq_nil (H := H) Tryz.underlying20) (And.intro (fun H => bin_neq_iface (H := H) Tryz.underlying20) (And.intro (fun H => makeI (H := H) Tryz.underlying9 rfl) (And.intro (fun H => ex_alloc (H := H) (P := Tryz.prog) (h := Tryz.zeroValue215)) (And.intro (fun H => storeAt_agg (H := H) Tryz.sizeOf215) (And.intro (fun H => loadAt_aggE (H := H) Tryz.underlying215 rfl Tryz.sizeOf215) (And.intro (fun H => loadAt_one (H := H) Tryz.underlying218 rfl) @callF161))))))))))))))
def y126_27 := And.intro (fun H => fieldAt_eq (H := H) Tryz.underlying25 (i := 3) rfl (off := 3) rfl Tryz.sizeOf23) (And.intro (fun H => loadAt_one (H := H) Tryz.underlying23 rfl) (And.intro (fun H => len_slice (H := H) Tryz.underlying23) (And.intro (fun H => len_slice (H := H) Tryz.underlying22) (And.intro @bld_160_0_1_0 (And.intro (fun H => makeI (H := H) Tryz.underlying160 rfl) (And.intro (fun H => indexAt_slice (H := H) Tryz.underlying22 Tryz.sizeOf3) (And.intro (fun H => loadAt_one (H := H) Tryz.underlying3 rfl) (And.intro (fun H => indexAt_slice (H := H) Tryz.underlying23 Tryz.sizeOf22) (fun H => loadAt_one (H := H) Tryz.underlying22 rfl)))))))))
theorem checkTruth_spec (m : Md) (H : Hp) (places pieces : Int) (sv cv tv : Value) (xss : List (List Int)) (ts : List Int) (hs : ∃ sa sn sc, sv = .slice sa sn sc) (hcv : SlR H cv xss) (htv : SlI H tv ts) (hok : TruthOk xss ts) (hx8 : xss.length <= 8) (hlen : ∀ xs ∈ xss, xs.length <= 1000000) :
  FnX Tryz.prog m 126 #[.agg #[.int .i64 places, .int .i64 pieces, sv, cv], tv] H fun e H' => e = .returned .nilIface /\ H.le H' := by
 have hcvS := hcv
 have htvS := htv
 obtain ⟨ta, tc, rfl, htc, _⟩ := htv
 obtain ⟨ca, cc, rfl, hcc, _⟩ := hcv
 obtain ⟨sa, sn, sc, rfl⟩ := hs
 ·have htl : ts.length <= xss.length /\ xss.length <= ts.length := by have := hok.1; omega
  refine FnX_start Tryz.func126 rfl Tryz.ntmps126 (by simp) ?_
  (refine @unH _ ?_; refine zA y126_27 ?_; (repeat (refine inC ?_; intro hc)); try (refine inK ?_; intro K hK))
  intro vb hvb
  have hle := Hp.le_set hvb (o := .cells #[.int .i64 places, .int .i64 pieces, .slice sa sn sc, .slice ca xss.length cc] 25 (0, 0))
  have hvb1 : (H.set vb (.cells #[.int .i64 places, .int .i64 pieces, .slice sa sn sc, .slice ca xss.length cc] 25 (0, 0))) vb = _ := set_at
  have htv1 := htvS.le hle
  have hcv1 := hcvS.le hle
  generalize H.set vb (.cells #[.int .i64 places, .int .i64 pieces, .slice sa sn sc, .slice ca xss.length cc] 25 (0, 0)) = H1 at *
  ((try (refine @unH _ ?_; refine zX y126_27 ?_)); (try (refine hK _ _ ?_; clear hK K; (try simp only [nq, ↓reduceIte, Nat.reduceEqDiff]))); refine @unH _ ?_; refine zA y126_27 ?_; (repeat (refine inC ?_; intro hc)); try (refine inK ?_; intro K hK))
  refine wpX_loop (fun w a' H' => ∃ e i, w = xss.length - i /\ i <= xss.length /\ a' = act 55 e [] /\ e 2 = .pointer (some ⟨vb, 0, none⟩) /\ e 30 = .slice ta ts.length tc /\ e 31 = .int .i64 ts.length /\ e 32 = .int .i64 (i : Nat) /\ H' = H1) (n := xss.length) ?_ ?_
  ·exact ⟨_, 0, by omega, by omega, rfl, rfl, rfl, rfl, rfl, rfl⟩
  ·rintro w a' H' ⟨e, i, rfl, hi, rfl, e2, e30, e31, e32, hH⟩
   rw [hH]; clear hH H'
   by_cases hlt : i < xss.length
   ·obtain ⟨b, o, cap', p, c, fr, hve, _, hb, hx⟩ := htv1.cons (fun h => absurd (congrArg List.length h) (by simp only [List.length_nil]; omega))
    cases hve
    have hti : ts[i]? = some (ts[i]'(by omega)) := List.getElem?_eq_getElem (by omega)
    have hxi := hx i _ hti
    have hmem := hok.2 i _ xss[i] hti (List.getElem?_eq_getElem hlt)
    obtain ⟨_, _, hve, _, hsx⟩ := id hcv1
    cases hve
    obtain ⟨rb, ro, rp, rc, rfr, rw', rfl, hrb, hrx, hrow⟩ := hsx i xss[i] (List.getElem?_eq_getElem hlt)
    generalize ts[i]'(by omega) = t at hti hxi hmem
    have hxl : xss[i].length <= 1000000 := hlen _ (List.getElem_mem hlt)
    generalize xss[i] = xs at hmem hrow hxl
    obtain ⟨rb2, ro2, rcap2, rp2, rc2, rfr2, rfl, _, hrb2, hrx2⟩ := hrow.cons (by intro h; rw [h] at hmem; simp at hmem)
    (refine @unH _ ?_; refine zA y126_27 ?_; (repeat (refine inC ?_; intro hc)); try (refine inK ?_; intro K hK))
    refine wpX_loop (fun w a' H' => ∃ e j, w = xs.length - j /\ j <= xs.length /\ t ∉ xs.take j /\ a' = act 55 e [] /\ e 2 = .pointer (some ⟨vb, 0, none⟩) /\ e 7 = .int .i64 t /\ e 30 = .slice (some ⟨b, o, none⟩) ts.length tc /\ e 31 = .int .i64 ts.length /\ e 32 = .int .i64 (i : Nat) /\
     e 41 = .slice (some ⟨rb2, ro2, none⟩) xs.length rcap2 /\ e 42 = .int .i64 xs.length /\ e 43 = .int .i64 (j : Nat) /\ H' = H1) (n := xs.length) ?_ ?_
    ·exact ⟨_, 0, by omega, by omega, by simp, rfl, e2, rfl, e30, e31, e32, rfl, rfl, rfl, by trivial⟩
    ·rintro w a' H' ⟨e, j, rfl, hj, hnot, rfl, e2, e7, e30, e31, e32, e41, e42, e43, hH⟩
     rw [hH]; clear hH H'
     by_cases hlt2 : j < xs.length
     ·have hxj := hrx2 j xs[j] (List.getElem?_eq_getElem hlt2)
      have hnext : t ≠ xs[j] -> t ∉ xs.take (j + 1) := fun h1 h2 => by
       rw [List.take_add_one, List.getElem?_eq_getElem hlt2] at h2
       rcases List.mem_append.1 h2 with h2 | h2
       ·exact hnot h2
       ·simp at h2; exact h1 h2
      generalize xs[j] = x at hxj hnext
      repeat' (first
 | (refine wpX_stmtL rfl ?_; intro K hK; simp -implicitDefEqProofs (disch := first | omega | (simp only [qd] <;> omega)) only [xq, ↓xp, qc, Nat.reduceAdd, List.range, List.range.loop, fine, Nat.reduceEqDiff, ↓reduceIte, yielded, reduceCtorEq, Nat.reduceLT, Nat.reduceMul, Nat.reduceSub, one, Nat.reduceLeDiff, runX_cons, y126_27, aq, ↓ap, qe0, qe1, qe2, *, -hK]; try (refine hK _ _ ?_; clear hK K))
 | (refine wpX_lastL rfl ?_; intro K hK; simp -implicitDefEqProofs (disch := first | omega | (simp only [qd] <;> omega)) only [xq, ↓xp, qc, Nat.reduceAdd, List.range, List.range.loop, fine, Nat.reduceEqDiff, ↓reduceIte, yielded, reduceCtorEq, Nat.reduceLT, Nat.reduceMul, Nat.reduceSub, one, Nat.reduceLeDiff, runX_cons, y126_27, aq, ↓ap, qe0, qe1, qe2, *, -hK]; try (refine hK _ _ ?_; clear hK K; (try simp only [nq, ↓reduceIte, Nat.reduceEqDiff])))
 | (refine wpX_skip ?_; (try simp only [nq, ↓reduceIte, Nat.reduceEqDiff]))
 | (refine wpX_label ?_; (try simp only [nq, ↓reduceIte, Nat.reduceEqDiff]))
 | (refine wpX_exit ?_; (try simp only [nq, ↓reduceIte, Nat.reduceEqDiff]))
 | (refine wpX_goto ?_; (try simp only [nq, ↓reduceIte, Nat.reduceEqDiff]))
 | (refine wpX_condK (by simp only [act_eval, upd_get, Nat.reduceEqDiff, Nat.reduceLT, ↓reduceIte, *]; rfl) ?_ ?_ <;> (intro hc; first | (exfalso; simp -implicitDefEqProofs (disch := omega) only [*, bq, reduceCtorEq] at hc; done) | (simp only [dq, qe3, qe4, qe5, qe6] at hc) | skip))
 | (refine wpX_scope0 ?_)
 | (refine wpX_block ?_)
 | (refine wpX_seq ?_))
      ·exact ⟨_, by omega, _, i + 1, rfl, hlt, rfl, e2, e30, e31, rfl, by trivial⟩
      ·exact ⟨_, by omega, _, j + 1, rfl, hlt2, hnext hc, rfl, e2, e7, e30, e31, e32, e41, e42, rfl, by trivial⟩
     ·exact absurd hmem (by rw [List.take_of_length_le (by omega)] at hnot; exact hnot)
   ·(refine @unH _ ?_; refine zA y126_27 ?_; (repeat (refine inC ?_; intro hc)); try (refine inK ?_; intro K hK))
    (refine @unH _ ?_; refine z9 Tryz.results126 ?_)
    exact ⟨by trivial, hle⟩
theorem as_nil (m : Md) (H : Hp) (v : Value) :
  FnX Tryz.prog m 125 #[.nilIface, v] H fun e H' => e = .returned (.bool false) /\ H' = H := by
 refine FnX_start Tryz.func125 rfl Tryz.ntmps125 (by simp) ?_
 (refine @unH _ ?_; refine zAi y125_27 ?_; (repeat (refine inC ?_; intro hc)); try (refine inK ?_; intro K hK))
 (refine @unH _ ?_; refine z9 Tryz.results125 ?_)
 (refine ⟨?_, ?_⟩ <;> first | rfl | trivial | assumption)
theorem SlR.isSlice {H : Hp} {v : Value} {xss : List (List Int)} (h : SlR H v xss) : ∃ a n c, v = .slice a n c := by
 obtain ⟨a, c, rfl, _⟩ := h
 exact ⟨_, _, _, rfl⟩
theorem SlI.isSlice {H : Hp} {v : Value} {xs : List Int} (h : SlI H v xs) : ∃ a n c, v = .slice a n c := by
 obtain ⟨a, c, rfl, _⟩ := h
 exact ⟨_, _, _, rfl⟩
structure DayIn (H : Hp) (places pieces : Int) (sv cv tv : Value) (start : List Int) (xss : List (List Int)) (ts : List Int) : Prop where
 st : SlI H sv start
 calls : SlR H cv xss
 truth : SlI H tv ts
 ok : VaultOk places pieces start xss
 few : xss.length <= 8
 true : TruthOk xss ts
theorem DayIn.le {H H' : Hp} {places pieces : Int} {sv cv tv : Value} {start : List Int} {xss : List (List Int)} {ts : List Int} (h : DayIn H places pieces sv cv tv start xss ts) (hl : H.le H') : DayIn H' places pieces sv cv tv start xss ts :=
 ⟨h.st.le hl, h.calls.le hl, h.truth.le hl, h.ok, h.few, h.true⟩
theorem begin_spec (m : Md) (H : Hp) (places pieces : Int) (sv cv tv : Value) (start : List Int) (xss : List (List Int)) (ts : List Int) (hd : DayIn H places pieces sv cv tv start xss ts) :
  FnX Tryz.prog m 84 #[.agg #[.int .i64 places, .int .i64 pieces, sv, cv], tv] H fun e H' => ∃ db mb, e = .returned (.tuple #[.pointer (some ⟨db, 0, none⟩), .int .i64 0]) /\ H.le H' /\ db ≠ mb /\ H db = none /\ H mb = none /\
   H' db = some (true, dayO places pieces sv cv tv mb) /\ H' mb = some (true, .map #[] 0) := by
 obtain ⟨sa, sn, sc, rfl⟩ := hd.st.isSlice
 obtain ⟨ca, cn, cc, rfl⟩ := hd.calls.isSlice
 obtain ⟨ta, tn, tc, rfl⟩ := hd.truth.isSlice
 refine FnX_start Tryz.func84 rfl Tryz.ntmps84 (by simp) ?_
 (refine @unH _ ?_; refine zA y84_27 ?_; (repeat (refine inC ?_; intro hc)); try (refine inK ?_; intro K hK))
 (intro vb hvb; generalize hG : Hp.set _ vb _ = H1; have lH1 := le_of_set hG hvb; have vvb := at_of_set hG; clear hG)
 have hd1 := hd.le lH1
 ((try (refine @unH _ ?_; refine zX y84_27 ?_)); (try (refine hK _ _ ?_; clear hK K; (try simp only [nq, ↓reduceIte, Nat.reduceEqDiff]))); refine @unH _ ?_; refine zA y84_27 ?_; (repeat (refine inC ?_; intro hc)); try (refine inK ?_; intro K hK))
 refine (check_spec m H1 places pieces _ _ start xss hd1.st hd1.calls hd1.ok hd1.few).runs.mono ?_
 rintro _ H2 ⟨rfl, lH2⟩
 have hd2 := hd1.le lH2
 have vvb2 := lH2 _ _ vvb
 ((try (refine @unH _ ?_; refine zX y84_27 ?_)); (try (refine hK _ _ ?_; clear hK K; (try simp only [nq, ↓reduceIte, Nat.reduceEqDiff]))); refine @unH _ ?_; refine zA y84_27 ?_; (repeat (refine inC ?_; intro hc)); try (refine inK ?_; intro K hK))
 ·(intro wb hwb; generalize hG : Hp.set _ wb _ = H3; have lH3 := le_of_set hG hwb; have vwb := at_of_set hG; clear hG)
  have hd3 := hd2.le lH3
  have vvb3 := lH3 _ _ vvb2
  ((try (refine @unH _ ?_; refine zX y84_27 ?_)); (try (refine hK _ _ ?_; clear hK K; (try simp only [nq, ↓reduceIte, Nat.reduceEqDiff]))); refine @unH _ ?_; refine zA y84_27 ?_; (repeat (refine inC ?_; intro hc)); try (refine inK ?_; intro K hK))
  refine (checkTruth_spec m H3 places pieces _ _ _ xss ts ⟨_, _, _, rfl⟩ hd3.calls hd3.truth hd3.true hd3.few (fun xs hx => by have := (hd3.ok.2.2.2.2.2.2.2 xs hx).len; have := hd3.ok.2.2.2.1; omega)).runs.mono ?_
  rintro _ H4 ⟨rfl, lH4⟩
  have vvb4 := lH4 _ _ vvb3
  ((try (refine @unH _ ?_; refine zX y84_27 ?_)); (try (refine hK _ _ ?_; clear hK K; (try simp only [nq, ↓reduceIte, Nat.reduceEqDiff]))); refine @unH _ ?_; refine zA y84_27 ?_; (repeat (refine inC ?_; intro hc)); try (refine inK ?_; intro K hK))
  refine (as_nil m H4 _).runs.mono ?_
  rintro _ _ ⟨rfl, rfl⟩
  ((try (refine @unH _ ?_; refine zX y84_27 ?_)); (try (refine hK _ _ ?_; clear hK K; (try simp only [nq, ↓reduceIte, Nat.reduceEqDiff]))); refine @unH _ ?_; refine zA y84_27 ?_; (repeat (refine inC ?_; intro hc)); try (refine inK ?_; intro K hK))
  refine (vopen_spec m _ places pieces sa sn sc ca cn cc ta tn tc).runs.mono ?_
  rintro _ H5 ⟨db, mb, rfl, lH5, hdm, hdb, hmb, vdb, vmb⟩
  ((try (refine @unH _ ?_; refine zX y84_27 ?_)); (try (refine hK _ _ ?_; clear hK K; (try simp only [nq, ↓reduceIte, Nat.reduceEqDiff]))); refine @unH _ ?_; refine zA y84_27 ?_; (repeat (refine inC ?_; intro hc)); try (refine inK ?_; intro K hK))
  (refine @unH _ ?_; refine zB Tryz.results84 ?_)
  have hl : H.le _ := Hp.le_trans lH1 (Hp.le_trans lH2 (Hp.le_trans lH3 lH4))
  exact ⟨db, mb, rfl, Hp.le_trans hl lH5, hdm, Hp.le_none hl hdb, Hp.le_none hl hmb, vdb, vmb⟩
end Go.Proofs.YtofmadjgbcopdaaGreatDoor
end
section
namespace Go.Proofs.YtofmadjgbcopdaaGreatDoor
open Go Go.X
def y70_28 := And.intro (fun H => len_slice (H := H) Tryz.underlying22) (And.intro (fun H => indexAt_slice (H := H) Tryz.underlying22 Tryz.sizeOf3) (And.intro (fun H => loadAt_one (H := H) Tryz.underlying3 rfl) @callF71))
theorem bwithin_spec (m : Md) (H : Hp) (n lo hi : Int) :
  FnX Tryz.prog m 71 #[.int .i64 n, .int .i64 lo, .int .i64 hi] H fun e H' => e = .returned (.bool (decide (lo <= n) && decide (n <= hi))) /\ H' = H := by
 refine FnX_start Tryz.func71 rfl Tryz.ntmps71 (by simp) ?_
 by_cases h : lo <= n
 ·(refine @unH _ ?_; refine zA trivial ?_; (repeat (refine inC ?_; intro hc)); try (refine inK ?_; intro K hK))
  (refine @unH _ ?_; refine z9 Tryz.results71 ?_)
  simp [h]
 ·(refine @unH _ ?_; refine zA trivial ?_; (repeat (refine inC ?_; intro hc)); try (refine inK ?_; intro K hK))
  (refine @unH _ ?_; refine z9 Tryz.results71 ?_)
  simp [h]
theorem checkTimes_spec (m : Md) (H : Hp) (v : Value) (ts : List Int) (hv : SlI H v ts) {n : Nat} (hok : TimesOk n ts) (hl : ts.length <= 1000) :
  FnX Tryz.prog m 70 #[v, .int .i64 ts.length] H fun e H' => e = .returned (.int .i64 0) /\ H' = H := by
 have hvS := hv
 obtain ⟨a, cap, rfl, hcap, _⟩ := hv
 refine FnX_start Tryz.func70 rfl Tryz.ntmps70 (by simp) ?_
 (refine @unH _ ?_; refine zA y70_28 ?_; (repeat (refine inC ?_; intro hc)); try (refine inK ?_; intro K hK))
 refine wpX_loop (fun w a' H' => ∃ e j, w = ts.length - j /\ j <= ts.length /\ a' = act 39 e [] /\ e 0 = .slice a ts.length cap /\ e 17 = .slice a ts.length cap /\ e 18 = .int .i64 ts.length /\ e 19 = .int .i64 (j : Nat) /\ H' = H) (n := ts.length) ?_ ?_
 ·exact ⟨_, 0, by omega, by omega, rfl, rfl, rfl, rfl, rfl, by trivial⟩
 ·rintro w a' H' ⟨e, j, rfl, hj, rfl, e0, e17, e18, e19, hH⟩
  rw [hH]; clear hH H'
  by_cases hlt : j < ts.length
  ·obtain ⟨b, o, cap', p, c, fr, hve, _, hb, hx⟩ := hvS.cons (by intro h; simp [h] at hlt)
   cases hve
   have hxj := hx j ts[j] (List.getElem?_eq_getElem hlt)
   have hbd := hok.2.2 _ (List.getElem_mem hlt)
   have hpj : 0 < j -> ∃ y : Int, c[o + (j - 1)]? = some (.int .i64 y) /\ y <= ts[j] := fun h0 => ⟨ts[j - 1], hx (j - 1) _ (List.getElem?_eq_getElem (by omega)), (List.pairwise_iff_getElem.1 hok.2.1) (j - 1) j (by omega) hlt (by omega)⟩
   generalize ts[j] = x at hxj hbd hpj
   (refine @unH _ ?_; refine zA y70_28 ?_; (repeat (refine inC ?_; intro hc)); try (refine inK ?_; intro K hK))
   refine (bwithin_spec m H x 0 99).runs.mono ?_
   rintro _ _ ⟨rfl, rfl⟩
   have hb1 : (decide (0 <= x) && decide (x <= 99)) = true := by simp; omega
   rw [hb1]
   by_cases hj0 : j = 0
   ·((try (refine @unH _ ?_; refine zX (And.intro y70_28 @Bool.and_self) ?_)); (try (refine hK _ _ ?_; clear hK K; (try simp only [nq, ↓reduceIte, Nat.reduceEqDiff]))); refine @unH _ ?_; refine zA (And.intro y70_28 @Bool.and_self) ?_; (repeat (refine inC ?_; intro hc)); try (refine inK ?_; intro K hK))
    exact ⟨_, by omega, _, j + 1, rfl, hlt, rfl, e0, e17, e18, by subst hj0; rfl, by trivial⟩
   ·obtain ⟨y, hy1, hy2⟩ := hpj (by omega)
    have hjm : ((j : Int) - 1).toNat = j - 1 := by omega
    ((try (refine @unH _ ?_; refine zX (And.intro y70_28 @Bool.and_self) ?_)); (try (refine hK _ _ ?_; clear hK K; (try simp only [nq, ↓reduceIte, Nat.reduceEqDiff]))); refine @unH _ ?_; refine zA (And.intro y70_28 @Bool.and_self) ?_; (repeat (refine inC ?_; intro hc)); try (refine inK ?_; intro K hK))
    exact ⟨_, by omega, _, j + 1, rfl, hlt, rfl, e0, e17, e18, rfl, by trivial⟩
  ·(refine @unH _ ?_; refine zA y70_28 ?_; (repeat (refine inC ?_; intro hc)); try (refine inK ?_; intro K hK))
   (refine @unH _ ?_; refine z9 Tryz.results70 ?_)
   (refine ⟨?_, ?_⟩ <;> first | rfl | trivial | assumption)
end Go.Proofs.YtofmadjgbcopdaaGreatDoor
end
section
namespace Go.Proofs.YtofmadjgbcopdaaGreatDoor
open Go Go.X
def y85_29 := And.intro @bld_166__0 (And.intro (fun H => makeI (H := H) Tryz.underlying166 rfl) (And.intro @bld_167__0 (And.intro (fun H => makeI (H := H) Tryz.underlying167 rfl) (And.intro @bld_168__0 (And.intro (fun H => makeI (H := H) Tryz.underlying168 rfl) (And.intro @bld_169__0 (fun H => makeI (H := H) Tryz.underlying169 rfl)))))))
def ruleV (n : Int) : Value := .iface (if n = 0 then 166 else if n = 1 then 167 else if n = 2 then 168 else 169) (.agg #[])
theorem ruleOf_spec (m : Md) (H : Hp) (n : Int) (h0 : 0 <= n) (h3 : n <= 3) :
  FnX Tryz.prog m 85 #[.int .i64 n] H fun e H' => e = .returned (ruleV n) /\ H' = H := by
 refine FnX_start Tryz.func85 rfl Tryz.ntmps85 (by simp) ?_
 repeat' (first
 | (refine wpX_stmtL rfl ?_; intro K hK; simp -implicitDefEqProofs (disch := first | omega | (simp only [qd] <;> omega)) only [xq, ↓xp, qc, Nat.reduceAdd, List.range, List.range.loop, fine, Nat.reduceEqDiff, ↓reduceIte, yielded, reduceCtorEq, Nat.reduceLT, Nat.reduceMul, Nat.reduceSub, one, Nat.reduceLeDiff, runX_cons, y85_29, aq, ↓ap, qe0, qe1, qe2, *, -hK]; try (refine hK _ _ ?_; clear hK K))
 | (refine wpX_lastL rfl ?_; intro K hK; simp -implicitDefEqProofs (disch := first | omega | (simp only [qd] <;> omega)) only [xq, ↓xp, qc, Nat.reduceAdd, List.range, List.range.loop, fine, Nat.reduceEqDiff, ↓reduceIte, yielded, reduceCtorEq, Nat.reduceLT, Nat.reduceMul, Nat.reduceSub, one, Nat.reduceLeDiff, runX_cons, y85_29, aq, ↓ap, qe0, qe1, qe2, *, -hK]; try (refine hK _ _ ?_; clear hK K; (try simp only [nq, ↓reduceIte, Nat.reduceEqDiff])))
 | (refine wpX_skip ?_; (try simp only [nq, ↓reduceIte, Nat.reduceEqDiff]))
 | (refine wpX_label ?_; (try simp only [nq, ↓reduceIte, Nat.reduceEqDiff]))
 | (refine wpX_exit ?_; (try simp only [nq, ↓reduceIte, Nat.reduceEqDiff]))
 | (refine wpX_goto ?_; (try simp only [nq, ↓reduceIte, Nat.reduceEqDiff]))
 | (refine wpX_condK (by simp only [act_eval, upd_get, Nat.reduceEqDiff, Nat.reduceLT, ↓reduceIte, *]; rfl) ?_ ?_ <;> (intro hc; first | (exfalso; simp -implicitDefEqProofs (disch := omega) only [*, bq, reduceCtorEq] at hc; done) | (simp only [dq, qe3, qe4, qe5, qe6] at hc) | skip))
 | (refine wpX_scope0 ?_)
 | (refine wpX_block ?_)
 | (refine wpX_seq ?_))
 ·(refine @unH _ ?_; refine z9 Tryz.results85 ?_)
  refine ⟨?_, by trivial⟩
  subst hc; rfl
 ·(refine @unH _ ?_; refine z9 Tryz.results85 ?_)
  refine ⟨?_, by trivial⟩
  subst hc; rfl
 ·(refine @unH _ ?_; refine z9 Tryz.results85 ?_)
  refine ⟨?_, by trivial⟩
  subst hc; rfl
 ·(refine @unH _ ?_; refine z9 Tryz.results85 ?_)
  refine ⟨?_, by trivial⟩
  obtain rfl : n = 3 := by omega
  rfl
end Go.Proofs.YtofmadjgbcopdaaGreatDoor
end
section
namespace Go.Proofs.YtofmadjgbcopdaaGreatDoor
open Go Go.X
def y87_30 := And.intro @eqG_slice (And.intro (fun H => bin_eql_slice (H := H) Tryz.underlying22) (fun H => buildSlice0 (H := H) Tryz.underlying22 Tryz.sizeOf3))
def y145_30 := @callF165
def y146_30 := And.intro @callF166 (And.intro (fun H => len_slice (H := H) Tryz.underlying22) (And.intro (fun H => indexAt_slice (H := H) Tryz.underlying22 Tryz.sizeOf3) (And.intro (fun H => loadAt_one (H := H) Tryz.underlying3 rfl) (And.intro (fun H => storeAt_int (H := H) Tryz.sizeOf3) (And.intro (fun H => slice_hi (H := H) Tryz.underlying22 Tryz.sizeOf3) (And.intro (fun H => slice_lo (H := H) Tryz.underlying22 Tryz.sizeOf3) (fun H => slice_lohi (H := H) Tryz.underlying22 Tryz.sizeOf3)))))))
def y165_30 := And.intro (fun H => len_slice (H := H) Tryz.underlying22) (And.intro (fun H => indexAt_slice (H := H) Tryz.underlying22 Tryz.sizeOf3) (fun H => loadAt_one (H := H) Tryz.underlying3 rfl))
def y166_30 := And.intro (fun H => len_slice (H := H) Tryz.underlying22) (And.intro (fun H => indexAt_slice (H := H) Tryz.underlying22 Tryz.sizeOf3) (fun H => loadAt_one (H := H) Tryz.underlying3 rfl))
theorem z0_30 {p q : Prop} (g : q) (h : Hid q -> p := by
 intro g
 repeat' (first
 | (refine wpX_stmtL rfl ?_; intro Kz hKz; simp -implicitDefEqProofs (disch := first | omega | (simp only [qd] <;> omega)) only [xq, ↓xp, qc, Nat.reduceAdd, List.range, List.range.loop, fine, Nat.reduceEqDiff, ↓reduceIte, yielded, reduceCtorEq, Nat.reduceLT, Nat.reduceMul, Nat.reduceSub, one, Nat.reduceLeDiff, runX_cons, y87_30, aq, ↓ap, qe0, qe1, qe2, *, -g, -hKz, Option.isNone_none]; try (refine hKz _ _ ?_; clear hKz Kz))
 | (refine wpX_lastL rfl ?_; intro Kz hKz; simp -implicitDefEqProofs (disch := first | omega | (simp only [qd] <;> omega)) only [xq, ↓xp, qc, Nat.reduceAdd, List.range, List.range.loop, fine, Nat.reduceEqDiff, ↓reduceIte, yielded, reduceCtorEq, Nat.reduceLT, Nat.reduceMul, Nat.reduceSub, one, Nat.reduceLeDiff, runX_cons, y87_30, aq, ↓ap, qe0, qe1, qe2, *, -g, -hKz, Option.isNone_none]; try (refine hKz _ _ ?_; clear hKz Kz; (try simp only [nq, ↓reduceIte, Nat.reduceEqDiff])))
 | (refine wpX_skip ?_; (try simp only [nq, ↓reduceIte, Nat.reduceEqDiff]))
 | (refine wpX_label ?_; (try simp only [nq, ↓reduceIte, Nat.reduceEqDiff]))
 | (refine wpX_exit ?_; (try simp only [nq, ↓reduceIte, Nat.reduceEqDiff]))
 | (refine wpX_goto ?_; (try simp only [nq, ↓reduceIte, Nat.reduceEqDiff]))
 | (refine wpX_condK (by simp only [act_eval, upd_get, Nat.reduceEqDiff, Nat.reduceLT, ↓reduceIte, *, -g]; rfl) ?_ ?_ <;> (intro hcz; first | (exfalso; simp -implicitDefEqProofs (disch := omega) only [*, -g, bq, reduceCtorEq] at hcz; done) | (simp only [dq, qe3, qe4, qe5, qe6] at hcz) | skip))
 | (refine wpX_scope0 ?_)
 | (refine wpX_block ?_)
 | (refine wpX_seq ?_))
 (try (revert Kz; refine unK ?_)); (repeat (revert hcz; refine unC ?_))
 exact Hid.out g) : Hid p := ⟨h ⟨g⟩⟩
theorem z1_30 {p q : Prop} (g : q) (h : Hid q -> p := by
 intro g
 repeat' (first
 | (refine wpX_stmtL rfl ?_; intro Kz hKz; simp -implicitDefEqProofs (disch := first | omega | (simp only [qd] <;> omega)) only [xq, ↓xp, qc, Nat.reduceAdd, List.range, List.range.loop, fine, Nat.reduceEqDiff, ↓reduceIte, yielded, reduceCtorEq, Nat.reduceLT, Nat.reduceMul, Nat.reduceSub, one, Nat.reduceLeDiff, runX_cons, y87_30, aq, ↓ap, qe0, qe1, qe2, *, -g, -hKz, Option.isNone_some]; try (refine hKz _ _ ?_; clear hKz Kz))
 | (refine wpX_lastL rfl ?_; intro Kz hKz; simp -implicitDefEqProofs (disch := first | omega | (simp only [qd] <;> omega)) only [xq, ↓xp, qc, Nat.reduceAdd, List.range, List.range.loop, fine, Nat.reduceEqDiff, ↓reduceIte, yielded, reduceCtorEq, Nat.reduceLT, Nat.reduceMul, Nat.reduceSub, one, Nat.reduceLeDiff, runX_cons, y87_30, aq, ↓ap, qe0, qe1, qe2, *, -g, -hKz, Option.isNone_some]; try (refine hKz _ _ ?_; clear hKz Kz; (try simp only [nq, ↓reduceIte, Nat.reduceEqDiff])))
 | (refine wpX_skip ?_; (try simp only [nq, ↓reduceIte, Nat.reduceEqDiff]))
 | (refine wpX_label ?_; (try simp only [nq, ↓reduceIte, Nat.reduceEqDiff]))
 | (refine wpX_exit ?_; (try simp only [nq, ↓reduceIte, Nat.reduceEqDiff]))
 | (refine wpX_goto ?_; (try simp only [nq, ↓reduceIte, Nat.reduceEqDiff]))
 | (refine wpX_condK (by simp only [act_eval, upd_get, Nat.reduceEqDiff, Nat.reduceLT, ↓reduceIte, *, -g]; rfl) ?_ ?_ <;> (intro hcz; first | (exfalso; simp -implicitDefEqProofs (disch := omega) only [*, -g, bq, reduceCtorEq] at hcz; done) | (simp only [dq, qe3, qe4, qe5, qe6] at hcz) | skip))
 | (refine wpX_scope0 ?_)
 | (refine wpX_block ?_)
 | (refine wpX_seq ?_))
 (try (revert Kz; refine unK ?_)); (repeat (revert hcz; refine unC ?_))
 exact Hid.out g) : Hid p := ⟨h ⟨g⟩⟩
theorem z2_30 {p q : Prop} (g : q) (h : Hid q -> p := by
 intro g
 repeat' (first
 | (refine wpX_stmtL rfl ?_; intro Kz hKz; simp -implicitDefEqProofs (disch := first | omega | (simp only [qd] <;> omega)) only [xq, ↓xp, qc, Nat.reduceAdd, List.range, List.range.loop, fine, Nat.reduceEqDiff, ↓reduceIte, yielded, reduceCtorEq, Nat.reduceLT, Nat.reduceMul, Nat.reduceSub, one, Nat.reduceLeDiff, runX_cons, y145_30, aq, ↓ap, qe0, qe1, qe2, *, -g, -hKz]; try (refine hKz _ _ ?_; clear hKz Kz))
 | (refine wpX_lastL rfl ?_; intro Kz hKz; simp -implicitDefEqProofs (disch := first | omega | (simp only [qd] <;> omega)) only [xq, ↓xp, qc, Nat.reduceAdd, List.range, List.range.loop, fine, Nat.reduceEqDiff, ↓reduceIte, yielded, reduceCtorEq, Nat.reduceLT, Nat.reduceMul, Nat.reduceSub, one, Nat.reduceLeDiff, runX_cons, y145_30, aq, ↓ap, qe0, qe1, qe2, *, -g, -hKz]; try (refine hKz _ _ ?_; clear hKz Kz; (try simp only [nq, ↓reduceIte, Nat.reduceEqDiff])))
 | (refine wpX_skip ?_; (try simp only [nq, ↓reduceIte, Nat.reduceEqDiff]))
 | (refine wpX_label ?_; (try simp only [nq, ↓reduceIte, Nat.reduceEqDiff]))
 | (refine wpX_exit ?_; (try simp only [nq, ↓reduceIte, Nat.reduceEqDiff]))
 | (refine wpX_goto ?_; (try simp only [nq, ↓reduceIte, Nat.reduceEqDiff]))
 | (refine wpX_condK (by simp only [act_eval, upd_get, Nat.reduceEqDiff, Nat.reduceLT, ↓reduceIte, *, -g]; rfl) ?_ ?_ <;> (intro hcz; first | (exfalso; simp -implicitDefEqProofs (disch := omega) only [*, -g, bq, reduceCtorEq] at hcz; done) | (simp only [dq, qe3, qe4, qe5, qe6] at hcz) | skip))
 | (refine wpX_scope0 ?_)
 | (refine wpX_block ?_)
 | (refine wpX_seq ?_))
 (try (revert Kz; refine unK ?_)); (repeat (revert hcz; refine unC ?_))
 exact Hid.out g) : Hid p := ⟨h ⟨g⟩⟩
theorem x3_30 {p q : Prop} (g : q) (h : Hid q -> p := by
 intro g
 simp -implicitDefEqProofs (disch := first | omega | (simp only [qd] <;> omega)) only [xq, ↓xp, qc, Nat.reduceAdd, List.range, List.range.loop, fine, Nat.reduceEqDiff, ↓reduceIte, yielded, reduceCtorEq, Nat.reduceLT, Nat.reduceMul, Nat.reduceSub, one, Nat.reduceLeDiff, runX_cons, y145_30, aq, ↓ap, qe0, qe1, qe2, *, -g, -hK]
 exact Hid.out g) : Hid p := ⟨h ⟨g⟩⟩
theorem clone_spec (m : Md) (H : Hp) (v : Value) (xs : List Int) (hv : SlI H v xs) (hl : xs.length <= 1000000) :
  FnX Tryz.prog m 87 #[v] H fun e H' => ∃ w, e = .returned w /\ RowX none H H' w 3 (ints xs) := by
 obtain ⟨a, cap, rfl, hcap, hx⟩ := hv
 refine FnX_start Tryz.func87 rfl Tryz.ntmps87 (by simp) ?_
 cases a with
 | none =>
  have : xs = [] := by
   cases xs with
   | nil => rfl
   | cons x xs => obtain ⟨b, o, p, c, fr, h, _⟩ := hx 0 x rfl; cases h
  subst this
  (refine @unH _ ?_; refine z0_30 ?_; (repeat (refine inC ?_; intro hc)); try (refine inK ?_; intro K hK))
  (refine @unH _ ?_; refine z9 Tryz.results87 ?_)
  exact ⟨_, rfl, RowX.nil⟩
 | some ad =>
  (refine @unH _ ?_; refine z1_30 ?_; (repeat (refine inC ?_; intro hc)); try (refine inK ?_; intro K hK))
  intro nb hnb
  have hle : H.le (H.set nb (.cells #[] 3 (0, 0))) := Hp.le_set hnb
  have hrow0 : NewRow H (H.set nb (.cells #[] 3 (0, 0))) (.slice (some ⟨nb, 0, none⟩) 0 0) 3 1 0 (ints []) := .inr ⟨nb, #[], 0, hnb, rfl, rfl, rfl, rfl, Nat.le_refl _, fun i u hi => by simp [ints] at hi⟩
  obtain ⟨b, o, sp⟩ := ad
  cases xs with
  | nil =>
   ((try (refine @unH _ ?_; refine zX y87_30 ?_)); (try (refine hK _ _ ?_; clear hK K; (try simp only [nq, ↓reduceIte, Nat.reduceEqDiff]))); refine @unH _ ?_; refine zA y87_30 ?_; (repeat (refine inC ?_; intro hc)); try (refine inK ?_; intro K hK))
   refine append_zero Tryz.underlying22 Tryz.sizeOf3 _ _ _ _ _ _ _ (Nat.le_refl _) _ _ ?_
   ((try (refine @unH _ ?_; refine zX y87_30 ?_)); (try (refine hK _ _ ?_; clear hK K; (try simp only [nq, ↓reduceIte, Nat.reduceEqDiff]))); refine @unH _ ?_; refine zA y87_30 ?_; (repeat (refine inC ?_; intro hc)); try (refine inK ?_; intro K hK))
   (refine @unH _ ?_; refine z9 Tryz.results87 ?_)
   exact ⟨_, rfl, Lex.of hle, .inr ⟨nb, #[], 0, hnb, set_at, rfl, rfl, Nat.le_refl _, fun i u hi => by simp [ints] at hi⟩⟩
  | cons x0 xs0 =>
   obtain ⟨b', o', p', c', fr', h', hb', _⟩ := hx 0 x0 rfl
   cases h'
   ((try (refine @unH _ ?_; refine zX y87_30 ?_)); (try (refine hK _ _ ?_; clear hK K; (try simp only [nq, ↓reduceIte, Nat.reduceEqDiff]))); refine @unH _ ?_; refine zA y87_30 ?_; (repeat (refine inC ?_; intro hc)); try (refine inK ?_; intro K hK))
   have hgne : b ≠ nb := ne_new hb' hnb
   refine append_ints hrow0 (Hp.le_refl _) (ys := x0 :: xs0) rfl (fun h => absurd h (by rw [hb']; simp)) (fun j y hj => ?_) (by simp at hl ⊢; omega) _ _ _ _ (fun v' H1 H2 hr hl2 => ?_)
   ·obtain ⟨b2, o2, p2, c2, fr2, e2, hb2, hc2⟩ := hx j y hj
    cases e2
    rw [cell_set_ne hgne, cell_of hb2]
    exact hc2
   ·((try (refine @unH _ ?_; refine zX y87_30 ?_)); (try (refine hK _ _ ?_; clear hK K; (try simp only [nq, ↓reduceIte, Nat.reduceEqDiff]))); refine @unH _ ?_; refine zA y87_30 ?_; (repeat (refine inC ?_; intro hc)); try (refine inK ?_; intro K hK))
    (refine @unH _ ?_; refine z9 Tryz.results87 ?_)
    refine ⟨_, rfl, ?_⟩
    have hlen := hr.len
    rcases hr with ⟨_, h0, _⟩ | ⟨b3, c3, cap3, hb3, rfl, rfl, hs3, hl3, hn3, hg3⟩
    ·simp at h0
    ·refine ⟨Lex.of (Hp.le_trans (Hp.le_set hb3) hl2), .inr ⟨b3, c3, cap3, hb3, hl2 _ _ set_at, ?_, by simpa using hs3, ?_, ?_⟩⟩
     ·simp [ints]
     ·simpa [ints] using hn3
     ·intro i u hi; exact hg3 i u (by simpa using hi)
theorem index_spec (m : Md) (H : Hp) (v : Value) (xs : List Int) (n : Int) (hv : SlI H v xs) (hl : xs.length <= 1000000) :
  FnX Tryz.prog m 165 #[v, .int .i64 n] H fun e H' => (∃ r : Int, e = .returned (.int .i64 r) /\ (0 <= r ↔ n ∈ xs)) /\ H' = H := by
 have hvS := hv
 obtain ⟨a, cap, rfl, hcap, _⟩ := hv
 refine FnX_start Tryz.func165 rfl Tryz.ntmps165 (by simp) ?_
 (refine @unH _ ?_; refine zA y165_30 ?_; (repeat (refine inC ?_; intro hc)); try (refine inK ?_; intro K hK))
 refine wpX_loop (fun w a' H' => ∃ e j, w = xs.length - j /\ j <= xs.length /\ n ∉ xs.take j /\ a' = act 19 e [] /\ e 0 = .slice a xs.length cap /\ e 1 = .int .i64 n /\ e 6 = .slice a xs.length cap /\ e 7 = .int .i64 xs.length /\ e 8 = .int .i64 (j : Nat) /\ H' = H) (n := xs.length) ?_ ?_
 ·exact ⟨_, 0, by omega, by omega, by simp, rfl, rfl, rfl, rfl, rfl, rfl, by trivial⟩
 ·rintro w a' H' ⟨e, j, rfl, hj, hnot, rfl, e0, e1, e6, e7, e8, hH⟩
  rw [hH]; clear hH H'
  by_cases hlt : j < xs.length
  ·obtain ⟨b, o, cap', p, c, fr, hve, _, hb, hx⟩ := hvS.cons (fun h => by simp [h] at hlt)
   cases hve
   have hxj := hx j xs[j] (List.getElem?_eq_getElem hlt)
   have hmem := List.getElem_mem hlt
   have hnext : n ≠ xs[j] -> n ∉ xs.take (j + 1) := fun h1 h2 => by
    rw [List.take_add_one, List.getElem?_eq_getElem hlt] at h2
    rcases List.mem_append.1 h2 with h2 | h2
    ·exact hnot h2
    ·simp at h2; exact h1 h2
   generalize xs[j] = x at hxj hmem hnext
   repeat' (first
 | (refine wpX_stmtL rfl ?_; intro K hK; simp -implicitDefEqProofs (disch := first | omega | (simp only [qd] <;> omega)) only [xq, ↓xp, qc, Nat.reduceAdd, List.range, List.range.loop, fine, Nat.reduceEqDiff, ↓reduceIte, yielded, reduceCtorEq, Nat.reduceLT, Nat.reduceMul, Nat.reduceSub, one, Nat.reduceLeDiff, runX_cons, y165_30, aq, ↓ap, qe0, qe1, qe2, *, -hK]; try (refine hK _ _ ?_; clear hK K))
 | (refine wpX_lastL rfl ?_; intro K hK; simp -implicitDefEqProofs (disch := first | omega | (simp only [qd] <;> omega)) only [xq, ↓xp, qc, Nat.reduceAdd, List.range, List.range.loop, fine, Nat.reduceEqDiff, ↓reduceIte, yielded, reduceCtorEq, Nat.reduceLT, Nat.reduceMul, Nat.reduceSub, one, Nat.reduceLeDiff, runX_cons, y165_30, aq, ↓ap, qe0, qe1, qe2, *, -hK]; try (refine hK _ _ ?_; clear hK K; (try simp only [nq, ↓reduceIte, Nat.reduceEqDiff])))
 | (refine wpX_skip ?_; (try simp only [nq, ↓reduceIte, Nat.reduceEqDiff]))
 | (refine wpX_label ?_; (try simp only [nq, ↓reduceIte, Nat.reduceEqDiff]))
 | (refine wpX_exit ?_; (try simp only [nq, ↓reduceIte, Nat.reduceEqDiff]))
 | (refine wpX_goto ?_; (try simp only [nq, ↓reduceIte, Nat.reduceEqDiff]))
 | (refine wpX_condK (by simp only [act_eval, upd_get, Nat.reduceEqDiff, Nat.reduceLT, ↓reduceIte, *]; rfl) ?_ ?_ <;> (intro hc; first | (exfalso; simp -implicitDefEqProofs (disch := omega) only [*, bq, reduceCtorEq] at hc; done) | (simp only [dq, qe3, qe4, qe5, qe6] at hc) | skip))
 | (refine wpX_scope0 ?_)
 | (refine wpX_block ?_)
 | (refine wpX_seq ?_))
   ·(refine @unH _ ?_; refine z9 Tryz.results165 ?_)
    exact ⟨⟨_, rfl, ⟨fun _ => hc ▸ hmem, fun _ => by omega⟩⟩, by trivial⟩
   ·exact ⟨_, by omega, _, j + 1, rfl, hlt, hnext hc, rfl, e0, e1, e6, e7, rfl, by trivial⟩
  ·(refine @unH _ ?_; refine zA y165_30 ?_; (repeat (refine inC ?_; intro hc)); try (refine inK ?_; intro K hK))
   (refine @unH _ ?_; refine z9 Tryz.results165 ?_)
   refine ⟨⟨_, rfl, ⟨fun h => absurd h (by omega), fun h => absurd h ?_⟩⟩, by trivial⟩
   rwa [List.take_of_length_le (by omega)] at hnot
theorem contains_spec (m : Md) (H : Hp) (v : Value) (xs : List Int) (n : Int) (hv : SlI H v xs) (hl : xs.length <= 1000000) :
  FnX Tryz.prog m 145 #[v, .int .i64 n] H fun e H' => e = .returned (.bool (decide (n ∈ xs))) /\ H' = H := by
 refine FnX_start Tryz.func145 rfl Tryz.ntmps145 (by simp) ?_
 (refine @unH _ ?_; refine z2_30 ?_; (repeat (refine inC ?_; intro hc)); try (refine inK ?_; intro K hK))
 refine (index_spec m H v xs n hv hl).runs.mono ?_
 rintro _ _ ⟨⟨r, rfl, hr⟩, rfl⟩
 ((try (refine @unH _ ?_; refine x3_30 ?_)); (try (refine hK _ _ ?_; clear hK K; (try simp only [nq, ↓reduceIte, Nat.reduceEqDiff]))); refine @unH _ ?_; refine z2_30 ?_; (repeat (refine inC ?_; intro hc)); try (refine inK ?_; intro K hK))
 (refine @unH _ ?_; refine z9 Tryz.results145 ?_)
 refine ⟨?_, by trivial⟩
 simp [hr]
def Own0 (H : Hp) (b : Nat) (cap : Nat) (xs : List Int) : Prop := ∃ c : Array Value, H b = some (true, .cells c 3 (0, 0)) /\ c.size = cap /\ xs.length <= cap /\ ∀ (i : Nat) (x : Int), xs[i]? = some x -> c[i]? = some (.int .i64 x)
def Tells (m : Md) (b : Nat) (H : Hp) (f : FuncId) (capt : List Value) (p : Int -> Bool) : Prop := ∀ (H' : Hp) (x : Int), Lex (some b) H H' -> FnX Tryz.prog m f (.int .i64 x :: capt).toArray H' fun e H'' => e = .returned (.bool (p x)) /\ H'' = H'
theorem indexFunc_spec (m : Md) (H : Hp) (b cap : Nat) (xs : List Int) (f : FuncId) (capt : List Value) (p : Int -> Bool) (hcall : ∀ (args : Array Value) (H : Hp) (K : Next -> Hp -> Prop) (E : Value -> Hp -> Prop), wpS Tryz.prog (callFunc f args) H K E = K (.enter f args) H)
  (ho : Own0 H b cap xs) (hf : Tells m b H f capt p) (hl : xs.length <= 1000000) :
  FnX Tryz.prog m 166 #[.slice (some ⟨b, 0, none⟩) xs.length cap, .func (.func f) #[] capt.toArray] H fun e H' => (∃ k : Nat, k <= xs.length /\ (∀ x ∈ xs.take k, p x = false) /\ ((k = xs.length /\ e = .returned (.int .i64 (-1))) ∨ (∃ h : k < xs.length, p xs[k] = true /\ e = .returned (.int .i64 k)))) /\ H' = H := by
 obtain ⟨c, hb, hcs, hcap, hx⟩ := ho
 refine FnX_start Tryz.func166 rfl Tryz.ntmps166 (by simp) ?_
 (refine @unH _ ?_; refine zA y166_30 ?_; (repeat (refine inC ?_; intro hc)); try (refine inK ?_; intro K hK))
 refine wpX_loop (fun w a' H' => ∃ e j, w = xs.length - j /\ j <= xs.length /\ (∀ x ∈ xs.take j, p x = false) /\ a' = act 19 e [] /\ e 0 = .slice (some ⟨b, 0, none⟩) xs.length cap /\ e 1 = .func (.func f) #[] capt.toArray /\ e 6 = .slice (some ⟨b, 0, none⟩) xs.length cap /\ e 7 = .int .i64 xs.length /\ e 8 = .int .i64 (j : Nat) /\ H' = H) (n := xs.length) ?_ ?_
 ·exact ⟨_, 0, by omega, by omega, by simp, rfl, rfl, rfl, rfl, rfl, rfl, by trivial⟩
 ·rintro w a' H' ⟨e, j, rfl, hj, hnot, rfl, e0, e1, e6, e7, e8, hH⟩
  rw [hH]; clear hH H'
  by_cases hlt : j < xs.length
  ·have hxj := hx j xs[j] (List.getElem?_eq_getElem hlt)
   have hnext : p xs[j] = false -> ∀ x ∈ xs.take (j + 1), p x = false := fun h1 x h2 => by
    rw [List.take_add_one, List.getElem?_eq_getElem hlt] at h2
    rcases List.mem_append.1 h2 with h2 | h2
    ·exact hnot x h2
    ·simp at h2; rw [h2]; exact h1
   have hpx : ∀ h : j < xs.length, p xs[j] = p xs[j] := fun _ => rfl
   generalize hxe : xs[j] = x at hxj hnext
   (refine @unH _ ?_; refine zA y166_30 ?_; (repeat (refine inC ?_; intro hc)); try (refine inK ?_; intro K hK))
   have hF := hf H x Lex.refl
   have hargs : (#[] ++ #[Value.int IntKind.i64 x] ++ capt.toArray) = (Value.int .i64 x :: capt).toArray := by simp
   rw [hargs]
   refine hF.runs.mono ?_
   rintro _ _ ⟨rfl, rfl⟩
   cases hpx' : p x
   ·((try (refine @unH _ ?_; refine zX y166_30 ?_)); (try (refine hK _ _ ?_; clear hK K; (try simp only [nq, ↓reduceIte, Nat.reduceEqDiff]))); refine @unH _ ?_; refine zA y166_30 ?_; (repeat (refine inC ?_; intro hc)); try (refine inK ?_; intro K hK))
    exact ⟨_, by omega, _, j + 1, rfl, hlt, hnext hpx', rfl, e0, e1, e6, e7, rfl, by trivial⟩
   ·((try (refine @unH _ ?_; refine zX y166_30 ?_)); (try (refine hK _ _ ?_; clear hK K; (try simp only [nq, ↓reduceIte, Nat.reduceEqDiff]))); refine @unH _ ?_; refine zA y166_30 ?_; (repeat (refine inC ?_; intro hc)); try (refine inK ?_; intro K hK))
    (refine @unH _ ?_; refine z9 Tryz.results166 ?_)
    exact ⟨⟨j, hj, hnot, .inr ⟨hlt, by rw [hxe]; exact hpx', rfl⟩⟩, by trivial⟩
  ·(refine @unH _ ?_; refine zA y166_30 ?_; (repeat (refine inC ?_; intro hc)); try (refine inK ?_; intro K hK))
   (refine @unH _ ?_; refine z9 Tryz.results166 ?_)
   have : j = xs.length := by omega
   exact ⟨⟨j, hj, hnot, .inl ⟨this, by trivial⟩⟩, by trivial⟩
theorem filter_take_succ (p : Int -> Bool) (xs : List Int) (j : Nat) (h : j < xs.length) : (xs.take (j + 1)).filter p = (xs.take j).filter p ++ (if p xs[j] then [xs[j]] else []) := by
 rw [List.take_add_one, List.getElem?_eq_getElem h, List.filter_append]
 simp [List.filter_cons]
theorem deleteFunc_spec (m : Md) (H : Hp) (b cap : Nat) (xs : List Int) (f : FuncId) (capt : List Value) (p : Int -> Bool) (hcall : ∀ (args : Array Value) (H : Hp) (K : Next -> Hp -> Prop) (E : Value -> Hp -> Prop), wpS Tryz.prog (callFunc f args) H K E = K (.enter f args) H)
  (ho : Own0 H b cap xs) (hf : Tells m b H f capt p) (hl : xs.length <= 1000000) :
  FnX Tryz.prog m 146 #[.slice (some ⟨b, 0, none⟩) xs.length cap, .func (.func f) #[] capt.toArray] H fun e H' => e = .returned (.slice (some ⟨b, 0, none⟩) (xs.filter fun x => !p x).length cap) /\ Own0 H' b cap (xs.filter fun x => !p x) /\ ∃ o, H' = H.set b o := by
 have hoS := ho
 obtain ⟨c, hb, hcs, hcap, hx⟩ := ho
 refine FnX_start Tryz.func146 rfl Tryz.ntmps146 (by simp) ?_
 (refine @unH _ ?_; refine zA y146_30 ?_; (repeat (refine inC ?_; intro hc)); try (refine inK ?_; intro K hK))
 refine (indexFunc_spec m H b cap xs f capt p hcall hoS hf hl).runs.mono ?_
 rintro _ H2 ⟨⟨k, hk, hkp, hk'⟩, hH2⟩
 rw [hH2]; clear hH2 H2
 have hfk : (xs.take k).filter (fun x => !p x) = xs.take k := List.filter_eq_self.2 fun x hx => by rw [hkp x hx]; rfl
 rcases hk' with ⟨hke, rfl⟩ | ⟨hlt, hpk, rfl⟩
 ·have hall : xs.filter (fun x => !p x) = xs := by have h9 := hfk; rw [hke, List.take_length] at h9; exact h9
  ((try (refine @unH _ ?_; refine zX y146_30 ?_)); (try (refine hK _ _ ?_; clear hK K; (try simp only [nq, ↓reduceIte, Nat.reduceEqDiff]))); refine @unH _ ?_; refine zA y146_30 ?_; (repeat (refine inC ?_; intro hc)); try (refine inK ?_; intro K hK))
  (refine @unH _ ?_; refine z9 Tryz.results146 ?_)
  rw [hall]
  exact ⟨by trivial, hoS, _, (set_self hb).symm⟩
 ·((try (refine @unH _ ?_; refine zX y146_30 ?_)); (try (refine hK _ _ ?_; clear hK K; (try simp only [nq, ↓reduceIte, Nat.reduceEqDiff]))); refine @unH _ ?_; refine zA y146_30 ?_; (repeat (refine inC ?_; intro hc)); try (refine inK ?_; intro K hK))
  refine wpX_loop (fun w a' H' => ∃ e j, ∃ c' : Array Value, w = xs.length - j /\ j <= xs.length /\ k < j /\ c'.size = cap /\ ((xs.take j).filter fun x => !p x).length < j /\ (∀ (i : Nat) (x : Int), ((xs.take j).filter fun x => !p x)[i]? = some x -> c'[i]? = some (.int .i64 x)) /\ (∀ (i : Nat) (x : Int), j <= i -> xs[i]? = some x -> c'[i]? = some (.int .i64 x)) /\
   a' = act 42 e [] /\ e 0 = .slice (some ⟨b, 0, none⟩) xs.length cap /\ e 1 = .func (.func f) #[] capt.toArray /\ e 5 = .int .i64 (((xs.take j).filter fun x => !p x).length : Nat) /\ e 6 = .int .i64 (j : Nat) /\ H' = H.set b (.cells c' 3 (0, 0))) (n := xs.length - (k + 1)) ?_ ?_
  ·have hft : ((xs.take (k + 1)).filter fun x => !p x) = xs.take k := by
    rw [filter_take_succ _ _ _ hlt, hfk, hpk]; simp
   refine ⟨_, k + 1, c, rfl, hlt, by omega, hcs, ?_, ?_, fun i x _ h => hx i x h, rfl, rfl, rfl, ?_, rfl, (set_self hb).symm⟩
   ·rw [hft]; simp; omega
   ·rw [hft]
    intro i x h
    have hik : i < k := by
     have := (List.getElem?_eq_some_iff.1 h).1
     simp at this; omega
    rw [List.getElem?_take_of_lt hik] at h
    exact hx i x h
   ·rw [hft]
    simp only [List.length_take]
    show Value.int .i64 _ = Value.int .i64 _
    congr 1
    omega
  ·rintro w a' H' ⟨e, j, c', rfl, hj, hkj, hcs', hfl, hc1, hc2, rfl, e0, e1, e5, e6, hH⟩
   rw [hH]; clear hH H'
   have hb' : (H.set b (.cells c' 3 (0, 0))) b = some (true, .cells c' 3 (0, 0)) := set_at
   have hlexb : Lex (some b) H (H.set b (.cells c' 3 (0, 0))) := Lex.refl.set
   by_cases hlt2 : j < xs.length
   ·have hxj := hc2 j xs[j] (Nat.le_refl _) (List.getElem?_eq_getElem hlt2)
    have hsucc := filter_take_succ (fun x => !p x) xs j hlt2
    generalize hxe : xs[j] = x at hxj hsucc
    generalize hfe : (xs.take j).filter (fun x => !p x) = fs at hfl hc1 hsucc e5
    (refine @unH _ ?_; refine zA y146_30 ?_; (repeat (refine inC ?_; intro hc)); try (refine inK ?_; intro K hK))
    have hargs : (#[] ++ #[Value.int IntKind.i64 x] ++ capt.toArray) = (Value.int .i64 x :: capt).toArray := by simp
    rw [hargs]
    refine (hf _ x hlexb).runs.mono ?_
    rintro _ H2 ⟨rfl, hH2⟩
    rw [hH2]; clear hH2 H2
    cases hpx : p x
    ·rw [hpx] at hsucc
     simp only [Bool.not_false, if_true] at hsucc
     have hfc : fs.length < cap := by omega
     ((try (refine @unH _ ?_; refine zX y146_30 ?_)); (try (refine hK _ _ ?_; clear hK K; (try simp only [nq, ↓reduceIte, Nat.reduceEqDiff]))); refine @unH _ ?_; refine zA y146_30 ?_; (repeat (refine inC ?_; intro hc)); try (refine inK ?_; intro K hK))
     refine ⟨_, ?_, _, j + 1, c'.setIfInBounds fs.length (.int .i64 x), rfl, hlt2, by omega, by simp [hcs'], ?_, ?_, ?_, rfl, e0, e1, ?_, rfl, rfl⟩
     ·omega
     ·rw [hsucc]; simp; omega
     ·rw [hsucc]
      intro i y hi
      by_cases hif : i < fs.length
      ·rw [List.getElem?_append_left hif] at hi
       rw [Array.getElem?_setIfInBounds_ne (by omega)]
       exact hc1 i y hi
      ·have h1 := (List.getElem?_eq_some_iff.1 hi).1
       simp at h1
       obtain rfl : i = fs.length := by omega
       rw [List.getElem?_append_right (Nat.le_refl _)] at hi
       simp at hi
       subst hi
       simp [hcs', hfc]
     ·intro i y hi hy
      rw [Array.getElem?_setIfInBounds_ne (by omega)]
      exact hc2 i y (by omega) hy
     ·rw [hsucc]
      simp only [List.length_append, List.length_cons, List.length_nil]
      rfl
    ·rw [hpx] at hsucc
     simp only [Bool.not_true, Bool.false_eq_true, if_false, List.append_nil] at hsucc
     ((try (refine @unH _ ?_; refine zX y146_30 ?_)); (try (refine hK _ _ ?_; clear hK K; (try simp only [nq, ↓reduceIte, Nat.reduceEqDiff]))); refine @unH _ ?_; refine zA y146_30 ?_; (repeat (refine inC ?_; intro hc)); try (refine inK ?_; intro K hK))
     exact ⟨_, by omega, _, j + 1, c', rfl, hlt2, by omega, hcs', by rw [hsucc]; omega, by rw [hsucc]; exact hc1, fun i y h1 h2 => hc2 i y (by omega) h2, rfl, e0, e1, by rw [hsucc]; exact e5, rfl, rfl⟩
   ·obtain rfl : j = xs.length := by omega
    rw [List.take_length] at hfl hc1 e5
    generalize hfe : xs.filter (fun x => !p x) = fs at hfl hc1 e5
    have hcne : ¬ cap = fs.length := by omega
    (refine @unH _ ?_; refine zA y146_30 ?_; (repeat (refine inC ?_; intro hc)); try (refine inK ?_; intro K hK))
    refine clear_slice Tryz.underlying22 Tryz.zeroValue3 rfl _ _ _ _ _ _ hb' (by rw [hcs']; omega) _ _ ?_
    ((try (refine @unH _ ?_; refine zX y146_30 ?_)); (try (refine hK _ _ ?_; clear hK K; (try simp only [nq, ↓reduceIte, Nat.reduceEqDiff]))); refine @unH _ ?_; refine zA y146_30 ?_; (repeat (refine inC ?_; intro hc)); try (refine inK ?_; intro K hK))
    (refine @unH _ ?_; refine z9 Tryz.results146 ?_)
    refine ⟨by trivial, ⟨_, set_at, by rw [over_size, hcs'], by omega, ?_⟩, _, rfl⟩
    intro i x hi
    have h1 := (List.getElem?_eq_some_iff.1 hi).1
    rw [over_get i (by rw [hcs']; omega), if_neg (by omega)]
    exact hc1 i x hi
end Go.Proofs.YtofmadjgbcopdaaGreatDoor
end
section
namespace Go.Proofs.YtofmadjgbcopdaaGreatDoor
open Go Go.X
def y193_31 := And.intro (fun H => fieldAt_eq (H := H) Tryz.underlying172 (i := 0) rfl (off := 0) rfl Tryz.sizeOf170) (And.intro (fun H => indexAt_array (H := H) Tryz.underlying170 Tryz.sizeOf3) (fun H => loadAt_one (H := H) Tryz.underlying3 rfl))
def y194_31 := And.intro (fun H => fieldAt_eq (H := H) Tryz.underlying172 (i := 1) rfl (off := 6) rfl Tryz.sizeOf170) (And.intro (fun H => indexAt_array (H := H) Tryz.underlying170 Tryz.sizeOf3) (fun H => loadAt_one (H := H) Tryz.underlying3 rfl))
def y195_31 := And.intro (fun H => fieldAt_eq (H := H) Tryz.underlying172 (i := 2) rfl (off := 12) rfl Tryz.sizeOf170) (And.intro (fun H => indexAt_array (H := H) Tryz.underlying170 Tryz.sizeOf3) (fun H => loadAt_one (H := H) Tryz.underlying3 rfl))
def rankF (r : Int) (came asked later : List Int) (p : Int) : Int :=
 if r = 0 then p else if r = 1 then came.getD p.toNat 0 else if r = 2 then asked.getD p.toNat 0 else - later.getD p.toNat 0
abbrev histO (came asked later : List Int) : Obj := .cells (ints (came ++ (asked ++ later))).toArray 172 (0, 0)
theorem hist_cell {came asked later : List Int} (h1 : came.length = 6) (h2 : asked.length = 6) (h3 : later.length = 6) (p : Int) (h0 : 0 <= p) (h6 : p < 6) :
  (ints (came ++ (asked ++ later)))[p.toNat]? = some (.int .i64 (came.getD p.toNat 0)) /\ (ints (came ++ (asked ++ later)))[6 + p.toNat]? = some (.int .i64 (asked.getD p.toNat 0)) /\ (ints (came ++ (asked ++ later)))[12 + p.toNat]? = some (.int .i64 (later.getD p.toNat 0)) := by
 have key : ∀ (k : Nat) (xs : List Int), (came ++ (asked ++ later))[k]? = xs[p.toNat]? -> k < 18 -> (ints (came ++ (asked ++ later)))[k]? = some (.int .i64 (xs.getD p.toNat 0)) := fun k xs he hk => by
  have hl : k < (came ++ (asked ++ later)).length := by simp; omega
  rw [ints_get (List.getElem?_eq_getElem hl)]
  rw [List.getElem?_eq_getElem hl] at he
  simp only [List.getD, <- he, Option.getD_some]
 refine ⟨key _ _ ?_ (by omega), key _ _ ?_ (by omega), key _ _ ?_ (by omega)⟩
 ·rw [List.getElem?_append_left (by omega)]
 ·rw [List.getElem?_append_right (by omega), List.getElem?_append_left (by omega)]
  congr 1; omega
 ·rw [List.getElem?_append_right (by omega), List.getElem?_append_right (by omega)]
  congr 1; omega
theorem quiet_le {P : Program} {main : Md} {H : Hp} {f : FuncId} {args : Array Value} {v : Value} (h : FnX P main f args H fun e H' => e = .returned v /\ H.le H') : Runs P main (Frame.enter P f args .normal) H fun
  | .returned u, H₁ => u = v /\ H₁ = H
  | _, _ => False :=
 h.runs.less fun e H₁ he => by obtain ⟨rfl, hl⟩ := he; exact ⟨H, hl, rfl, rfl⟩
theorem low_spec (m : Md) (H : Hp) (p : Int) (h : Value) :
  FnX Tryz.prog m 192 #[.agg #[], .int .i64 p, h] H fun e H' => e = .returned (.int .i64 p) /\ H.le H' := by
 refine FnX_start Tryz.func192 rfl Tryz.ntmps192 (by simp) ?_
 (refine @unH _ ?_; refine zA trivial ?_; (repeat (refine inC ?_; intro hc)); try (refine inK ?_; intro K hK))
 (intro rb hrb; generalize hG : Hp.set _ rb _ = H1; have lH1 := le_of_set hG hrb; have vrb := at_of_set hG; clear hG)
 ((try (refine @unH _ ?_; refine zX trivial ?_)); (try (refine hK _ _ ?_; clear hK K; (try simp only [nq, ↓reduceIte, Nat.reduceEqDiff]))); refine @unH _ ?_; refine zA trivial ?_; (repeat (refine inC ?_; intro hc)); try (refine inK ?_; intro K hK))
 (refine @unH _ ?_; refine z9 Tryz.results192 ?_)
 exact ⟨by trivial, lH1⟩
theorem old_spec (m : Md) (H : Hp) (p : Int) (hb : Nat) (came asked later : List Int) (h1 : came.length = 6) (h2 : asked.length = 6) (h3 : later.length = 6) (h0 : 0 <= p) (h6 : p < 6) (hH : H hb = some (true, histO came asked later)) :
  FnX Tryz.prog m 193 #[.agg #[], .int .i64 p, .pointer (some ⟨hb, 0, none⟩)] H fun e H' => e = .returned (.int .i64 (came.getD p.toNat 0)) /\ H.le H' := by
 obtain ⟨c1, c2, c3⟩ := hist_cell h1 h2 h3 p h0 h6
 refine FnX_start Tryz.func193 rfl Tryz.ntmps193 (by simp) ?_
 (refine @unH _ ?_; refine zA y193_31 ?_; (repeat (refine inC ?_; intro hc)); try (refine inK ?_; intro K hK))
 (intro rb hrb; generalize hG : Hp.set _ rb _ = H1; have lH1 := le_of_set hG hrb; have vrb := at_of_set hG; clear hG)
 have hH1 := lH1 _ _ hH
 ((try (refine @unH _ ?_; refine zX y193_31 ?_)); (try (refine hK _ _ ?_; clear hK K; (try simp only [nq, ↓reduceIte, Nat.reduceEqDiff]))); refine @unH _ ?_; refine zA y193_31 ?_; (repeat (refine inC ?_; intro hc)); try (refine inK ?_; intro K hK))
 (refine @unH _ ?_; refine z9 Tryz.results193 ?_)
 exact ⟨by trivial, lH1⟩
theorem stale_spec (m : Md) (H : Hp) (p : Int) (hb : Nat) (came asked later : List Int) (h1 : came.length = 6) (h2 : asked.length = 6) (h3 : later.length = 6) (h0 : 0 <= p) (h6 : p < 6) (hH : H hb = some (true, histO came asked later)) :
  FnX Tryz.prog m 194 #[.agg #[], .int .i64 p, .pointer (some ⟨hb, 0, none⟩)] H fun e H' => e = .returned (.int .i64 (asked.getD p.toNat 0)) /\ H.le H' := by
 obtain ⟨c1, c2, c3⟩ := hist_cell h1 h2 h3 p h0 h6
 refine FnX_start Tryz.func194 rfl Tryz.ntmps194 (by simp) ?_
 (refine @unH _ ?_; refine zA y194_31 ?_; (repeat (refine inC ?_; intro hc)); try (refine inK ?_; intro K hK))
 (intro rb hrb; generalize hG : Hp.set _ rb _ = H1; have lH1 := le_of_set hG hrb; have vrb := at_of_set hG; clear hG)
 have hH1 := lH1 _ _ hH
 ((try (refine @unH _ ?_; refine zX y194_31 ?_)); (try (refine hK _ _ ?_; clear hK K; (try simp only [nq, ↓reduceIte, Nat.reduceEqDiff]))); refine @unH _ ?_; refine zA y194_31 ?_; (repeat (refine inC ?_; intro hc)); try (refine inK ?_; intro K hK))
 (refine @unH _ ?_; refine z9 Tryz.results194 ?_)
 exact ⟨by trivial, lH1⟩
theorem late_spec (m : Md) (H : Hp) (p : Int) (hb : Nat) (came asked later : List Int) (h1 : came.length = 6) (h2 : asked.length = 6) (h3 : later.length = 6) (hl : ∀ x ∈ later, 0 <= x /\ x <= 1000) (h0 : 0 <= p) (h6 : p < 6) (hH : H hb = some (true, histO came asked later)) :
  FnX Tryz.prog m 195 #[.agg #[], .int .i64 p, .pointer (some ⟨hb, 0, none⟩)] H fun e H' => e = .returned (.int .i64 (- later.getD p.toNat 0)) /\ H.le H' := by
 obtain ⟨c1, c2, c3⟩ := hist_cell h1 h2 h3 p h0 h6
 have hlp : 0 <= later.getD p.toNat 0 /\ later.getD p.toNat 0 <= 1000 := by
  simp [List.getD, List.getElem?_eq_getElem (show p.toNat < later.length by omega)]
  exact hl _ (List.getElem_mem _)
 refine FnX_start Tryz.func195 rfl Tryz.ntmps195 (by simp) ?_
 (refine @unH _ ?_; refine zA y195_31 ?_; (repeat (refine inC ?_; intro hc)); try (refine inK ?_; intro K hK))
 (intro rb hrb; generalize hG : Hp.set _ rb _ = H1; have lH1 := le_of_set hG hrb; have vrb := at_of_set hG; clear hG)
 have hH1 := lH1 _ _ hH
 ((try (refine @unH _ ?_; refine zX y195_31 ?_)); (try (refine hK _ _ ?_; clear hK K; (try simp only [nq, ↓reduceIte, Nat.reduceEqDiff]))); refine @unH _ ?_; refine zA y195_31 ?_; (repeat (refine inC ?_; intro hc)); try (refine inK ?_; intro K hK))
 (refine @unH _ ?_; refine z9 Tryz.results195 ?_)
 exact ⟨by simp, lH1⟩
end Go.Proofs.YtofmadjgbcopdaaGreatDoor
end
section
namespace Go.Proofs.YtofmadjgbcopdaaGreatDoor
open Go Go.X
def y130_32 := And.intro (fun H => fieldAt_eq (H := H) Tryz.underlying172 (i := 2) rfl (off := 12) rfl Tryz.sizeOf170) (And.intro (fun H => slice_arr (H := H) Tryz.underlying170 Tryz.sizeOf3) (And.intro (fun H => slice_arr_hi (H := H) Tryz.underlying170 Tryz.sizeOf3) (And.intro (fun H => fieldAt_eq (H := H) Tryz.underlying175 (i := 1) rfl (off := 4) rfl Tryz.sizeOf22) (And.intro (fun H => loadAt_one (H := H) Tryz.underlying22 rfl) (And.intro (fun H => len_slice (H := H) Tryz.underlying22) (And.intro (fun H => indexAt_array (H := H) Tryz.underlying170 Tryz.sizeOf3) (And.intro (fun H => storeAt_int (H := H) Tryz.sizeOf3) (And.intro (fun H => indexAt_slice (H := H) Tryz.underlying22 Tryz.sizeOf3) (fun H => loadAt_one (H := H) Tryz.underlying3 rfl)))))))))
def nxt (ts : List Int) (k : Nat) (p : Int) : Nat := k + (ts.drop k).findIdx (· == p)
theorem nxt_step (ts : List Int) (k : Nat) (p : Int) (h : k < ts.length) : nxt ts k p = if ts[k] = p then k else nxt ts (k + 1) p := by
 unfold nxt
 rw [List.drop_eq_getElem_cons h, List.findIdx_cons]
 by_cases e : ts[k] = p
 ·simp [e]
 ·have : (ts[k] == p) = false := by simpa using e
  rw [this, if_neg e]
  simp only [cond_false]
  omega
theorem nxt_end (ts : List Int) (p : Int) : nxt ts ts.length p = ts.length := by
 unfold nxt; simp
theorem nxt_le (ts : List Int) (k : Nat) (p : Int) (h : k <= ts.length) : nxt ts k p <= ts.length := by
 unfold nxt
 have := List.findIdx_le_length (xs := ts.drop k) (p := (· == p))
 simp at this
 omega
def laterL (ts : List Int) (k : Nat) : List Int := (List.range 6).map fun p : Nat => (nxt ts k (p : Int) : Int)
theorem laterL_len (ts : List Int) (k : Nat) : (laterL ts k).length = 6 := by simp [laterL]
theorem laterL_get (ts : List Int) (k : Nat) (p : Int) (h0 : 0 <= p) (h6 : p < 6) : (laterL ts k).getD p.toNat 0 = nxt ts k p := by
 have : (p.toNat : Int) = p := by omega
 simp [laterL, List.getD, List.getElem?_map, List.getElem?_range (show p.toNat < 6 by omega), this]
theorem laterL_set (ts : List Int) (k : Nat) (h : k < ts.length) (h0 : 0 <= ts[k]) (h6 : ts[k] < 6) : (laterL ts (k + 1)).set (ts[k]).toNat (k : Int) = laterL ts k := by
 apply List.ext_getElem
 ·simp [laterL]
 ·intro i h1 h2
  simp only [laterL, List.getElem_map, List.getElem_range, List.getElem_set]
  rw [nxt_step ts k _ h]
  by_cases e : (ts[k]).toNat = i
  ·rw [if_pos e, if_pos (by omega)]
  ·rw [if_neg e, if_neg (by omega)]
theorem hist_set {came asked later : List Int} (h1 : came.length = 6) (h2 : asked.length = 6) (p : Nat) (x : Int) :
  (ints (came ++ (asked ++ later))).set (12 + p) (.int .i64 x) = ints (came ++ (asked ++ later.set p x)) := by
 rw [ints_setL, List.set_append_right _ _ (by omega), List.set_append_right _ _ (by omega)]
 congr 5; omega
theorem hist_set1 {came asked later : List Int} (h1 : came.length = 6) (p : Nat) (hp : p < 6) (x : Int) :
  (ints (came ++ (asked ++ later))).set p (.int .i64 x) = ints (came.set p x ++ (asked ++ later)) := by
 rw [ints_setL, List.set_append_left _ _ (by omega)]
theorem hist_set2 {came asked later : List Int} (h1 : came.length = 6) (h2 : asked.length = 6) (p : Nat) (hp : p < 6) (x : Int) :
  (ints (came ++ (asked ++ later))).set (6 + p) (.int .i64 x) = ints (came ++ (asked.set p x ++ later)) := by
 rw [ints_setL, List.set_append_right _ _ (by omega), List.set_append_left _ _ (by omega)]
 congr 4; omega
theorem hist_len {came asked later : List Int} (h1 : came.length = 6) (h2 : asked.length = 6) (h3 : later.length = 6) : (ints (came ++ (asked ++ later))).length = 18 := by
 simp [ints]; omega
theorem over_hist {came asked later : List Int} (h1 : came.length = 6) (h2 : asked.length = 6) (h3 : later.length = 6) :
  over (ints (came ++ (asked ++ later))).toArray 12 (List.replicate 6 (.int .i64 0)) = (ints (came ++ (asked ++ List.replicate 6 0))).toArray := by
 have hl := hist_len h1 h2 h3
 rw [over_list _ _ _ (by simp [hl])]
 congr 1
 have ht : (came ++ (asked ++ later)).take 12 = came ++ asked := by rw [<- List.append_assoc, List.take_left' (by simp; omega)]
 have hd : (came ++ (asked ++ later)).drop (12 + (List.replicate 6 (Value.int .i64 0)).length) = [] := List.drop_of_length_le (by simp; omega)
 unfold ints
 rw [<- List.map_take, <- List.map_drop, ht, hd]
 simp
theorem look_spec (main : Md) (H : Hp) (db : Nat) (places pieces : Int) (sv cv tv : Value) (ts : List Int) (mb : Nat) (hdb : H db = some (true, dayO places pieces sv cv tv mb)) (hts : SlI H tv ts) (hb : Nat) (came asked later : List Int) (h1 : came.length = 6) (h2 : asked.length = 6) (h3 : later.length = 6)
  (hhb : H hb = some (true, histO came asked later)) (hne : hb ≠ db) (hl : ts.length <= 1000) (h6 : ∀ t ∈ ts, 0 <= t /\ t < 6) (i : Nat) (hi : i < ts.length) :
  FnX Tryz.prog main 130 #[.pointer (some ⟨db, 0, none⟩), .pointer (some ⟨hb, 0, none⟩), .int .i64 i] H fun e H' => e = .returned (.tuple #[]) /\ H' = H.set hb (histO came asked (laterL ts (i + 1))) := by
 have htsS := hts
 obtain ⟨ta, tc, rfl, htc, _⟩ := hts
 have hne' := hne.symm
 have hlen18 := hist_len h1 h2 h3
 refine FnX_start Tryz.func130 rfl Tryz.ntmps130 (by simp) ?_
 (refine @unH _ ?_; refine zA y130_32 ?_; (repeat (refine inC ?_; intro hc)); try (refine inK ?_; intro K hK))
 refine clear_slice (by kernel_rfl) Tryz.zeroValue3 rfl _ _ _ _ _ _ hhb (by simp [hlen18]) _ _ ?_
 ((try (refine @unH _ ?_; refine zX y130_32 ?_)); (try (refine hK _ _ ?_; clear hK K; (try simp only [nq, ↓reduceIte, Nat.reduceEqDiff]))); refine @unH _ ?_; refine zA y130_32 ?_; (repeat (refine inC ?_; intro hc)); try (refine inK ?_; intro K hK))
 refine wpX_loop (fun w a' H' => ∃ e j L, w = 6 - j /\ j <= 6 /\ L.length = 6 /\ (∀ k : Nat, k < j -> L[k]? = some (ts.length : Int)) /\ a' = act 49 e [] /\ e 0 = .pointer (some ⟨db, 0, none⟩) /\ e 1 = .pointer (some ⟨hb, 0, none⟩) /\ e 2 = .int .i64 i /\ e 12 = .int .i64 (j : Nat) /\ H' = H.set hb (histO came asked L)) (n := 6) ?_ ?_
 ·refine ⟨_, 0, List.replicate 6 0, rfl, by omega, by simp, fun k hk => by omega, rfl, rfl, rfl, rfl, rfl, ?_⟩
  congr 1
  simp only [histO]
  rw [over_hist h1 h2 h3]
 ·rintro w a' H' ⟨e, j, L, rfl, hj, hL, hLj, rfl, e0, e1, e2, e12, hH⟩
  have vh : (H.set hb (histO came asked L)) hb = some (true, histO came asked L) := set_at
  have vd : (H.set hb (histO came asked L)) db = some (true, dayO places pieces sv cv (.slice ta ts.length tc) mb) := by rw [set_ne hne.symm]; exact hdb
  rw [hH]; clear hH H'
  have hlen18 := hist_len h1 h2 hL
  by_cases hlt : j < 6
  ·(refine @unH _ ?_; refine zA y130_32 ?_; (repeat (refine inC ?_; intro hc)); try (refine inK ?_; intro K hK))
   (refine wpX_dst1 10 [(true, 0), (true, 1), (true, 2), (true, 3), (true, 4), (true, 5), (true, 6), (true, 7), (true, 8), (true, 9), (false, 10)] (by kernel_rfl) (by kernel_rfl) (by simp) (by kernel_rfl) ?_; intro K hK; (iterate 10 (refine @unH _ ?_; refine z3 y130_32 ?_)); refine plan_tail ?_; (refine @unH _ ?_; refine zX y130_32 ?_); try (refine hK _ _ ?_; clear hK K; (try simp only [nq, ↓reduceIte, Nat.reduceEqDiff])))
   (refine @unH _ ?_; refine zA y130_32 ?_; (repeat (refine inC ?_; intro hc)); try (refine inK ?_; intro K hK))
   refine ⟨_, by omega, _, j + 1, L.set j ts.length, rfl, hlt, by simp [hL], ?_, rfl, e0, e1, e2, rfl, ?_⟩
   ·intro k hk
    rw [List.getElem?_set]
    split
    ·rename_i hjk; subst hjk; rw [if_pos (by omega)]
    ·exact hLj k (by omega)
   ·rw [hist_set h1 h2]
  ·obtain rfl : j = 6 := by omega
   have hLL : L = laterL ts ts.length := by
    apply List.ext_getElem?
    intro k
    by_cases hk : k < 6
    ·rw [hLj k hk]
     simp only [laterL, List.getElem?_map, List.getElem?_range hk, Option.map_some, nxt_end]
    ·rw [List.getElem?_eq_none (by omega), List.getElem?_eq_none (by rw [laterL_len]; omega)]
   rw [hLL] at vh vd ⊢
   clear hLj hLL hL L hlen18
   (refine @unH _ ?_; refine zA y130_32 ?_; (repeat (refine inC ?_; intro hc)); try (refine inK ?_; intro K hK))
   refine wpX_loop (fun w a' H' => ∃ e k, w = k - (i + 1) /\ i + 1 <= k /\ k <= ts.length /\ a' = act 49 e [] /\ e 0 = .pointer (some ⟨db, 0, none⟩) /\ e 1 = .pointer (some ⟨hb, 0, none⟩) /\ e 2 = .int .i64 i /\ e 7 = .int .i64 ((k : Nat) - 1 : Int) /\ H' = H.set hb (histO came asked (laterL ts k))) (n := ts.length - (i + 1)) ?_ ?_
   ·exact ⟨_, ts.length, rfl, by omega, by omega, rfl, e0, e1, e2, rfl, rfl⟩
   ·rintro w a' H' ⟨e, k, rfl, hki, hkl, rfl, e0, e1, e2, e7, hH⟩
    have hlen18 := hist_len h1 h2 (laterL_len ts k)
    have hts' : SlI (H.set hb (histO came asked (laterL ts k))) (.slice ta ts.length tc) ts := htsS.set (fun p c fr h => by rw [hhb] at h; cases h)
    have vh : (H.set hb (histO came asked (laterL ts k))) hb = some (true, histO came asked (laterL ts k)) := set_at
    have vd : (H.set hb (histO came asked (laterL ts k))) db = some (true, dayO places pieces sv cv (.slice ta ts.length tc) mb) := by rw [set_ne hne']; exact hdb
    rw [hH]; clear hH H'
    by_cases hlt : i + 1 < k
    ·obtain ⟨b, o, cap', p, c, fr, hve, _, hb', hx⟩ := hts'.cons (fun h => absurd (congrArg List.length h) (by simp only [List.length_nil]; omega))
     cases hve
     have hxk := hx (k - 1) (ts[k - 1]'(by omega)) (List.getElem?_eq_getElem (by omega))
     have hset := laterL_set ts (k - 1) (by omega) (h6 _ (List.getElem_mem _)).1 (h6 _ (List.getElem_mem _)).2
     have hbnd := h6 _ (List.getElem_mem (show k - 1 < ts.length by omega))
     have hk1 : k - 1 + 1 = k := by omega
     have hkc : ((k : Int) - 1).toNat = k - 1 := by omega
     have hkc2 : ((k - 1 : Nat) : Int) = (k : Int) - 1 := by omega
     rw [hk1, hkc2] at hset
     generalize ts[k - 1]'(by omega) = t at hxk hset hbnd
     generalize hGG : H.set hb (histO came asked (laterL ts k)) = HH at *
     (refine @unH _ ?_; refine zA y130_32 ?_; (repeat (refine inC ?_; intro hc)); try (refine inK ?_; intro K hK))
     (refine wpX_dst1 12 [(true, 0), (true, 1), (true, 2), (true, 3), (true, 4), (true, 5), (true, 6), (true, 7), (true, 8), (true, 9), (true, 10), (true, 11), (false, 12)] (by kernel_rfl) (by kernel_rfl) (by simp) (by kernel_rfl) ?_; intro K hK; (iterate 12 (refine @unH _ ?_; refine z3 y130_32 ?_)); refine plan_tail ?_; (refine @unH _ ?_; refine zX y130_32 ?_); try (refine hK _ _ ?_; clear hK K; (try simp only [nq, ↓reduceIte, Nat.reduceEqDiff])))
     (refine @unH _ ?_; refine zA y130_32 ?_; (repeat (refine inC ?_; intro hc)); try (refine inK ?_; intro K hK))
     refine ⟨_, ?_, _, k - 1, rfl, by omega, by omega, rfl, e0, e1, e2, ?_, ?_⟩
     ·omega
     ·show Value.int .i64 _ = Value.int .i64 _
      congr 1; omega
     ·rw [<- hGG, set_set, hist_set h1 h2, hset]
    ·obtain rfl : k = i + 1 := by omega
     (refine @unH _ ?_; refine zA y130_32 ?_; (repeat (refine inC ?_; intro hc)); try (refine inK ?_; intro K hK))
     (refine @unH _ ?_; refine zD Tryz.results130 ?_)
     exact ⟨rfl, rfl⟩
end Go.Proofs.YtofmadjgbcopdaaGreatDoor
end
