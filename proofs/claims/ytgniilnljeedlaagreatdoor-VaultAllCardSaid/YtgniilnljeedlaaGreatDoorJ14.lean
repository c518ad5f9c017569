/- Texts Both Look Run. -/
import Derived.Test.YtgniilnljeedlaaGreatDoorJ13
set_option linter.defProp false
set_option linter.unusedSimpArgs false
set_option linter.unusedVariables false
set_option maxRecDepth 100000
set_option maxHeartbeats 2000000
section
namespace Go.X
open Go
open Go.Conc (G base)
def both (K : Act -> Hp -> Prop) (E : List PanicEntry -> Act -> Hp -> Prop) : Exit -> Act -> Hp -> Prop
 | .normal, a, H => K a H
 | .panic ch, a, H => E ch a H
 | _, _, _ => False
section
variable {P : Program} {main : Md} {lp : Option Nat} {Q : Exit -> Act -> Hp -> Prop} {a : Act} {H : Hp}
theorem Ckd {K : Act -> Hp -> Prop} {E : List PanicEntry -> Act -> Hp -> Prop} : both K E .normal a H = K a H := rfl
theorem Cke {K : Act -> Hp -> Prop} {E : List PanicEntry -> Act -> Hp -> Prop} {ch : List PanicEntry} : both K E (.panic ch) a H = E ch a H := rfl
theorem Bkz {ops : Array Oper} {K : Act -> Hp -> Prop} {E : List PanicEntry -> Act -> Hp -> Prop} (hE : ∀ c a H, E c a H -> Q (.panic c) a H) (hK : ∀ a H, K a H -> Q .normal a H) :
  ∀ {todo : List Nat} {a : Act} {H : Hp}, runX P main lp ops (both K E) todo a H -> runX P main lp ops Q todo a H
 | [], _, _, h => hK _ _ h
 | _ :: _, _, _, h => Bjh (fun c a H h => hE c a H h) (fun _ _ h => Bkz hE hK h) h
theorem Cwh {id : Nat} {ops : List Oper} {ds : List (Option Tmp)} {y : Code} (hds : ops.map (·.dst) = ds)
  (h : ∀ (K : Act -> Hp -> Prop) (E : List PanicEntry -> Act -> Hp -> Prop), (∀ a' H', wpX P main lp y Q a' H' -> K a' H') -> (∀ ch a' H', Q (.panic ch) a' H' -> E ch a' H') -> runL P main lp ds (both K E) ops a H) :
  wpX P main lp (.seq (.region id ops.toArray false) y) Q a H :=
 Aql (Bzx (Bkz (fun _ _ _ h => h) (fun _ _ h => h) (Bzu hds (h _ _ (fun _ _ h => h) fun _ _ _ h => h))))
theorem Cwf {id : Nat} {ops : List Oper} {ds : List (Option Tmp)} (hds : ops.map (·.dst) = ds)
  (h : ∀ (K : Act -> Hp -> Prop) (E : List PanicEntry -> Act -> Hp -> Prop), (∀ a' H', Q .normal a' H' -> K a' H') -> (∀ ch a' H', Q (.panic ch) a' H' -> E ch a' H') -> runL P main lp ds (both K E) ops a H) :
  wpX P main lp (.region id ops.toArray false) Q a H :=
 Bzx (Bkz (fun _ _ _ h => h) (fun _ _ h => h) (Bzu hds (h _ _ (fun _ _ h => h) fun _ _ _ h => h)))
section
variable {ρ : Operand -> Value} {d : Option Tmp} {ty : TypeId} {pos : String} {af : Array Edge} {g : Option (Nat × Bool)} {K : Next -> Hp -> Prop} {E : Value -> Hp -> Prop}
theorem Cyl (x : Operand) : wpS P (execOp ρ ⟨d, .panic x, ty, pos, af, g⟩) H K E = wpS P (Instr.panic (ρ x)) H (fun v H' => K (.value v) H') E := Aqb _ _ _ _
end
theorem Cqt {t : TypeId} {v : Value} {K : Value -> Hp -> Prop} {E : Value -> Hp -> Prop} : wpS P (Instr.panic (.iface t v)) H K E = E (.iface t v) H := rfl
end
end Go.X
end
section
namespace Go.Proofs.YtgniilnljeedlaaGreatDoor
open Go Go.X
def Akg := And.intro (fun H => Aqh (H := H) Tryz.underlying147 (i := 2) rfl (off := 12) rfl Tryz.sizeOf145) (And.intro (fun H => Bjs (H := H) Tryz.underlying145 Tryz.sizeOf3) (And.intro (fun H => Aw6 (H := H) Tryz.underlying145 Tryz.sizeOf3) (And.intro (fun H => Aqh (H := H) Tryz.underlying97 (i := 1) rfl (off := 4) rfl Tryz.sizeOf22) (And.intro (fun H => Aqd (H := H) Tryz.underlying22 rfl) (And.intro (fun H => Aq5 (H := H) Tryz.underlying22) (And.intro (fun H => Ax6 (H := H) Tryz.underlying145 Tryz.sizeOf3) (And.intro (fun H => Axo (H := H) Tryz.sizeOf3) (And.intro (fun H => Aqq (H := H) Tryz.underlying22 Tryz.sizeOf3) (fun H => Aqd (H := H) Tryz.underlying3 rfl)))))))))
def nxt (ts : List Int) (k : Nat) (p : Int) : Nat := k + (ts.drop k).findIdx (· == p)
theorem Cy5 (ts : List Int) (k : Nat) (p : Int) (h : k < ts.length) : nxt ts k p = if ts[k] = p then k else nxt ts (k + 1) p := by
 unfold nxt
 rw [List.drop_eq_getElem_cons h, List.findIdx_cons]
 by_cases e : ts[k] = p
 ·simp [e]
 ·have : (ts[k] == p) = false := by simpa using e
  rw [this, if_neg e]
  simp only [cond_false]
  omega
theorem Dzf (ts : List Int) (p : Int) : nxt ts ts.length p = ts.length := by
 unfold nxt; simp
theorem Djq (ts : List Int) (k : Nat) (p : Int) (h : k <= ts.length) : nxt ts k p <= ts.length := by
 unfold nxt
 have := List.findIdx_le_length (xs := ts.drop k) (p := (· == p))
 simp at this
 omega
def Azu (ts : List Int) (k : Nat) : List Int := (List.range 6).map fun p : Nat => (nxt ts k (p : Int) : Int)
theorem Bxu (ts : List Int) (k : Nat) : (Azu ts k).length = 6 := by simp [Azu]
theorem Bkg (ts : List Int) (k : Nat) (p : Int) (h0 : 0 <= p) (h6 : p < 6) : (Azu ts k).getD p.toNat 0 = nxt ts k p := by
 have : (p.toNat : Int) = p := by omega
 simp [Azu, List.getD, List.getElem?_map, List.getElem?_range (show p.toNat < 6 by omega), this]
theorem Cz4 (ts : List Int) (k : Nat) (h : k < ts.length) (h0 : 0 <= ts[k]) (h6 : ts[k] < 6) : (Azu ts (k + 1)).set (ts[k]).toNat (k : Int) = Azu ts k := by
 apply List.ext_getElem
 ·simp [Azu]
 ·intro i h1 h2
  simp only [Azu, List.getElem_map, List.getElem_range, List.getElem_set]
  rw [Cy5 ts k _ h]
  by_cases e : (ts[k]).toNat = i
  ·rw [if_pos e, if_pos (by omega)]
  ·rw [if_neg e, if_neg (by omega)]
theorem Cxr {came asked later : List Int} (h1 : came.length = 6) (h2 : asked.length = 6) (p : Nat) (x : Int) :
  (ints (came ++ (asked ++ later))).set (12 + p) (.int .i64 x) = ints (came ++ (asked ++ later.set p x)) := by
 rw [Az7, List.set_append_right _ _ (by omega), List.set_append_right _ _ (by omega)]
 congr 5; omega
theorem Bwv {came asked later : List Int} (h1 : came.length = 6) (p : Nat) (hp : p < 6) (x : Int) :
  (ints (came ++ (asked ++ later))).set p (.int .i64 x) = ints (came.set p x ++ (asked ++ later)) := by
 rw [Az7, List.set_append_left _ _ (by omega)]
theorem Bww {came asked later : List Int} (h1 : came.length = 6) (h2 : asked.length = 6) (p : Nat) (hp : p < 6) (x : Int) :
  (ints (came ++ (asked ++ later))).set (6 + p) (.int .i64 x) = ints (came ++ (asked.set p x ++ later)) := by
 rw [Az7, List.set_append_right _ _ (by omega), List.set_append_left _ _ (by omega)]
 congr 4; omega
theorem Av5 {came asked later : List Int} (h1 : came.length = 6) (h2 : asked.length = 6) (h3 : later.length = 6) : (ints (came ++ (asked ++ later))).length = 18 := by
 simp [ints]; omega
theorem Cvw {came asked later : List Int} (h1 : came.length = 6) (h2 : asked.length = 6) (h3 : later.length = 6) :
  over (ints (came ++ (asked ++ later))).toArray 12 (List.replicate 6 (.int .i64 0)) = (ints (came ++ (asked ++ List.replicate 6 0))).toArray := by
 have hl := Av5 h1 h2 h3
 rw [Avs _ _ _ (by simp [hl])]
 congr 1
 have ht : (came ++ (asked ++ later)).take 12 = came ++ asked := by rw [<- List.append_assoc, List.take_left' (by simp; omega)]
 have hd : (came ++ (asked ++ later)).drop (12 + (List.replicate 6 (Value.int .i64 0)).length) = [] := List.drop_of_length_le (by simp; omega)
 unfold ints
 rw [<- List.map_take, <- List.map_drop, ht, hd]
 simp
theorem Cvf (main : Md) (H : Hp) (db : Nat) (places pieces : Int) (sv cv tv : Value) (ts : List Int) (mb : Nat) (hdb : H db = some (true, dayO places pieces sv cv tv mb)) (hts : SlI H tv ts) (hb : Nat) (came asked later : List Int) (h1 : came.length = 6) (h2 : asked.length = 6) (h3 : later.length = 6)
  (hhb : H hb = some (true, Ak7 came asked later)) (hne : hb ≠ db) (hl : ts.length <= 1000) (h6 : ∀ t ∈ ts, 0 <= t /\ t < 6) (i : Nat) (hi : i < ts.length) :
  FnX Tryz.prog main 111 #[.pointer (some ⟨db, 0, none⟩), .pointer (some ⟨hb, 0, none⟩), .int .i64 i] H fun e H' => e = .returned (.tuple #[]) /\ H' = H.set hb (Ak7 came asked (Azu ts (i + 1))) := by
 have htsS := hts
 obtain ⟨ta, tc, rfl, htc, _⟩ := hts
 have hne' := hne.symm
 have hlen18 := Av5 h1 h2 h3
 refine Aqk Tryz.func111 rfl Tryz.ntmps111 (by simp) ?_
 (refine @unH _ ?_; refine zA Akg ?_; (repeat (refine inC ?_; intro hc)); try (refine inK ?_; intro K hK))
 refine Cqc (by kernel_rfl) Tryz.zeroValue3 rfl _ _ _ _ _ _ hhb (by simp [hlen18]) _ _ ?_
 ((try (refine @unH _ ?_; refine zX Akg ?_)); (try (refine hK _ _ ?_; clear hK K; (try simp only [nq, ↓reduceIte, Nat.reduceEqDiff]))); refine @unH _ ?_; refine zA Akg ?_; (repeat (refine inC ?_; intro hc)); try (refine inK ?_; intro K hK))
 refine Axe (fun w a' H' => ∃ e j L, w = 6 - j /\ j <= 6 /\ L.length = 6 /\ (∀ k : Nat, k < j -> L[k]? = some (ts.length : Int)) /\ a' = act 49 e [] /\ e 0 = .pointer (some ⟨db, 0, none⟩) /\ e 1 = .pointer (some ⟨hb, 0, none⟩) /\ e 2 = .int .i64 i /\ e 12 = .int .i64 (j : Nat) /\ H' = H.set hb (Ak7 came asked L)) (n := 6) ?_ ?_
 ·refine ⟨_, 0, List.replicate 6 0, rfl, by omega, by simp, fun k hk => by omega, rfl, rfl, rfl, rfl, rfl, ?_⟩
  congr 1
  simp only [Ak7]
  rw [Cvw h1 h2 h3]
 ·rintro w a' H' ⟨e, j, L, rfl, hj, hL, hLj, rfl, e0, e1, e2, e12, hH⟩
  have vh : (H.set hb (Ak7 came asked L)) hb = some (true, Ak7 came asked L) := Aqw
  have vd : (H.set hb (Ak7 came asked L)) db = some (true, dayO places pieces sv cv (.slice ta ts.length tc) mb) := by rw [Aqp hne.symm]; exact hdb
  rw [hH]; clear hH H'
  have hlen18 := Av5 h1 h2 hL
  by_cases hlt : j < 6
  ·(refine @unH _ ?_; refine zA Akg ?_; (repeat (refine inC ?_; intro hc)); try (refine inK ?_; intro K hK))
   (refine Az2 10 [(true, 0), (true, 1), (true, 2), (true, 3), (true, 4), (true, 5), (true, 6), (true, 7), (true, 8), (true, 9), (false, 10)] (by kernel_rfl) (by kernel_rfl) (by simp) (by kernel_rfl) ?_; intro K hK; (iterate 10 (refine @unH _ ?_; refine z3 Akg ?_)); refine Ajw ?_; (refine @unH _ ?_; refine zX Akg ?_); try (refine hK _ _ ?_; clear hK K; (try simp only [nq, ↓reduceIte, Nat.reduceEqDiff])))
   (refine @unH _ ?_; refine zA Akg ?_; (repeat (refine inC ?_; intro hc)); try (refine inK ?_; intro K hK))
   refine ⟨_, by omega, _, j + 1, L.set j ts.length, rfl, hlt, by simp [hL], ?_, rfl, e0, e1, e2, rfl, ?_⟩
   ·intro k hk
    rw [List.getElem?_set]
    split
    ·rename_i hjk; subst hjk; rw [if_pos (by omega)]
    ·exact hLj k (by omega)
   ·rw [Cxr h1 h2]
  ·obtain rfl : j = 6 := by omega
   have hLL : L = Azu ts ts.length := by
    apply List.ext_getElem?
    intro k
    by_cases hk : k < 6
    ·rw [hLj k hk]
     simp only [Azu, List.getElem?_map, List.getElem?_range hk, Option.map_some, Dzf]
    ·rw [List.getElem?_eq_none (by omega), List.getElem?_eq_none (by rw [Bxu]; omega)]
   rw [hLL] at vh vd ⊢
   clear hLj hLL hL L hlen18
   (refine @unH _ ?_; refine zA Akg ?_; (repeat (refine inC ?_; intro hc)); try (refine inK ?_; intro K hK))
   refine Axe (fun w a' H' => ∃ e k, w = k - (i + 1) /\ i + 1 <= k /\ k <= ts.length /\ a' = act 49 e [] /\ e 0 = .pointer (some ⟨db, 0, none⟩) /\ e 1 = .pointer (some ⟨hb, 0, none⟩) /\ e 2 = .int .i64 i /\ e 7 = .int .i64 ((k : Nat) - 1 : Int) /\ H' = H.set hb (Ak7 came asked (Azu ts k))) (n := ts.length - (i + 1)) ?_ ?_
   ·exact ⟨_, ts.length, rfl, by omega, by omega, rfl, e0, e1, e2, rfl, rfl⟩
   ·rintro w a' H' ⟨e, k, rfl, hki, hkl, rfl, e0, e1, e2, e7, hH⟩
    have hlen18 := Av5 h1 h2 (Bxu ts k)
    have hts' : SlI (H.set hb (Ak7 came asked (Azu ts k))) (.slice ta ts.length tc) ts := htsS.set (fun p c fr h => by rw [hhb] at h; cases h)
    have vh : (H.set hb (Ak7 came asked (Azu ts k))) hb = some (true, Ak7 came asked (Azu ts k)) := Aqw
    have vd : (H.set hb (Ak7 came asked (Azu ts k))) db = some (true, dayO places pieces sv cv (.slice ta ts.length tc) mb) := by rw [Aqp hne']; exact hdb
    rw [hH]; clear hH H'
    by_cases hlt : i + 1 < k
    ·obtain ⟨b, o, cap', p, c, fr, hve, _, hb', hx⟩ := hts'.cons (fun h => absurd (congrArg List.length h) (by simp only [List.length_nil]; omega))
     cases hve
     have hxk := hx (k - 1) (ts[k - 1]'(by omega)) (List.getElem?_eq_getElem (by omega))
     have hset := Cz4 ts (k - 1) (by omega) (h6 _ (List.getElem_mem _)).1 (h6 _ (List.getElem_mem _)).2
     have hbnd := h6 _ (List.getElem_mem (show k - 1 < ts.length by omega))
     have hk1 : k - 1 + 1 = k := by omega
     have hkc : ((k : Int) - 1).toNat = k - 1 := by omega
     have hkc2 : ((k - 1 : Nat) : Int) = (k : Int) - 1 := by omega
     rw [hk1, hkc2] at hset
     generalize ts[k - 1]'(by omega) = t at hxk hset hbnd
     generalize hGG : H.set hb (Ak7 came asked (Azu ts k)) = HH at *
     (refine @unH _ ?_; refine zA Akg ?_; (repeat (refine inC ?_; intro hc)); try (refine inK ?_; intro K hK))
     (refine Az2 12 [(true, 0), (true, 1), (true, 2), (true, 3), (true, 4), (true, 5), (true, 6), (true, 7), (true, 8), (true, 9), (true, 10), (true, 11), (false, 12)] (by kernel_rfl) (by kernel_rfl) (by simp) (by kernel_rfl) ?_; intro K hK; (iterate 12 (refine @unH _ ?_; refine z3 Akg ?_)); refine Ajw ?_; (refine @unH _ ?_; refine zX Akg ?_); try (refine hK _ _ ?_; clear hK K; (try simp only [nq, ↓reduceIte, Nat.reduceEqDiff])))
     (refine @unH _ ?_; refine zA Akg ?_; (repeat (refine inC ?_; intro hc)); try (refine inK ?_; intro K hK))
     refine ⟨_, ?_, _, k - 1, rfl, by omega, by omega, rfl, e0, e1, e2, ?_, ?_⟩
     ·omega
     ·show Value.int .i64 _ = Value.int .i64 _
      congr 1; omega
     ·rw [<- hGG, set_set, Cxr h1 h2, hset]
    ·obtain rfl : k = i + 1 := by omega
     (refine @unH _ ?_; refine zA Akg ?_; (repeat (refine inC ?_; intro hc)); try (refine inK ?_; intro K hK))
     (refine @unH _ ?_; refine zD Tryz.results111 ?_)
     exact ⟨rfl, rfl⟩
end Go.Proofs.YtgniilnljeedlaaGreatDoor
end
section
namespace Go.X
open Go
theorem Avh {ops : List Oper} {tmps : Array Value} {j : Nat} : yielded ops.toArray tmps j = ylK (((ops[j]?).bind (·.dst)).bind (tmps[·]?)) := by
 unfold yielded ylK
 simp only [List.getElem?_toArray]
 rfl
end Go.X
namespace Go.Proofs.YtgniilnljeedlaaGreatDoor
open Go Go.X
def Aq8 := And.intro (fun H => Aq1 (H := H) (P := Tryz.prog) (h := Tryz.zeroValue85)) (And.intro (fun H => Aq1 (H := H) (P := Tryz.prog) (h := Tryz.zeroValue147)) (And.intro (fun H => Aqh (H := H) Tryz.underlying97 (i := 0) rfl (off := 0) rfl Tryz.sizeOf25) (And.intro (fun H => Aqh (H := H) Tryz.underlying25 (i := 2) rfl (off := 2) rfl Tryz.sizeOf22) (And.intro (fun H => Aqd (H := H) Tryz.underlying22 rfl) (And.intro (fun H => Aq5 (H := H) Tryz.underlying22) (And.intro (fun H => Aqq (H := H) Tryz.underlying22 Tryz.sizeOf3) (And.intro (fun H => Aqd (H := H) Tryz.underlying3 rfl) (And.intro (fun H => Aqh (H := H) Tryz.underlying147 (i := 0) rfl (off := 0) rfl Tryz.sizeOf145) (And.intro (fun H => Ax6 (H := H) Tryz.underlying145 Tryz.sizeOf3) (And.intro (fun H => Axo (H := H) Tryz.sizeOf3) (And.intro (fun H => Aqh (H := H) Tryz.underlying147 (i := 1) rfl (off := 6) rfl Tryz.sizeOf145) (And.intro @Bqb (And.intro (fun H => Aq1 (H := H) (P := Tryz.prog) (h := Tryz.zeroValue105)) (And.intro (fun H => Aq3 (H := H) Tryz.sizeOf105) (And.intro (fun H => Aqh (H := H) Tryz.underlying97 (i := 1) rfl (off := 4) rfl Tryz.sizeOf22) (And.intro (fun H => Ax6 (H := H) Tryz.underlying85 Tryz.sizeOf3) (And.intro (fun H => Aqx (H := H) Tryz.underlying105 rfl Tryz.sizeOf105) (And.intro @Bzl (And.intro (fun H st => Ajf (H := H) (st := st) Tryz.underlying115 rfl Tryz.zeroValue115) (And.intro (fun H => Aq1 (H := H) (P := Tryz.prog) (h := Tryz.zeroValue115)) (And.intro (fun H => Aq3 (H := H) Tryz.sizeOf115) (And.intro @Cw0 (And.intro (fun H => Aqh (H := H) Tryz.underlying105 (i := 1) rfl (off := 1) rfl Tryz.sizeOf92) (And.intro (fun H => Aqd (H := H) Tryz.underlying92 rfl) (And.intro @Bzm (And.intro @Ayv (And.intro @Ayx (And.intro @Cxi (And.intro @Ayw (And.intro @Ayy (And.intro @Cxj (And.intro @Awj (And.intro @Awk (And.intro @Cxk (And.intro @Aww (And.intro @Awx (And.intro @Cxh (And.intro @Czs (And.intro (fun H => Bvj (H := H) Tryz.underlying154 rfl) (And.intro @Bzn (And.intro (fun H => Aqx (H := H) Tryz.underlying85 rfl Tryz.sizeOf85) (fun H => Aq3 (H := H) Tryz.sizeOf85))))))))))))))))))))))))))))))))))))))))))
theorem Cwn {p q : Prop} (g : q) (h : Hid q -> p := by
 intro g
 repeat' (first
 | (refine Axn rfl ?_; intro Kz hKz; simp -implicitDefEqProofs (disch := first | omega | (simp only [qd] <;> omega)) only [xq, ↓xp, qc, Nat.reduceAdd, List.range, List.range.loop, fine, Nat.reduceEqDiff, ↓reduceIte, yielded, reduceCtorEq, Nat.reduceLT, Nat.reduceMul, Nat.reduceSub, one, Nat.reduceLeDiff, Aqa, Aq8, ↓Axx, aq, ↓ap, qe0, qe1, qe2, *, -g, -hKz, Ay4 _ _ hr0 hr3]; try (refine hKz _ _ ?_; clear hKz Kz))
 | (refine Axs rfl ?_; intro Kz hKz; simp -implicitDefEqProofs (disch := first | omega | (simp only [qd] <;> omega)) only [xq, ↓xp, qc, Nat.reduceAdd, List.range, List.range.loop, fine, Nat.reduceEqDiff, ↓reduceIte, yielded, reduceCtorEq, Nat.reduceLT, Nat.reduceMul, Nat.reduceSub, one, Nat.reduceLeDiff, Aqa, Aq8, ↓Axx, aq, ↓ap, qe0, qe1, qe2, *, -g, -hKz, Ay4 _ _ hr0 hr3]; try (refine hKz _ _ ?_; clear hKz Kz; (try simp only [nq, ↓reduceIte, Nat.reduceEqDiff])))
 | (refine Aqu ?_; (try simp only [nq, ↓reduceIte, Nat.reduceEqDiff]))
 | (refine Axr ?_; (try simp only [nq, ↓reduceIte, Nat.reduceEqDiff]))
 | (refine Axa ?_; (try simp only [nq, ↓reduceIte, Nat.reduceEqDiff]))
 | (refine Azb ?_; (try simp only [nq, ↓reduceIte, Nat.reduceEqDiff]))
 | (refine Axy (by simp only [Aqm, Aqr, Nat.reduceEqDiff, Nat.reduceLT, ↓reduceIte, *, -g]; rfl) ?_ ?_ <;> (intro hcz; first | (exfalso; simp -implicitDefEqProofs (disch := omega) only [*, -g, bq, reduceCtorEq] at hcz; done) | (simp only [dq, qe3, qe4, qe5, qe6] at hcz) | skip))
 | (refine Axq ?_)
 | (refine Aqo ?_)
 | (refine Aql ?_))
 (try (revert Kz; refine unK ?_)); (repeat (revert hcz; refine unC ?_))
 exact Hid.out g) : Hid p := ⟨h ⟨g⟩⟩
theorem Dqo {p q : Prop} (g : q) (h : Hid q -> p := by
 intro g
 simp -implicitDefEqProofs (disch := first | omega | (simp only [qd] <;> omega)) only [xq, ↓xp, qc, Nat.reduceAdd, List.range, List.range.loop, fine, Nat.reduceEqDiff, ↓reduceIte, yielded, reduceCtorEq, Nat.reduceLT, Nat.reduceMul, Nat.reduceSub, one, Nat.reduceLeDiff, Aqa, Aq8, ↓Axx, aq, ↓ap, qe0, qe1, qe2, *, -g, -hK, Ay4 _ _ hr0 hr3]
 exact Hid.out g) : Hid p := ⟨h ⟨g⟩⟩
theorem Dkv {p q : Prop} (g : q) (h : Hid q -> p := by
 intro g
 repeat' (first
 | (refine Axn rfl ?_; intro Kz hKz; simp -implicitDefEqProofs (disch := first | omega | (simp only [qd] <;> omega)) only [xq, ↓xp, qc, Nat.reduceAdd, List.range, List.range.loop, fine, Nat.reduceEqDiff, ↓reduceIte, yielded, reduceCtorEq, Nat.reduceLT, Nat.reduceMul, Nat.reduceSub, one, Nat.reduceLeDiff, Aqa, Aq8, ↓Axx, aq, ↓ap, qe0, qe1, qe2, *, -g, -hKz]; try (refine hKz _ _ ?_; clear hKz Kz))
 | (refine Axs rfl ?_; intro Kz hKz; simp -implicitDefEqProofs (disch := first | omega | (simp only [qd] <;> omega)) only [xq, ↓xp, qc, Nat.reduceAdd, List.range, List.range.loop, fine, Nat.reduceEqDiff, ↓reduceIte, yielded, reduceCtorEq, Nat.reduceLT, Nat.reduceMul, Nat.reduceSub, one, Nat.reduceLeDiff, Aqa, Aq8, ↓Axx, aq, ↓ap, qe0, qe1, qe2, *, -g, -hKz]; try (refine hKz _ _ ?_; clear hKz Kz; (try simp only [nq, ↓reduceIte, Nat.reduceEqDiff])))
 | (refine Aqu ?_; (try simp only [nq, ↓reduceIte, Nat.reduceEqDiff]))
 | (refine Axr ?_; (try simp only [nq, ↓reduceIte, Nat.reduceEqDiff]))
 | (refine Axa ?_; (try simp only [nq, ↓reduceIte, Nat.reduceEqDiff]))
 | (refine Azb ?_; (try simp only [nq, ↓reduceIte, Nat.reduceEqDiff]))
 | (refine Axy (by simp only [Aqm, Aqr, Nat.reduceEqDiff, Nat.reduceLT, ↓reduceIte, *, -g]; rfl) ?_ ?_ <;> (intro hcz; first | (exfalso; simp -implicitDefEqProofs (disch := omega) only [*, -g, bq, reduceCtorEq] at hcz; done) | (simp only [dq, qe3, qe4, qe5, qe6] at hcz) | skip)))
 (try (revert Kz; refine unK ?_)); (repeat (revert hcz; refine unC ?_))
 exact Hid.out g) : Hid p := ⟨h ⟨g⟩⟩
theorem Dk3 {p q : Prop} (g : q) (h : Hid q -> p := by
 intro g
 repeat' (first
 | (refine Axn rfl ?_; intro Kz hKz; simp -implicitDefEqProofs (disch := first | omega | (simp only [qd] <;> omega)) only [xq, ↓xp, qc, Nat.reduceAdd, List.range, List.range.loop, fine, Nat.reduceEqDiff, ↓reduceIte, yielded, reduceCtorEq, Nat.reduceLT, Nat.reduceMul, Nat.reduceSub, one, Nat.reduceLeDiff, Aqa, Aq8, ↓Axx, aq, ↓ap, qe0, qe1, qe2, *, -g, -hKz, Ajx hne0 vcb6]; try (refine hKz _ _ ?_; clear hKz Kz))
 | (refine Axs rfl ?_; intro Kz hKz; simp -implicitDefEqProofs (disch := first | omega | (simp only [qd] <;> omega)) only [xq, ↓xp, qc, Nat.reduceAdd, List.range, List.range.loop, fine, Nat.reduceEqDiff, ↓reduceIte, yielded, reduceCtorEq, Nat.reduceLT, Nat.reduceMul, Nat.reduceSub, one, Nat.reduceLeDiff, Aqa, Aq8, ↓Axx, aq, ↓ap, qe0, qe1, qe2, *, -g, -hKz, Ajx hne0 vcb6]; try (refine hKz _ _ ?_; clear hKz Kz; (try simp only [nq, ↓reduceIte, Nat.reduceEqDiff])))
 | (refine Aqu ?_; (try simp only [nq, ↓reduceIte, Nat.reduceEqDiff]))
 | (refine Axr ?_; (try simp only [nq, ↓reduceIte, Nat.reduceEqDiff]))
 | (refine Axa ?_; (try simp only [nq, ↓reduceIte, Nat.reduceEqDiff]))
 | (refine Azb ?_; (try simp only [nq, ↓reduceIte, Nat.reduceEqDiff]))
 | (refine Axy (by simp only [Aqm, Aqr, Nat.reduceEqDiff, Nat.reduceLT, ↓reduceIte, *, -g]; rfl) ?_ ?_ <;> (intro hcz; first | (exfalso; simp -implicitDefEqProofs (disch := omega) only [*, -g, bq, reduceCtorEq] at hcz; done) | (simp only [dq, qe3, qe4, qe5, qe6] at hcz) | skip))
 | (refine Axq ?_)
 | (refine Aqo ?_)
 | (refine Aql ?_))
 (try (revert Kz; refine unK ?_)); (repeat (revert hcz; refine unC ?_))
 exact Hid.out g) : Hid p := ⟨h ⟨g⟩⟩
theorem Bjo (main : Md) (H : Hp) (r : Int) (p : Int) (hb : Nat) (came asked later : List Int) (h1 : came.length = 6) (h2 : asked.length = 6) (h3 : later.length = 6) (hl : ∀ x ∈ later, 0 <= x /\ x <= 1000) (h0 : 0 <= p) (h6 : p < 6) (hH : H hb = some (true, Ak7 came asked later))
  (hr0 : 0 <= r) (hr3 : r <= 3) : Bxv Tryz.prog (Ajr r) "gladstone/vault.rank" #[.int .i64 p, .pointer (some ⟨hb, 0, none⟩)] H (YN Tryz.prog main (.int .i64 (Awc r came asked later p)) H) fun _ _ => False := by
 have hcase : r = 0 ∨ r = 1 ∨ r = 2 ∨ r = 3 := by omega
 rcases hcase with rfl | rfl | rfl | rfl
 ·show Bxv Tryz.prog (.iface 142 (.agg #[])) _ _ _ _ _
  rw [Ayv, Cxi, Azl]
  exact Azo (Cy0 main H p _)
 ·show Bxv Tryz.prog (.iface 143 (.agg #[])) _ _ _ _ _
  rw [Ayw, Cxj, Azl]
  exact Azo (Cy6 main H p hb came asked later h1 h2 h3 h0 h6 hH)
 ·show Bxv Tryz.prog (.iface 144 (.agg #[])) _ _ _ _ _
  rw [Awj, Cxk, Azl]
  exact Azo (Cjp main H p hb came asked later h1 h2 h3 h0 h6 hH)
 ·show Bxv Tryz.prog (.iface 115 (.agg #[])) _ _ _ _ _
  rw [Aww, Cxh, Azl]
  exact Azo (Cvd main H p hb came asked later h1 h2 h3 hl h0 h6 hH)
theorem Cy3 (H : Hp) (r : Int) (K : Next -> Hp -> Prop) (E : Value -> Hp -> Prop) : nilK Tryz.prog (.func (.method "gladstone/vault.rank") #[Ajr r] #[]) H K E = K (.value (.func (.method "gladstone/vault.rank") #[Ajr r] #[])) H := by
 unfold Ajr
 split
 ·exact Ayx K E _
 ·split
  ·exact Ayy K E _
  ·split
   ·exact Awk K E _
   ·exact Awx K E _
theorem Ay4 (H : Hp) (r : Int) (hr0 : 0 <= r) (hr3 : r <= 3) (st : TypeId) (K : Value -> Hp -> Prop) (E : Value -> Hp -> Prop) : wpS Tryz.prog (Instr.typeAssert (Ajr r) st 115 true) H K E = K (.tuple #[.agg #[], .bool (decide (r = 3))]) H := by
 unfold Ajr
 rw [Ajf Tryz.underlying115 rfl Tryz.zeroValue115]
 have hcase : r = 0 ∨ r = 1 ∨ r = 2 ∨ r = 3 := by omega
 rcases hcase with rfl | rfl | rfl | rfl <;> rfl
structure RS where
 m : Nat
 came : List Int
 asked : List Int
 later : List Int
 cl : List Int
 f : Nat
def Awp (rk : Int -> Int) (l : List Int) : Int := l.foldl (fun c q => if c < 0 ∨ rk q < rk c then q else c) (-1)
def Bjq (pl : Int) (m : Nat) (t : Int) : Bool := !m.testBit t.toNat && decide (pl <= Aq4 m)
def Bqk (pl r : Int) (ts : List Int) (i : Nat) (t : Int) (s : RS) : Int :=
 if Bjq pl s.m t then Awp (Awc r s.came s.asked (if r = 3 then Azu ts (i + 1) else s.later)) (Ax4 s.m) else -1
def rstep (pl r : Int) (ts : List Int) (i : Nat) (t : Int) (s : RS) : RS :=
 {m := Aqv s.m (Bqk pl r ts i t s) t
  came := if s.m.testBit t.toNat then s.came else s.came.set t.toNat i
  asked := s.asked.set t.toNat i
  later := if r = 3 /\ Bjq pl s.m t then Azu ts (i + 1) else s.later
  cl := s.cl.set i (Bqk pl r ts i t s)
  f := s.f + if s.m.testBit t.toNat then 0 else 1 }
def rrun (pl r : Int) (ts : List Int) (s : RS) : Nat -> RS
 | 0 => s
 | i + 1 => rstep pl r ts i (ts.getD i 0) (rrun pl r ts s i)
def Bqg (start : List Int) : Nat -> List Int
 | 0 => List.replicate 6 0
 | j + 1 => (Bqg start j).set (start.getD j 0).toNat ((j : Int) - start.length)
theorem Awv (start : List Int) : ∀ j, (Bqg start j).length = 6
 | 0 => by simp [Bqg]
 | j + 1 => by simp [Bqg, Awv start j]
def rs0 (start : List Int) : RS := ⟨oOf start, Bqg start start.length, Bqg start start.length, List.replicate 6 0, List.replicate 8 0, 0⟩
structure RSOk (s : RS) (i : Nat) : Prop where
 m : s.m < 64
 came : s.came.length = 6
 asked : s.asked.length = 6
 later : s.later.length = 6
 bnd : ∀ x ∈ s.later, 0 <= x /\ x <= 1000
 cl : s.cl.length = 8
 f : s.f <= i
theorem Akh (rk : Int -> Int) : ∀ (l : List Int) (c : Int), l.foldl (fun c q => if c < 0 ∨ rk q < rk c then q else c) c = c ∨ l.foldl (fun c q => if c < 0 ∨ rk q < rk c then q else c) c ∈ l
 | [], c => .inl rfl
 | x :: l, c => by
  simp only [List.foldl_cons]
  split
  ·rcases Akh rk l x with h | h
   ·rw [h]; exact .inr List.mem_cons_self
   ·exact .inr (List.mem_cons_of_mem _ h)
  ·rcases Akh rk l c with h | h
   ·exact .inl h
   ·exact .inr (List.mem_cons_of_mem _ h)
theorem Cx1 (rk : Int -> Int) (m : Nat) : Awp rk (Ax4 m) < 6 := by
 rcases Akh rk (Ax4 m) (-1) with h | h
 ·unfold Awp; rw [h]; omega
 ·exact (Aji h).2.1
theorem Cz3 (ts : List Int) (k : Nat) (hk : k <= ts.length) (hl : ts.length <= 1000) : ∀ x ∈ Azu ts k, 0 <= x /\ x <= 1000 := by
 intro x hx
 simp only [Azu, List.mem_map] at hx
 obtain ⟨p, _, rfl⟩ := hx
 have := Djq ts k p hk
 omega
theorem RSOk.step {s : RS} {i : Nat} (h : RSOk s i) (pl r : Int) (ts : List Int) (t : Int) (hi : i < ts.length) (hl : ts.length <= 1000) (h0 : 0 <= t) (h6 : t < 6) : RSOk (rstep pl r ts i t s) (i + 1) := by
 refine ⟨?_, ?_, ?_, ?_, ?_, ?_, ?_⟩
 ·refine Ak9 h.m ?_ h0 h6
  unfold Bqk
  split
  ·exact Cx1 _ _
  ·omega
 ·simp only [rstep]; split <;> simp [h.came]
 ·simp only [rstep]; simp [h.asked]
 ·simp only [rstep]; split
  ·exact Bxu _ _
  ·exact h.later
 ·simp only [rstep]; split
  ·exact Cz3 ts _ (by omega) hl
  ·exact h.bnd
 ·simp only [rstep]; simp [h.cl]
 ·simp only [rstep]; have := h.f; split <;> omega
abbrev Cqb (cl : List Int) : Obj := .cells (ints cl).toArray 85 (0, 0)
abbrev Dj0 (c m : Nat) : Obj := .cells #[.int .i64 c, .int .u8 m] 105 (0, 0)
structure RunM (H0 H : Hp) (cb hb sb db : Nat) (dO : Obj) (tv : Value) (ts : List Int) (i : Nat) (cl came asked later : List Int) (m : Nat) : Prop where
 c : H cb = some (true, Cqb cl)
 h : H hb = some (true, Ak7 came asked later)
 s : H sb = some (true, Dj0 i m)
 d : H db = some (true, dO)
 t : SlI H tv ts
 l : Lex none H0 H
structure RunE (e : Nat -> Value) (mo : Int) (cb hb sb db : Nat) (r : Int) (ta : Option Addr) (n tc : Nat) (f i : Nat) : Prop where
 e0 : e 0 = .pointer (some ⟨db, 0, none⟩)
 e1 : e 1 = Ajr r
 e2 : e 2 = .int .i64 mo
 e6 : e 6 = .pointer (some ⟨cb, 0, none⟩)
 e7 : e 7 = .int .i64 f
 e8 : e 8 = .pointer (some ⟨hb, 0, none⟩)
 e11 : e 11 = .pointer (some ⟨sb, 0, none⟩)
 e59 : e 59 = .slice ta n tc
 e60 : e 60 = .int .i64 n
 e61 : e 61 = .int .i64 i
theorem RunM.le {H0 H H' : Hp} {cb hb sb db : Nat} {dO : Obj} {tv : Value} {ts : List Int} {i : Nat} {cl came asked later : List Int} {m : Nat} (h : RunM H0 H cb hb sb db dO tv ts i cl came asked later m) (hl : H.le H') : RunM H0 H' cb hb sb db dO tv ts i cl came asked later m :=
 ⟨hl _ _ h.c, hl _ _ h.h, hl _ _ h.s, hl _ _ h.d, h.t.le hl, h.l.le hl⟩
theorem RunM.setC {H0 H : Hp} {cb hb sb db : Nat} {dO : Obj} {tv : Value} {ts : List Int} {i : Nat} {cl came asked later : List Int} {m : Nat} (h : RunM H0 H cb hb sb db dO tv ts i cl came asked later m) (h0 : H0 cb = none) (n1 : hb ≠ cb) (n2 : sb ≠ cb) (n3 : db ≠ cb) (cl' : List Int) :
  RunM H0 (H.set cb (Cqb cl')) cb hb sb db dO tv ts i cl' came asked later m :=
 ⟨Aqw, by rw [Aqp n1]; exact h.h, by rw [Aqp n2]; exact h.s, by rw [Aqp n3]; exact h.d, h.t.set (fun p c fr e => by rw [h.c] at e; cases e), h.l.own h0⟩
theorem RunM.setH {H0 H : Hp} {cb hb sb db : Nat} {dO : Obj} {tv : Value} {ts : List Int} {i : Nat} {cl came asked later : List Int} {m : Nat} (h : RunM H0 H cb hb sb db dO tv ts i cl came asked later m) (h0 : H0 hb = none) (n1 : cb ≠ hb) (n2 : sb ≠ hb) (n3 : db ≠ hb) (came' asked' later' : List Int) :
  RunM H0 (H.set hb (Ak7 came' asked' later')) cb hb sb db dO tv ts i cl came' asked' later' m :=
 ⟨by rw [Aqp n1]; exact h.c, Aqw, by rw [Aqp n2]; exact h.s, by rw [Aqp n3]; exact h.d, h.t.set (fun p c fr e => by rw [h.h] at e; cases e), h.l.own h0⟩
theorem RunM.setS {H0 H : Hp} {cb hb sb db : Nat} {dO : Obj} {tv : Value} {ts : List Int} {i : Nat} {cl came asked later : List Int} {m : Nat} (h : RunM H0 H cb hb sb db dO tv ts i cl came asked later m) (h0 : H0 sb = none) (n1 : cb ≠ sb) (n2 : hb ≠ sb) (n3 : db ≠ sb) (i' m' : Nat) :
  RunM H0 (H.set sb (Dj0 i' m')) cb hb sb db dO tv ts i' cl came asked later m' :=
 ⟨by rw [Aqp n1]; exact h.c, by rw [Aqp n2]; exact h.h, Aqw, by rw [Aqp n3]; exact h.d, h.t.set (fun p c fr e => by rw [h.s] at e; cases e), h.l.own h0⟩
theorem Bya (pl r : Int) (ts : List Int) (s : RS) (i : Nat) : ∀ k, (rrun pl r ts s i).f <= (rrun pl r ts s (i + k)).f
 | 0 => Nat.le_refl _
 | k + 1 => Nat.le_trans (Bya pl r ts s i k) (Nat.le_add_right _ _)
theorem Bvw (pl r : Int) (ts start : List Int) (hs6 : ∀ t ∈ start, 0 <= t /\ t < 6) (h6 : ∀ t ∈ ts, 0 <= t /\ t < 6) (hl : ts.length <= 1000) : ∀ i, i <= ts.length -> RSOk (rrun pl r ts (rs0 start) i) i
 | 0, _ => ⟨Ava start 0 (by omega) fun x hx => ⟨(hs6 x hx).1, (hs6 x hx).2⟩, Awv _ _, Awv _ _, by simp [rrun, rs0], fun x hx => by simp [rrun, rs0] at hx; omega, by simp [rrun, rs0], by simp [rrun, rs0]⟩
 | i + 1, h => by
  have := Bvw pl r ts start hs6 h6 hl i (by omega)
  have hg : ts.getD i 0 = ts[i]'(by omega) := by simp [List.getD, List.getElem?_eq_getElem (show i < ts.length by omega)]
  have hb := h6 _ (List.getElem_mem (show i < ts.length by omega))
  unfold rrun
  rw [hg]
  exact this.step pl r ts _ (by omega) hl hb.1 hb.2
theorem Cx3 (main : Md) (H : Hp) (db : Nat) (places pieces : Int) (sv cv tv : Value) (ts : List Int) (mb : Nat) (hdb : H db = some (true, dayO places pieces sv cv tv mb)) (hts : SlI H tv ts) (start : List Int) (hst : SlI H sv start) (hs6 : ∀ t ∈ start, 0 <= t /\ t < 6) (hsl : start.length <= 1000)
  (hl : ts.length <= 8) (h6 : ∀ t ∈ ts, 0 <= t /\ t < 6) (r : Int) (hr0 : 0 <= r) (hr3 : r <= 3) (mo : Int) (hmo0 : 0 <= mo) (R : Ending -> Hp -> Prop)
  (hR1 : Aqs (((rrun places r ts (rs0 start) ts.length).f : Int) <= mo -> ∀ H', H.le H' -> R (.returned (.tuple #[.agg (ints (rrun places r ts (rs0 start) ts.length).cl).toArray, .int .i64 (rrun places r ts (rs0 start) ts.length).f])) H'))
  (hR2 : Aqs (mo < ((rrun places r ts (rs0 start) ts.length).f : Int) -> ∀ H', H.le H' -> R (.panicked [{ v := .iface 154 (.agg #[]), recovered := false }]) H')) :
  FnX Tryz.prog main 74 #[.pointer (some ⟨db, 0, none⟩), Ajr r, .int .i64 mo] H R := by
 have htsS := hts
 have hstS := hst
 obtain ⟨ta, tc, rfl, htc, _⟩ := hts
 obtain ⟨sa, sc, rfl, hsc, _⟩ := hst
 refine Aqk Tryz.func74 rfl Tryz.ntmps74 (by simp) ?_
 (refine @unH _ ?_; refine zAi Aq8 ?_; (repeat (refine inC ?_; intro hc)); try (refine inK ?_; intro K hK))
 (intro cb hcb; generalize hG : Hp.set _ cb _ = H1; have lH1 := Aqg hG hcb; have vcb := Aqf hG; clear hG)
 have vdb1 := lH1 _ _ hdb
 have hts1 := htsS.le lH1
 have hst1 := hstS.le lH1
 ((try (refine @unH _ ?_; refine zXi Aq8 ?_)); (try (refine hK _ _ ?_; clear hK K; (try simp only [nq, ↓reduceIte, Nat.reduceEqDiff]))); refine @unH _ ?_; refine zAi Aq8 ?_; (repeat (refine inC ?_; intro hc)); try (refine inK ?_; intro K hK))
 (intro hb hhb; generalize hG : Hp.set _ hb _ = H2; have lH2 := Aqg hG hhb; have vhb := Aqf hG; clear hG)
 have vdb2 := lH2 _ _ vdb1
 have vcb2 := lH2 _ _ vcb
 have hts2 := hts1.le lH2
 have hst2 := hst1.le lH2
 have ncb : cb ≠ hb := Ax0 vcb hhb
 have ncb' := ncb.symm
 have nhd : db ≠ hb := Ax0 vdb1 hhb
 have nhd' := nhd.symm
 have ncd : db ≠ cb := Ax0 hdb hcb
 have ncd' := ncd.symm
 have lH12 := Hp.le_trans lH1 lH2
 clear hdb htsS hstS vdb1 hts1 hst1
 ((try (refine @unH _ ?_; refine zXi Aq8 ?_)); (try (refine hK _ _ ?_; clear hK K; (try simp only [nq, ↓reduceIte, Nat.reduceEqDiff]))); refine @unH _ ?_; refine zAi Aq8 ?_; (repeat (refine inC ?_; intro hc)); try (refine inK ?_; intro K hK))
 refine Axe (fun w a' H' => ∃ e j, w = start.length - j /\ j <= start.length /\ a' = act 142 e [] /\ e 0 = .pointer (some ⟨db, 0, none⟩) /\ e 1 = Ajr r /\ e 2 = .int .i64 mo /\ e 6 = .pointer (some ⟨cb, 0, none⟩) /\ e 7 = .int .i64 0 /\ e 8 = .pointer (some ⟨hb, 0, none⟩) /\ e 24 = .slice sa start.length sc /\ e 25 = .int .i64 start.length /\ e 26 = .int .i64 (j : Nat) /\
  H' = H2.set hb (Ak7 (Bqg start j) (Bqg start j) (List.replicate 6 0))) (n := start.length) ?_ ?_
 ·refine ⟨_, 0, by omega, by omega, rfl, rfl, rfl, rfl, rfl, rfl, rfl, rfl, rfl, rfl, ?_⟩
  exact (set_self vhb).symm
 ·rintro w a' H' ⟨e, j, rfl, hj, rfl, e0, e1, e2, e6, e7, e8, e24, e25, e26, hH⟩
  generalize hG : H2.set hb (Ak7 (Bqg start j) (Bqg start j) (List.replicate 6 0)) = H3 at hH
  have vhb3 := Aqf hG
  have vdb3 := Aze hG vdb2 nhd
  have vcb3 := Aze hG vcb2 ncb
  have hst3 : SlI H3 (.slice sa start.length sc) start := by rw [<- hG]; exact hst2.set (fun p c fr h => by rw [vhb] at h; cases h)
  rw [hH]; clear hH H'
  by_cases hlt : j < start.length
  ·obtain ⟨b, o, cap', p, c, fr, hve, _, hb', hx⟩ := hst3.cons (fun h => absurd (congrArg List.length h) (by simp only [List.length_nil]; omega))
   cases hve
   have hxj := hx j start[j] (List.getElem?_eq_getElem hlt)
   have hbx := hs6 _ (List.getElem_mem hlt)
   have hini : Bqg start (j + 1) = (Bqg start j).set (start[j]).toNat ((j : Int) - start.length) := by simp [Bqg, List.getD, List.getElem?_eq_getElem hlt]
   have hil := Awv start j
   generalize start[j] = x at hxj hbx hini
   have hlen18 := Av5 hil hil (show (List.replicate 6 (0 : Int)).length = 6 by simp)
   (refine @unH _ ?_; refine zAi Aq8 ?_; (repeat (refine inC ?_; intro hc)); try (refine inK ?_; intro K hK))
   refine Aye (fun HX => HX db = some (true, dayO places pieces (.slice (some ⟨b, o, none⟩) start.length sc) cv (.slice ta ts.length tc) mb)) 24 [(true, 0), (true, 1), (true, 2), (true, 3), (true, 4), (true, 5), (true, 6), (true, 7), (true, 8), (true, 9), (true, 10), (true, 11), (true, 12), (true, 13), (true, 14), (true, 15), (true, 16), (true, 17), (true, 18), (true, 19), (true, 21), (false, 20), (true, 22), (false, 23)] (by kernel_rfl) (by kernel_rfl) (by simp) (by kernel_rfl) ?_; intro K hK
   have hdbS := vdb3
   (iterate 21 (refine @unH _ ?_; refine z5i Aq8 ?_))
   refine Ajk ?_
   (refine @unH _ ?_; refine zXi Aq8 ?_)
   refine ⟨.inr trivial, ?_⟩
   generalize hG4 : Hp.set H3 hb _ = H4
   have vhb4 := Aqf hG4
   have vdb4 := Aze hG4 vdb3 nhd
   (refine @unH _ ?_; refine z5i Aq8 ?_)
   refine Ajk ?_
   have hlen18' : ((ints (Bqg start j ++ (Bqg start j ++ List.replicate 6 0))).set x.toNat (Value.int .i64 ((j : Int) - start.length))).length = 18 := by rw [List.length_set]; exact hlen18
   (refine @unH _ ?_; refine zXi Aq8 ?_)
   refine ⟨.inr trivial, Ax1 (hK _ _ ?_)⟩
   clear hK K
   (try simp only [nq, ↓reduceIte, Nat.reduceEqDiff])
   (refine @unH _ ?_; refine zAi Aq8 ?_; (repeat (refine inC ?_; intro hc)); try (refine inK ?_; intro K hK))
   refine ⟨_, by omega, _, j + 1, rfl, hlt, rfl, e0, e1, e2, e6, e7, e8, e24, e25, rfl, ?_⟩
   rw [<- hG4, <- hG, set_set, set_set, Bwv hil _ (by omega), Bww (by rw [List.length_set]; exact hil) hil _ (by omega), <- hini]
  ·obtain rfl : j = start.length := by omega
   have vdb3' := vdb3
   have hts3 : SlI H3 (.slice ta ts.length tc) ts := by rw [<- hG]; exact hts2.set (fun p c fr h => by rw [vhb] at h; cases h)
   have lH3 : Lex none H H3 := by rw [<- hG]; exact ((Lex.of lH12).own (Hp.le_none lH1 hhb))
   have hil := Awv start start.length
   clear hG
   (refine @unH _ ?_; refine zAi Aq8 ?_; (repeat (refine inC ?_; intro hc)); try (refine inK ?_; intro K hK))
   refine (Aj6 main H3 db places pieces _ cv _ start mb vdb3 hst3 hs6 (by omega)).runs.mono ?_
   rintro _ H4 ⟨rfl, lH4⟩
   have vdb4 := lH4 _ _ vdb3
   have vcb4 := lH4 _ _ vcb3
   have vhb4 := lH4 _ _ vhb3
   have hts4 := hts3.le lH4
   clear hst3 hts3 vdb3 vcb3 vhb3 vdb3'
   ((try (refine @unH _ ?_; refine zXi Aq8 ?_)); (try (refine hK _ _ ?_; clear hK K; (try simp only [nq, ↓reduceIte, Nat.reduceEqDiff]))); refine @unH _ ?_; refine zAi Aq8 ?_; (repeat (refine inC ?_; intro hc)); try (refine inK ?_; intro K hK))
   (intro sb hsb; generalize hG : Hp.set _ sb _ = H5; have lH5 := Aqg hG hsb; have vsb := Aqf hG; clear hG)
   have vdb5 := lH5 _ _ vdb4
   have vcb5 := lH5 _ _ vcb4
   have vhb5 := lH5 _ _ vhb4
   have hts5 := hts4.le lH5
   have nsd : sb ≠ db := (Ax0 vdb4 hsb).symm
   have nsc : sb ≠ cb := (Ax0 vcb4 hsb).symm
   have nsh : sb ≠ hb := (Ax0 vhb4 hsb).symm
   have nsd' := nsd.symm
   have nsc' := nsc.symm
   have nsh' := nsh.symm
   ((try (refine @unH _ ?_; refine zXi Aq8 ?_)); (try (refine hK _ _ ?_; clear hK K; (try simp only [nq, ↓reduceIte, Nat.reduceEqDiff]))); refine @unH _ ?_; refine zAi Aq8 ?_; (repeat (refine inC ?_; intro hc)); try (refine inK ?_; intro K hK))
   have h0c : H cb = none := hcb
   have h0h : H hb = none := Hp.le_none lH1 hhb
   have h0s : H sb = none := lH3.gone (Hp.le_none lH4 hsb)
   have hM0 : RunM H H5 cb hb sb db (dayO places pieces (.slice sa start.length sc) cv (.slice ta ts.length tc) mb) (.slice ta ts.length tc) ts 0 (rs0 start).cl (rs0 start).came (rs0 start).asked (rs0 start).later (rs0 start).m :=
    ⟨vcb5, vhb5, vsb, vdb5, hts5, (lH3.le lH4).le lH5⟩
   have hO0 : RSOk (rs0 start) 0 := ⟨Ava start 0 (by omega) fun x hx => ⟨(hs6 x hx).1, (hs6 x hx).2⟩, hil, hil, by simp [rs0], fun x hx => by simp [rs0] at hx; omega, by simp [rs0], by simp [rs0]⟩
   clear vcb5 vhb5 vsb vdb5 hts5 lH5 hhb hcb hsb vhb4 vcb4 vdb4 hts4 lH4 lH3 vdb2 vcb2 hts2 hst2 lH1 lH2 lH12 vhb vcb hil
   refine Axe (fun w a' H' => ∃ e i, w = ts.length - i /\ i <= ts.length /\ ((rrun places r ts (rs0 start) i).f : Int) <= mo /\ a' = act 142 e [] /\ RSOk (rrun places r ts (rs0 start) i) i /\ RunE e mo cb hb sb db r ta ts.length tc (rrun places r ts (rs0 start) i).f i /\
    RunM H H' cb hb sb db (dayO places pieces (.slice sa start.length sc) cv (.slice ta ts.length tc) mb) (.slice ta ts.length tc) ts i (rrun places r ts (rs0 start) i).cl (rrun places r ts (rs0 start) i).came (rrun places r ts (rs0 start) i).asked (rrun places r ts (rs0 start) i).later (rrun places r ts (rs0 start) i).m) (n := ts.length) ?_ ?_
   ·exact ⟨_, 0, by omega, by omega, (show ((0 : Nat) : Int) <= mo by omega), rfl, hO0, ⟨e0, e1, e2, e6, e7, e8, rfl, rfl, rfl, rfl⟩, hM0⟩
   ·rintro w a' H6 ⟨e, i, rfl, hi, hfm, rfl, hO, ⟨e0, e1, e2, e6, e7, e8, e11, e59, e60, e61⟩, hM⟩
    clear hM0 hO0
    by_cases hlt : i < ts.length
    ·have hstep : rrun places r ts (rs0 start) (i + 1) = rstep places r ts i ts[i] (rrun places r ts (rs0 start) i) := by simp [rrun, List.getD, List.getElem?_eq_getElem hlt]
     have hti := List.getElem?_eq_getElem hlt
     have htb := h6 _ (List.getElem_mem hlt)
     have hO' := hO.step places r ts ts[i] hlt (by omega) htb.1 htb.2
     rw [<- hstep] at hO'
     clear hfm
     have hFl := Bya places r ts (rs0 start) (i + 1) (ts.length - (i + 1))
     rw [show i + 1 + (ts.length - (i + 1)) = ts.length by omega] at hFl
     generalize hS1 : rrun places r ts (rs0 start) (i + 1) = S1 at hstep hO' hFl
     replace hFl : Aqs _ := hFl
     generalize rrun places r ts (rs0 start) i = S at hstep hO e7 hM
     generalize ts[i] = t at hstep hti htb
     replace hstep := hstep.symm
     obtain ⟨b, o, cap', p, c, fr, hve, _, hb', hx⟩ := hM.t.cons (fun h => absurd (congrArg List.length h) (by simp only [List.length_nil]; omega))
     cases hve
     have hxi := hx i t hti
     have hcl : (ints S.cl).length = 8 := by rw [Aq7]; exact hO.cl
     have vcb6 := hM.c
     have vsb6 := hM.s
     have hi8 : i < 8 := by omega
     (refine @unH _ ?_; refine zSi Aq8 ?_; (repeat (refine inC ?_; intro hc)); try (refine inK ?_; intro K hK))
     refine Aql ?_
     (refine @unH _ ?_; refine zSi Aq8 ?_; (repeat (refine inC ?_; intro hc)); try (refine inK ?_; intro K hK))
     refine Aql (Aqo ?_)
     (refine @unH _ ?_; refine zSi Aq8 ?_; (repeat (refine inC ?_; intro hc)); try (refine inK ?_; intro K hK))
     rw [Az7]
     have hM7 := hM.setC h0c ncb' nsc ncd (S.cl.set i (-1))
     generalize H6.set cb (Cqb (S.cl.set i (-1))) = H7 at *
     clear hM vcb6 vsb6 hb' hxi hx hcl
     refine (Ayi main H7 db places pieces _ cv _ ts mb hM7.d hM7.t i S.m t hti htb.1 htb.2 hO.m).runs.mono ?_
     rintro _ H8 ⟨rfl, lH8⟩
     have hM8 := hM7.le lH8
     clear hM7 lH8
     ((try (refine @unH _ ?_; refine zXi Aq8 ?_)); (try (refine hK _ _ ?_; clear hK K; (try simp only [nq, ↓reduceIte, Nat.reduceEqDiff]))); refine @unH _ ?_; refine zSi Aq8 ?_; (repeat (refine inC ?_; intro hc)); try (refine inK ?_; intro K hK))
     refine Akf (fun a' H' => ∃ e, a' = act 142 e [] /\ RunE e mo cb hb sb db r (some ⟨b, o, none⟩) ts.length tc S.f i /\ e 12 = .int .i64 i /\ e 13 = .int .i64 t /\ e 14 = .bool (!S.m.testBit t.toNat) /\ e 15 = .bool (Bjq places S.m t) /\
      RunM H H' cb hb sb db (dayO places pieces (.slice sa start.length sc) cv (.slice (some ⟨b, o, none⟩) ts.length tc) mb) (.slice (some ⟨b, o, none⟩) ts.length tc) ts i (S.cl.set i (-1)) S.came S.asked S1.later S.m) ?_ ?_
     ·have hlat : S1.later = if r = 3 /\ Bjq places S.m t then Azu ts (i + 1) else S.later := by rw [<- hstep]; rfl
      (refine @unH _ ?_; refine Cwn ?_; (repeat (refine inC ?_; intro hc)); try (refine inK ?_; intro K hK))
      (intro nb hnb; generalize hG : Hp.set _ nb _ = H9; have lH9 := Aqg hG hnb; have vnb := Aqf hG; clear hG)
      have hM9 := hM8.le lH9
      clear hM8 lH9 vnb hnb
      have vhb9 := hM9.h
      cases hsnd : Bjq places S.m t
      ·rw [hsnd] at hlat
       simp only [Bool.false_eq_true, and_false, if_false] at hlat
       have hsb : (!S.m.testBit t.toNat && decide (places <= ↑(Aq4 S.m))) = false := hsnd
       rw [hsb]
       have hM9' := hlat.symm ▸ hM9
       by_cases hr : r = 3
       ·((try (refine @unH _ ?_; refine Dqo ?_)); (try (refine hK _ _ ?_; clear hK K; (try simp only [nq, ↓reduceIte, Nat.reduceEqDiff]))); refine @unH _ ?_; refine Cwn ?_; (repeat (refine inC ?_; intro hc)); try (refine inK ?_; intro K hK))
        exact ⟨_, rfl, ⟨e0, e1, e2, e6, e7, e8, e11, e59, e60, e61⟩, rfl, rfl, rfl, by rw [hsnd]; rfl, hM9'⟩
       ·((try (refine @unH _ ?_; refine Dqo ?_)); (try (refine hK _ _ ?_; clear hK K; (try simp only [nq, ↓reduceIte, Nat.reduceEqDiff]))); refine @unH _ ?_; refine Cwn ?_; (repeat (refine inC ?_; intro hc)); try (refine inK ?_; intro K hK))
        exact ⟨_, rfl, ⟨e0, e1, e2, e6, e7, e8, e11, e59, e60, e61⟩, rfl, rfl, rfl, by rw [hsnd]; rfl, hM9'⟩
      ·rw [hsnd] at hlat
       have hsb : (!S.m.testBit t.toNat && decide (places <= ↑(Aq4 S.m))) = true := hsnd
       rw [hsb]
       by_cases hr : r = 3
       ·rw [if_pos ⟨hr, rfl⟩] at hlat
        ((try (refine @unH _ ?_; refine Dqo ?_)); (try (refine hK _ _ ?_; clear hK K; (try simp only [nq, ↓reduceIte, Nat.reduceEqDiff]))); refine @unH _ ?_; refine Cwn ?_; (repeat (refine inC ?_; intro hc)); try (refine inK ?_; intro K hK))
        refine (Cvf main H9 db places pieces _ cv _ ts mb hM9.d hM9.t hb S.came S.asked S.later hO.came hO.asked hO.later hM9.h nhd' (by omega) h6 i hlt).runs.mono ?_
        rintro _ H10 ⟨rfl, hH10⟩
        rw [hH10]; clear hH10 H10
        have hM10 := hM9.setH h0h ncb nsh nhd S.came S.asked (Azu ts (i + 1))
        rw [<- hlat] at hM10 ⊢
        clear hlat
        ((try (refine @unH _ ?_; refine zXi Aq8 ?_)); (try (refine hK _ _ ?_; clear hK K; (try simp only [nq, ↓reduceIte, Nat.reduceEqDiff]))); refine @unH _ ?_; refine zAi Aq8 ?_; (repeat (refine inC ?_; intro hc)); try (refine inK ?_; intro K hK))
        exact ⟨_, rfl, ⟨e0, e1, e2, e6, e7, e8, e11, e59, e60, e61⟩, rfl, rfl, rfl, by rw [hsnd]; rfl, hM10⟩
       ·rw [if_neg (fun h => hr h.1)] at hlat
        have hM9' := hlat.symm ▸ hM9
        ((try (refine @unH _ ?_; refine Dqo ?_)); (try (refine hK _ _ ?_; clear hK K; (try simp only [nq, ↓reduceIte, Nat.reduceEqDiff]))); refine @unH _ ?_; refine Cwn ?_; (repeat (refine inC ?_; intro hc)); try (refine inK ?_; intro K hK))
        exact ⟨_, rfl, ⟨e0, e1, e2, e6, e7, e8, e11, e59, e60, e61⟩, rfl, rfl, rfl, by rw [hsnd]; rfl, hM9'⟩
     ·rintro a' H9 ⟨e', rfl, ⟨e0', e1', e2', e6', e7', e8', e11', e59', e60', e61'⟩, e12', e13', e14', e15', hM9⟩
      clear hM8 e0 e1 e2 e6 e7 e8 e11 e59 e60 e61
      rename_i eold
      clear eold
      refine Akf (fun a' H' => ∃ e, a' = act 142 e [] /\ RunE e mo cb hb sb db r (some ⟨b, o, none⟩) ts.length tc S.f i /\ e 12 = .int .i64 i /\ e 13 = .int .i64 t /\ e 14 = .bool (!S.m.testBit t.toNat) /\
       RunM H H' cb hb sb db (dayO places pieces (.slice sa start.length sc) cv (.slice (some ⟨b, o, none⟩) ts.length tc) mb) (.slice (some ⟨b, o, none⟩) ts.length tc) ts i S1.cl S.came S.asked S1.later S.m) ?_ ?_
      ·have hcl1 : S1.cl = S.cl.set i (if Bjq places S.m t then Awp (Awc r S.came S.asked S1.later) (Ax4 S.m) else -1) := by
        rw [<- hstep]
        simp only [rstep, Bqk]
        cases Bjq places S.m t
        ·rfl
        ·simp only [if_true, and_true]
       have vsb9 := hM9.s
       cases hsnd : Bjq places S.m t
       ·rw [hsnd] at hcl1 e15'
        simp only [Bool.false_eq_true, if_false] at hcl1
        rw [<- hcl1] at hM9
        clear hcl1
        (refine @unH _ ?_; refine zAi Aq8 ?_; (repeat (refine inC ?_; intro hc)); try (refine inK ?_; intro K hK))
        exact ⟨_, rfl, ⟨e0', e1', e2', e6', e7', e8', e11', e59', e60', e61'⟩, e12', e13', e14', hM9⟩
       ·rw [hsnd] at hcl1 e15'
        simp only [if_true] at hcl1
        (refine @unH _ ?_; refine zAi Aq8 ?_; (repeat (refine inC ?_; intro hc)); try (refine inK ?_; intro K hK))
        refine (Bjd main H9 S.m hO.m).runs.mono ?_
        rintro _ H10 ⟨lv, rfl, hlv, lH10⟩
        have hM10 := hM9.le lH10
        have hlm : ∀ x ∈ Ax4 S.m, 0 <= x /\ x < 6 := fun x hx => ⟨(Aji hx).1, (Aji hx).2.1⟩
        have hll : (Ax4 S.m).length <= 6 := Bxw S.m 6
        clear hM9 lH10
        have hlvS := hlv
        obtain ⟨la, lc, rfl, hlc, _⟩ := hlv
        generalize hL : Ax4 S.m = L at *
        ((try (refine @unH _ ?_; refine zXi Aq8 ?_)); (try (refine hK _ _ ?_; clear hK K; (try simp only [nq, ↓reduceIte, Nat.reduceEqDiff]))); refine @unH _ ?_; refine zAi Aq8 ?_; (repeat (refine inC ?_; intro hc)); try (refine inK ?_; intro K hK))
        refine Axe (fun w a' H' => ∃ e k, w = L.length - k /\ k <= L.length /\ a' = act 142 e [] /\ RunE e mo cb hb sb db r (some ⟨b, o, none⟩) ts.length tc S.f i /\ e 12 = .int .i64 i /\ e 13 = .int .i64 t /\ e 14 = .bool (!S.m.testBit t.toNat) /\ e 89 = .slice la L.length lc /\ e 90 = .int .i64 L.length /\ e 91 = .int .i64 k /\ SlI H' (.slice la L.length lc) L /\
         RunM H H' cb hb sb db (dayO places pieces (.slice sa start.length sc) cv (.slice (some ⟨b, o, none⟩) ts.length tc) mb) (.slice (some ⟨b, o, none⟩) ts.length tc) ts i (S.cl.set i (Awp (Awc r S.came S.asked S1.later) (L.take k))) S.came S.asked S1.later S.m) (n := L.length) ?_ ?_
        ·exact ⟨_, 0, by omega, by omega, rfl, ⟨e0', e1', e2', e6', e7', e8', e11', e59', e60', e61'⟩, e12', e13', e14', rfl, rfl, rfl, hlvS, hM10⟩
        ·clear hM10 e0' e1' e2' e6' e7' e8' e11' e59' e60' e61' e12' e13' e14' e15' hlvS
         rename_i eold
         clear eold
         rintro w a' H11 ⟨e, k, rfl, hk, rfl, ⟨e0, e1, e2, e6, e7, e8, e11, e59, e60, e61⟩, e12, e13, e14, e89, e90, e91, hlv, hM⟩
         by_cases hltk : k < L.length
         ·obtain ⟨b2, o2, cap2, p2, c2, fr2, hve, _, hb2, hx2⟩ := hlv.cons (fun h => absurd (congrArg List.length h) (by simp only [List.length_nil]; omega))
          cases hve
          have hxk := hx2 k L[k] (List.getElem?_eq_getElem hltk)
          have hqb := hlm _ (List.getElem_mem hltk)
          have hfold : Awp (Awc r S.came S.asked S1.later) (L.take (k + 1)) = if Awp (Awc r S.came S.asked S1.later) (L.take k) < 0 ∨ Awc r S.came S.asked S1.later L[k] < Awc r S.came S.asked S1.later (Awp (Awc r S.came S.asked S1.later) (L.take k)) then L[k] else Awp (Awc r S.came S.asked S1.later) (L.take k) := by
           unfold Awp
           rw [List.take_add_one, List.getElem?_eq_getElem hltk, List.foldl_append]
           rfl
          have hcr : Awp (Awc r S.came S.asked S1.later) (L.take k) = -1 ∨ 0 <= Awp (Awc r S.came S.asked S1.later) (L.take k) /\ Awp (Awc r S.came S.asked S1.later) (L.take k) < 6 := by
           rcases Akh (Awc r S.came S.asked S1.later) (L.take k) (-1) with h | h
           ·exact .inl h
           ·exact .inr (hlm _ (List.mem_of_mem_take h))
          generalize L[k] = q at hxk hqb hfold
          generalize hce : Awp (Awc r S.came S.asked S1.later) (L.take (k + 1)) = c' at hfold
          generalize Awp (Awc r S.came S.asked S1.later) (L.take k) = c0 at hfold hcr hM
          have vcb11 := hM.c
          have vhb11 := hM.h
          have hcl8 : (S.cl.set i c0).length = 8 := by rw [List.length_set]; exact hO.cl
          have hcl8i : (ints (S.cl.set i c0)).length = 8 := by rw [Aq7]; exact hcl8
          have hci : (ints (S.cl.set i c0))[i]? = some (.int .i64 c0) := by
           refine Ajv ?_
           rw [List.getElem?_set_self (by have := hO.cl; omega)]
          have hrb : ∀ x ∈ S1.later, 0 <= x /\ x <= 1000 := hO'.bnd
          (refine @unH _ ?_; refine zSi Aq8 ?_; (repeat (refine inC ?_; intro hc)); try (refine inK ?_; intro K hK))
          refine Aql ?_
          (refine @unH _ ?_; refine zSi Aq8 ?_; (repeat (refine inC ?_; intro hc)); try (refine inK ?_; intro K hK))
          refine Aql (Aqo ?_)
          (refine @unH _ ?_; refine zSi Aq8 ?_; (repeat (refine inC ?_; intro hc)); try (refine inK ?_; intro K hK))
          rcases hcr with rfl | ⟨hc1, hc2⟩
          ·refine Akj 18 [(true, 0), (true, 1), (true, 2), (true, 3), (true, 4), (true, 5), (true, 6), (true, 7), (true, 8), (true, 9), (true, 10), (true, 11), (true, 12), (true, 13), (true, 14), (true, 15), (true, 16), (true, 17)] (by kernel_rfl) (by kernel_rfl) (by simp) (by kernel_rfl) ?_; intro K hK
           (iterate 5 (refine @unH _ ?_; refine z3i Aq8 ?_))
           (iterate 12 (apply Cvy rfl (by simp -implicitDefEqProofs (disch := omega) only [Ak3, Avh, Bxl, List.getElem?_cons_succ, List.getElem?_cons_zero, Option.bind_some, act_get?, Aqr, Nat.reduceEqDiff, ↓reduceIte, *]; rfl); simp -implicitDefEqProofs (disch := first | omega | (simp only [qd] <;> omega)) only [Aqn, Aqc]))
           (refine @unH _ ?_; refine z3i Aq8 ?_)
           refine Ax1 (hK _ _ ?_); clear hK K
           (refine @unH _ ?_; refine zAi Aq8 ?_; (repeat (refine inC ?_; intro hc)); try (refine inK ?_; intro K hK))
           have hc' : c' = q := by rw [hfold]; simp
           have hset : (ints (S.cl.set i (-1))).set i (Value.int .i64 q) = ints (S.cl.set i c') := by rw [Az7, List.set_set, hc']
           rw [hset]
           exact ⟨_, by omega, _, k + 1, rfl, hltk, rfl, ⟨e0, e1, e2, e6, e7, e8, e11, e59, e60, e61⟩, e12, e13, e14, e89, e90, rfl, hlv.set (fun p c fr h => by rw [hM.c] at h; cases h), by rw [hce]; exact hM.setC h0c ncb' nsc ncd _⟩
          ·refine Akj 18 [(true, 0), (true, 1), (true, 2), (true, 3), (true, 4), (true, 5), (true, 6), (true, 7), (true, 8), (true, 9), (true, 10), (true, 11), (true, 12), (true, 13), (true, 14), (true, 15), (true, 16), (true, 17)] (by kernel_rfl) (by kernel_rfl) (by simp) (by kernel_rfl) ?_; intro K hK
           (iterate 5 (refine @unH _ ?_; refine z3i Aq8 ?_))
           (iterate 2 (refine @unH _ ?_; refine z6i Aq8 ?_))
           (apply Axc rfl (by simp -implicitDefEqProofs (disch := omega) only [Ak3, Avh, Bxl, List.getElem?_cons_succ, List.getElem?_cons_zero, Option.bind_some, act_get?, Aqr, Nat.reduceEqDiff, ↓reduceIte, beq_self_eq_true, *]) rfl; (focus ((refine @unH _ ?_; refine zXi Aq8 ?_); exact Bjo main _ r q hb _ _ _ hO.came hO.asked hO'.later hrb hqb.1 hqb.2 hM.h hr0 hr3)); simp -implicitDefEqProofs (disch := first | omega | (simp only [qd] <;> omega)) only [Aqn, Aqc])
           (iterate 5 (refine @unH _ ?_; refine z6i Aq8 ?_))
           (refine @unH _ ?_; refine z6i (And.intro Aq8 @Cy3) ?_)
           (refine @unH _ ?_; refine z6i Aq8 ?_)
           (apply Axc rfl (by simp -implicitDefEqProofs (disch := omega) only [Ak3, Avh, Bxl, List.getElem?_cons_succ, List.getElem?_cons_zero, Option.bind_some, act_get?, Aqr, Nat.reduceEqDiff, ↓reduceIte, beq_self_eq_true, *]) rfl; (focus ((refine @unH _ ?_; refine zXi Aq8 ?_); exact Bjo main _ r c0 hb _ _ _ hO.came hO.asked hO'.later hrb hc1 hc2 hM.h hr0 hr3)); simp -implicitDefEqProofs (disch := first | omega | (simp only [qd] <;> omega)) only [Aqn, Aqc])
           (refine @unH _ ?_; refine z6i Aq8 ?_)
           (refine @unH _ ?_; refine z3i Aq8 ?_)
           refine Ax1 (hK _ _ ?_); clear hK K
           repeat' (first
 | (refine Axn rfl ?_; intro K hK; simp -implicitDefEqProofs (disch := first | omega | (simp only [qd] <;> omega)) only [xq, ↓xp, qc, Nat.reduceAdd, List.range, List.range.loop, fine, Nat.reduceEqDiff, ↓reduceIte, yielded, reduceCtorEq, Nat.reduceLT, Nat.reduceMul, Nat.reduceSub, one, Nat.reduceLeDiff, Aqa, Aq8, ↓Axx, aq, ↓ap, qe0, qe1, qe2, *, -hK]; try (refine hK _ _ ?_; clear hK K))
 | (refine Axs rfl ?_; intro K hK; simp -implicitDefEqProofs (disch := first | omega | (simp only [qd] <;> omega)) only [xq, ↓xp, qc, Nat.reduceAdd, List.range, List.range.loop, fine, Nat.reduceEqDiff, ↓reduceIte, yielded, reduceCtorEq, Nat.reduceLT, Nat.reduceMul, Nat.reduceSub, one, Nat.reduceLeDiff, Aqa, Aq8, ↓Axx, aq, ↓ap, qe0, qe1, qe2, *, -hK]; try (refine hK _ _ ?_; clear hK K; (try simp only [nq, ↓reduceIte, Nat.reduceEqDiff])))
 | (refine Aqu ?_; (try simp only [nq, ↓reduceIte, Nat.reduceEqDiff]))
 | (refine Axr ?_; (try simp only [nq, ↓reduceIte, Nat.reduceEqDiff]))
 | (refine Axa ?_; (try simp only [nq, ↓reduceIte, Nat.reduceEqDiff]))
 | (refine Azb ?_; (try simp only [nq, ↓reduceIte, Nat.reduceEqDiff]))
 | (refine Axy (by simp only [Aqm, Aqr, Nat.reduceEqDiff, Nat.reduceLT, ↓reduceIte, *]; rfl) ?_ ?_ <;> (intro hc; first | (exfalso; simp -implicitDefEqProofs (disch := omega) only [*, bq, reduceCtorEq] at hc; done) | (simp only [dq, qe3, qe4, qe5, qe6] at hc) | skip))
 | (refine Axq ?_)
 | (refine Aqo ?_)
 | (refine Aql ?_))
           ·have hc' : c' = q := by rw [hfold, if_pos (.inr hc)]
            have hset : (ints (S.cl.set i c0)).set i (Value.int .i64 q) = ints (S.cl.set i c') := by rw [Az7, List.set_set, hc']
            rw [hset]
            exact ⟨_, by omega, _, k + 1, rfl, hltk, rfl, ⟨e0, e1, e2, e6, e7, e8, e11, e59, e60, e61⟩, e12, e13, e14, e89, e90, rfl, hlv.set (fun p c fr h => by rw [hM.c] at h; cases h), by rw [hce]; exact hM.setC h0c ncb' nsc ncd _⟩
           ·have hc' : c' = c0 := by rw [hfold, if_neg (by omega)]
            exact ⟨_, by omega, _, k + 1, rfl, hltk, rfl, ⟨e0, e1, e2, e6, e7, e8, e11, e59, e60, e61⟩, e12, e13, e14, e89, e90, rfl, hlv, by rw [hce, hc']; exact hM⟩
         ·obtain rfl : k = L.length := by omega
          rw [List.take_length, <- hcl1] at hM
          clear hcl1
          (refine @unH _ ?_; refine zAi Aq8 ?_; (repeat (refine inC ?_; intro hc)); try (refine inK ?_; intro K hK))
          exact ⟨_, rfl, ⟨e0, e1, e2, e6, e7, e8, e11, e59, e60, e61⟩, e12, e13, e14, hM⟩
      ·rintro a' H9 ⟨e, rfl, ⟨e0, e1, e2, e6, e7, e8, e11, e59, e60, e61⟩, e12, e13, e14, hM⟩
       clear hM9 e0' e1' e2' e6' e7' e8' e11' e59' e60' e61' e12' e13' e14' e15'
       rename_i eold
       clear eold
       have hSf : S1.f = S.f + if S.m.testBit t.toNat then 0 else 1 := by rw [<- hstep]; rfl
       have hSc : S1.came = if S.m.testBit t.toNat then S.came else S.came.set t.toNat i := by rw [<- hstep]; rfl
       refine Akf (fun a' H' => ∃ e, a' = act 142 e [] /\ RunE e mo cb hb sb db r (some ⟨b, o, none⟩) ts.length tc S1.f i /\ e 12 = .int .i64 i /\ e 13 = .int .i64 t /\
        RunM H H' cb hb sb db (dayO places pieces (.slice sa start.length sc) cv (.slice (some ⟨b, o, none⟩) ts.length tc) mb) (.slice (some ⟨b, o, none⟩) ts.length tc) ts i S1.cl S1.came S.asked S1.later S.m) ?_ ?_
       ·have vhb9 := hM.h
        have hlen18 := Av5 hO.came hO.asked hO'.later
        have hf8 : S.f <= i := hO.f
        cases hbit : S.m.testBit t.toNat
        ·rw [hbit] at hSf hSc e14
         simp only [Bool.false_eq_true, if_false] at hSf hSc
         (refine @unH _ ?_; refine zAi Aq8 ?_; (repeat (refine inC ?_; intro hc)); try (refine inK ?_; intro K hK))
         rw [Bwv hO.came _ (by omega), <- hSc]
         refine ⟨_, rfl, ⟨e0, e1, e2, e6, ?_, e8, e11, e59, e60, e61⟩, e12, e13, hM.setH h0h ncb nsh nhd _ _ _⟩
         rw [hSf]; rfl
        ·rw [hbit] at hSf hSc e14
         simp only [if_true, Nat.add_zero] at hSf hSc
         (refine @unH _ ?_; refine zAi Aq8 ?_; (repeat (refine inC ?_; intro hc)); try (refine inK ?_; intro K hK))
         exact ⟨_, rfl, ⟨e0, e1, e2, e6, by rw [hSf]; exact e7, e8, e11, e59, e60, e61⟩, e12, e13, by rw [hSc]; exact hM⟩
       ·clear hM e0 e1 e2 e6 e7 e8 e11 e59 e60 e61 e12 e13 e14 hSf hSc
        rename_i eold
        clear eold
        rintro a' H9 ⟨e, rfl, ⟨e0, e1, e2, e6, e7, e8, e11, e59, e60, e61⟩, e12, e13, hM⟩
        have hSa : S1.asked = S.asked.set t.toNat i := by rw [<- hstep]; rfl
        have hSm : S1.m = Aqv S.m (Bqk places r ts i t S) t := by rw [<- hstep]; rfl
        have hScl : S1.cl = S.cl.set i (Bqk places r ts i t S) := by rw [<- hstep]; rfl
        have hcli : S1.cl[i]? = some (Bqk places r ts i t S) := by rw [hScl, List.getElem?_set_self (by have := hO.cl; omega)]
        have hcl8i : (ints S1.cl).length = 8 := by rw [Aq7]; exact hO'.cl
        have hci := Ajv hcli
        have hs6' : Bqk places r ts i t S < 6 := by
         unfold Bqk
         split
         ·exact Cx1 _ _
         ·omega
        have hf' := hO'.f
        have vhb9 := hM.h
        have hlen18 := Av5 hO'.came hO.asked hO'.later
        generalize Bqk places r ts i t S = sent at hSm hci hs6'
        clear hcli hScl
        by_cases hmo : (S1.f : Int) <= mo
        ·(refine @unH _ ?_; refine zAi Aq8 ?_; (repeat (refine inC ?_; intro hc)); try (refine inK ?_; intro K hK))
         rw [Bww hO'.came hO.asked _ (by omega), <- hSa]
         have hM10 := hM.setH h0h ncb nsh nhd S1.came S1.asked S1.later
         generalize H9.set hb (Ak7 S1.came S1.asked S1.later) = H10 at *
         clear hM vhb9 hlen18
         have vcb10 := hM10.c
         have vsb10 := hM10.s
         refine Az2 6 [(true, 0), (true, 1), (true, 2), (true, 3), (true, 4), (true, 5), (false, 6)] (by kernel_rfl) (by kernel_rfl) (by simp) (by kernel_rfl) ?_; intro K hK
         (iterate 5 (refine @unH _ ?_; refine z3i Aq8 ?_))
         (apply Axc rfl rfl rfl; (focus ((refine @unH _ ?_; refine zXi Aq8 ?_); exact Azo (Akr main H10 db places pieces _ cv _ ts mb hM10.d hM10.t (by omega) i S.m sent t hti htb.1 htb.2 hO.m hs6'))); simp -implicitDefEqProofs (disch := first | omega | (simp only [qd] <;> omega)) only [Aqn, Aqc])
         refine Ajw ?_
         ((try (refine @unH _ ?_; refine zXi Aq8 ?_)); (try (refine hK _ _ ?_; clear hK K; (try simp only [nq, ↓reduceIte, Nat.reduceEqDiff]))); refine @unH _ ?_; refine zAi Aq8 ?_; (repeat (refine inC ?_; intro hc)); try (refine inK ?_; intro K hK))
         have hM11 := hM10.setS h0s nsc' nsh' nsd' (i + 1) (Aqv S.m sent t)
         rw [<- hSm] at hM11
         refine ⟨_, ?_, _, i + 1, rfl, hlt, by rw [hS1]; exact hmo, rfl, by rw [hS1]; exact hO', ⟨e0, e1, e2, e6, by rw [hS1]; exact e7, e8, e11, e59, e60, rfl⟩, ?_⟩
         ·omega
         ·rw [hS1, <- hSm]; exact hM11
        ·have hfin : ∀ H', H.le H' -> R (.panicked [{ v := .iface 154 (.agg #[]), recovered := false }]) H' := (show mo < ((rrun places r ts (rs0 start) ts.length).f : Int) -> _ from hR2) (by have h : S1.f <= (rrun places r ts (rs0 start) ts.length).f := hFl; omega)
         replace hfin : Aqs _ := hfin
         have lfin := hM.l.toLe
         (refine @unH _ ?_; refine Dkv ?_; (repeat (refine inC ?_; intro hc)); try (refine inK ?_; intro K hK))
         refine Aql ?_
         refine Axn rfl ?_; intro K hK
         (refine @unH _ ?_; refine zXi Aq8 ?_)
         refine hK _ _ ?_; clear hK K
         refine Aq9 (t := true) (by simp only [Aqm, Aqr, Nat.reduceEqDiff, Nat.reduceLT, ↓reduceIte, *]) ?_
         simp only [if_true]
         refine Cwf rfl ?_; intro K E hK hE
         (refine @unH _ ?_; refine zXi (And.intro Aq8 (And.intro @Cyl (And.intro @Cqt (And.intro @Ckd @Cke)))) ?_)
         refine hE _ _ _ ?_
         exact (show ∀ H', H.le H' -> R _ H' from hfin) _ lfin
    ·obtain rfl : i = ts.length := by omega
     have vcb6 := hM.c
     have hcl8 : (ints (rrun places r ts (rs0 start) ts.length).cl).length = 8 := by rw [Aq7]; exact hO.cl
     generalize (rrun places r ts (rs0 start) ts.length).f = F at *
     generalize (rrun places r ts (rs0 start) ts.length).cl = C at *
     have htk : (ints C).take 8 = ints C := List.take_of_length_le (by omega)
     have hne0 : ints C ≠ [] := fun h => by rw [h] at hcl8; cases hcl8
     have hone : (ints C).all one = true := List.all_eq_true.2 (Bzr C)
     have hov : over (ints C).toArray 0 (ints C) = (ints C).toArray := by
      rw [Avs _ _ _ (by omega)]
      simp
     (refine @unH _ ?_; refine Dk3 ?_; (repeat (refine inC ?_; intro hc)); try (refine inK ?_; intro K hK))
     (refine Ax7 ?_; (try simp only [nq, ↓reduceIte, Nat.reduceEqDiff]); rw [Axw, results_cell_tmp Tryz.results74 (by decide) (by decide) (b := cb) (o := 0) ?hcell Tryz.underlying85 rfl Tryz.sizeOf85]; (case hcell => exact e6); simp -implicitDefEqProofs (disch := first | omega | (simp only [qd] <;> omega)) only [xq, ↓xp, qc, Nat.reduceAdd, List.range, List.range.loop, fine, Nat.reduceEqDiff, ↓reduceIte, yielded, reduceCtorEq, Nat.reduceLT, Nat.reduceMul, Nat.reduceSub, one, Nat.reduceLeDiff, Aqa, Aq8, ↓Axx, Ajh, htk, hcl8, Nat.le_refl])
     exact (show (F : Int) <= mo -> _ from hR1) hfm _ (hM.l.own h0c).toLe
theorem Cx4 (main : Md) (H : Hp) (db : Nat) (places pieces : Int) (sv cv tv : Value) (ts : List Int) (mb : Nat) (hdb : H db = some (true, dayO places pieces sv cv tv mb)) (hts : SlI H tv ts) (start : List Int) (hst : SlI H sv start) (hs6 : ∀ t ∈ start, 0 <= t /\ t < 6) (hsl : start.length <= 1000)
  (hl : ts.length <= 8) (h6 : ∀ t ∈ ts, 0 <= t /\ t < 6) (r : Int) (hr0 : 0 <= r) (hr3 : r <= 3) :
  FnX Tryz.prog main 74 #[.pointer (some ⟨db, 0, none⟩), Ajr r, .int .i64 ts.length] H fun e H' => e = .returned (.tuple #[.agg (ints (rrun places r ts (rs0 start) ts.length).cl).toArray, .int .i64 (rrun places r ts (rs0 start) ts.length).f]) /\ H.le H' := by
 have hf := (Bvw places r ts start hs6 h6 (by omega) ts.length (Nat.le_refl _)).f
 exact Cx3 main H db places pieces sv cv tv ts mb hdb hts start hst hs6 hsl hl h6 r hr0 hr3 ts.length (by omega) _ (fun _ H' h => ⟨rfl, h⟩) (fun h => absurd h (by omega))
end Go.Proofs.YtgniilnljeedlaaGreatDoor
end
