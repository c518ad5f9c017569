/- Texts Auto Scope Check Ops2 Meths Begin Rules Rank. -/
import Derived.Test.YtgniilnljeedlaaGreatDoorJ12
set_option linter.defProp false
set_option linter.unusedSimpArgs false
set_option linter.unusedVariables false
set_option maxRecDepth 100000
set_option maxHeartbeats 2000000
section
namespace Go.X
open Go
section
variable {P : Program} {main : Md} {lp : Option Nat} {Q : Exit -> Act -> Hp -> Prop} {a : Act} {H : Hp}
def Dx2 (q : Option (Bool × Obj)) (o : Nat) : Option Value := match q with
 | some (_, .cells c _ _) => c[o]?
 | _ => none
theorem Dja {b o : Nat} : H.cell ⟨b, o, none⟩ = Dx2 (H b) o := by
 unfold Hp.cell Dx2
 simp
 rfl
theorem Czu {p : Bool} {c : Array Value} {e : TypeId} {f : Nat × Nat} {o : Nat} : Dx2 (some (p, .cells c e f)) o = c[o]? := rfl
def Cv5 (q : Option (Bool × Obj)) (H : Hp) (b o : Nat) (v : Value) (K : Hp -> Prop) : Prop := match q with
 | some (true, .cells c e (lo, hi)) => o < c.size /\ (decide (lo <= o) && decide (o < hi)) = false /\ K (H.set b (.cells (c.setIfInBounds o v) e (lo, hi)))
 | _ => False
theorem Dj2 {b o : Nat} {v : Value} {K : Hp -> Prop} : stor H b o v K = Cv5 (H b) H b o v K := rfl
theorem Cjq {c : Array Value} {e : TypeId} {b o : Nat} {v : Value} {K : Hp -> Prop} : Cv5 (some (true, .cells c e (0, 0))) H b o v K = (o < c.size /\ K (H.set b (.cells (c.setIfInBounds o v) e (0, 0)))) := by
 simp [Cv5]
def Cxx (q : Option (Bool × Obj)) (o n : Nat) (K : Value -> Prop) : Prop := match q with
 | some (_, .cells c _ _) => o + n <= c.size /\ K (.agg (c.extract o (o + n)))
 | _ => False
theorem Dzc {b o n : Nat} {K : Value -> Prop} : Bzi H b o n K = Cxx (H b) o n K := rfl
theorem Cql {p : Bool} {c : Array Value} {e : TypeId} {f : Nat × Nat} {o n : Nat} {K : Value -> Prop} : Cxx (some (p, .cells c e f)) o n K = (o + n <= c.size /\ K (.agg (c.extract o (o + n)))) := rfl
def Bxy (q : Option (Bool × Obj)) (H : Hp) (b o : Nat) (vs : List Value) (K : Hp -> Prop) : Prop := match q with
 | some (true, .cells c e f) => if f = (0, 0) then (vs.all one) = true /\ o + vs.length <= c.size /\ K (H.set b (.cells (over c o vs) e (0, 0))) else Ayr H b o vs K
 | _ => Ayr H b o vs K
theorem Dzm {b o : Nat} {v : Value} {vs : List Value} {K : Hp -> Prop} : Ayr H b o (v :: vs) K = Bxy (H b) H b o (v :: vs) K := by
 rcases hb : H b with _ | ⟨p, ob⟩
 ·rfl
 ·cases p
  ·rfl
  ·cases ob <;> try rfl
   rename_i c e f
   simp only [Bxy]
   split
   ·rename_i hf; subst hf; rw [Bxb hb]
   ·rfl
theorem Cqy {c : Array Value} {e : TypeId} {b o : Nat} {vs : List Value} {K : Hp -> Prop} : Bxy (some (true, .cells c e (0, 0))) H b o vs K = ((vs.all one) = true /\ o + vs.length <= c.size /\ K (H.set b (.cells (over c o vs) e (0, 0)))) := by
 simp [Bxy]
@[congr] theorem storLK_congr {q q' : Option (Bool × Obj)} {H' : Hp} {b o b' o' : Nat} {vs vs' : List Value} {K : Hp -> Prop} (hq : q = q') (hH : H = H') (hb : b = b') (ho : o = o') (hv : vs = vs') : Bxy q H b o vs K = Bxy q' H' b' o' vs' K := by subst hq hH hb ho hv; rfl
@[congr] theorem storK_congr {q q' : Option (Bool × Obj)} {H' : Hp} {b o b' o' : Nat} {v v' : Value} {K : Hp -> Prop} (hq : q = q') (hH : H = H') (hb : b = b') (ho : o = o') (hv : v = v') : Cv5 q H b o v K = Cv5 q' H' b' o' v' K := by subst hq hH hb ho hv; rfl
@[congr] theorem loadAK_congr {q q' : Option (Bool × Obj)} {o n : Nat} {o' : Nat} {K : Value -> Prop} (hq : q = q') (ho : o = o') : Cxx q o n K = Cxx q' o' n K := by subst hq ho; rfl
theorem Dzl {b x : Nat} {o : Obj} : (H.set b o) x = if x = b then some (true, o) else H x := rfl
theorem Dkk {x y : Nat} (h : x < y) : (x < y) = True := by simp [h]
theorem Dkj {x y : Nat} (h : x <= y) : (x <= y) = True := by simp [h]
theorem Djh {x y : Int} (h : x < y) : decide (x < y) = true := decide_eq_true h
theorem Djg {x y : Int} (h : y <= x) : decide (x < y) = false := decide_eq_false (by omega)
theorem Djf {x y : Int} (h : x <= y) : decide (x <= y) = true := decide_eq_true h
theorem Dje {x y : Int} (h : y < x) : decide (x <= y) = false := decide_eq_false (by omega)
theorem Dz3 {x y : Int} (h : x = y) : (x == y) = true := by simp [h]
theorem Dz2 {x y : Int} (h : x ≠ y) : (x == y) = false := by simp [h]
theorem Dz8 {x y : Int} (h : x ≠ y) : (x != y) = true := by simp [h]
theorem Dz7 {x y : Int} (h : x = y) : (x != y) = false := by simp [h]
theorem Cjr (n : Nat) : ((n : Int)).toNat = n := rfl
theorem Dkt {next : Act -> Hp -> Prop} : thn next Q .normal a H = next a H := rfl
theorem Dkr {next : Act -> Hp -> Prop} {i : Nat} : thn next Q (.exit i) a H = Q (.exit i) a H := rfl
theorem Dks {next : Act -> Hp -> Prop} {i : Nat} : thn next Q (.goto i) a H = Q (.goto i) a H := rfl
theorem Dku {next : Act -> Hp -> Prop} : thn next Q .ret a H = Q .ret a H := rfl
theorem Dkf {id : Nat} : blk id Q .normal a H = Q .normal a H := rfl
theorem Dkd {id i : Nat} : blk id Q (.exit i) a H = if i = id then Q .normal a H else Q (.exit i) a H := rfl
theorem Dke {id i : Nat} : blk id Q (.goto i) a H = Q (.goto i) a H := rfl
theorem Dkg {id : Nat} : blk id Q .ret a H = Q .ret a H := rfl
def yl (ds : List (Option Tmp)) (tmps : Array Value) (j : Nat) : Option Bool := match ((ds[j]?).bind id).bind (tmps[·]?) with
 | some (.bool b) => some b
 | _ => none
def ylK (q : Option Value) : Option Bool := match q with
 | some (.bool b) => some b
 | _ => none
def Dzo (ds : List (Option Tmp)) (o : Oper) (tmps : Array Value) : Bool := match o.guard with
 | none => true
 | some (j, b) => yl ds tmps j == some b
theorem Dj8 {ops : Array Oper} {o : Oper} {tmps : Array Value} : Region.wanted o (yielded ops tmps) = Dzo (ops.toList.map (·.dst)) o tmps := by
 unfold Region.wanted Dzo
 cases o.guard with
 | none => rfl
 | some g =>
  obtain ⟨j, b⟩ := g
  have : yielded ops tmps j = yl (ops.toList.map (·.dst)) tmps j := by
   unfold yielded yl
   simp only [List.getElem?_map, Array.getElem?_toList]
   cases ops[j]? <;> rfl
  simp only [this]
def Dj1 (P : Program) (main : Md) (lp : Option Nat) (ds : List (Option Tmp)) (o : Oper) (Q : Exit -> Act -> Hp -> Prop) (K : Act -> Hp -> Prop) (a : Act) (H : Hp) : Prop :=
 if Dzo ds o a.tmps then fine lp o = true /\ opX P main lp o a H K Q else K (a.put o.dst undef) H
def runL (P : Program) (main : Md) (lp : Option Nat) (ds : List (Option Tmp)) (Q : Exit -> Act -> Hp -> Prop) : List Oper -> Act -> Hp -> Prop
 | [], a, H => Q .normal a H
 | o :: rest, a, H => Dj1 P main lp ds o Q (runL P main lp ds Q rest) a H
theorem Ayj {ops : Array Oper} : ∀ (rest : List Oper) (k : Nat) (a : Act) (H : Hp), ops.toList.drop k = rest -> runL P main lp (ops.toList.map (·.dst)) Q rest a H -> runX P main lp ops Q (List.range' k rest.length) a H
 | [], _, _, _, _, h => h
 | o :: rest, k, a, H, hd, h => by
  simp only [List.length_cons, List.range'_succ]
  unfold runX numX
  have hk : ops[k]? = some o := by
   have := congrArg (·[0]?) hd
   simpa using this
  rw [hk]
  simp only []
  rw [Dj8]
  have hd' : ops.toList.drop (k + 1) = rest := by rw [<- List.drop_drop, hd]; rfl
  unfold runL Dj1 at h
  split
  ·rename_i hw
   rw [if_pos hw] at h
   exact ⟨h.1, Bzs h.2 fun a' H' h' => Ayj rest (k + 1) a' H' hd' h'⟩
  ·rename_i hw
   rw [if_neg hw] at h
   exact Ayj rest (k + 1) _ _ hd' h
theorem Bzu {ops : List Oper} {ds : List (Option Tmp)} (hds : ops.map (·.dst) = ds) (h : runL P main lp ds Q ops a H) : runX P main lp ops.toArray Q (List.range ops.toArray.size) a H := by
 subst hds
 rw [List.range_eq_range']
 have := Ayj (ops := ops.toArray) ops 0 a H (by simp) (by simpa using h)
 simpa using this
theorem Axn {id : Nat} {ops : List Oper} {ds : List (Option Tmp)} {y : Code} (hds : ops.map (·.dst) = ds) (h : ∀ K : Act -> Hp -> Prop, (∀ a' H', wpX P main lp y Q a' H' -> K a' H') -> runL P main lp ds (only K) ops a H) :
 wpX P main lp (.seq (.region id ops.toArray false) y) Q a H := Axh fun K hK => Bzu hds (h K hK)
theorem Axs {id : Nat} {ops : List Oper} {ds : List (Option Tmp)} (hds : ops.map (·.dst) = ds) (h : ∀ K : Act -> Hp -> Prop, (∀ a' H', Q .normal a' H' -> K a' H') -> runL P main lp ds (only K) ops a H) :
 wpX P main lp (.region id ops.toArray false) Q a H := Ajd fun K hK => Bzu hds (h K hK)
@[congr] theorem runL_congr {ds : List (Option Tmp)} {l : List Oper} {a a' : Act} {H H' : Hp} (ha : a = a') (hH : H = H') : runL P main lp ds Q l a H = runL P main lp ds Q l a' H' := by subst ha hH; rfl
def Cqk (q : Option Bool) (b : Bool) (x y : Prop) : Prop := if q == some b then x else y
@[congr] theorem gateL_congr {q q' : Option Bool} {b b' : Bool} {x y : Prop} (hq : q = q') (hb : b = b') : Cqk q b x y = Cqk q' b' x y := by subst hq hb; rfl
theorem Cyv {x y : Prop} : Cqk (some true) true x y = x := rfl
theorem Cys {x y : Prop} : Cqk (some false) false x y = x := rfl
theorem Cyu {x y : Prop} : Cqk (some true) false x y = y := rfl
theorem Cyt {x y : Prop} : Cqk (some false) true x y = y := rfl
theorem Dky {ds : List (Option Tmp)} {tmps : Array Value} {j : Nat} : yl ds tmps j = ylK (((ds[j]?).bind id).bind (tmps[·]?)) := rfl
theorem Bxl {b : Bool} : ylK (some (.bool b)) = some b := rfl
theorem Djo {t : Option Tmp} : id t = t := rfl
theorem Axy {c : Operand} {x y : Code} {t : Bool} (ht : a.eval c = .bool t) (h1 : t = true -> wpX P main lp x Q a H) (h2 : t = false -> wpX P main lp y Q a H) : wpX P main lp (.cond c x y) Q a H := by
 refine Aq9 ht ?_
 cases t
 ·exact h2 rfl
 ·exact h1 rfl
theorem Dqe {ds : List (Option Tmp)} : runL P main lp ds Q [] a H = Q .normal a H := rfl
theorem Dqf {ds : List (Option Tmp)} {d : Option Tmp} {op : Op} {ty : TypeId} {pos : String} {af : Array Edge} {rest : List Oper} :
 runL P main lp ds Q (⟨d, op, ty, pos, af, none⟩ :: rest) a H = (fine lp ⟨d, op, ty, pos, af, none⟩ = true /\ opX P main lp ⟨d, op, ty, pos, af, none⟩ a H (runL P main lp ds Q rest) Q) := rfl
theorem Dju {ds : List (Option Tmp)} {d : Option Tmp} {op : Op} {ty : TypeId} {pos : String} {af : Array Edge} {j : Nat} {b : Bool} {rest : List Oper} :
 runL P main lp ds Q (⟨d, op, ty, pos, af, some (j, b)⟩ :: rest) a H = Cqk (yl ds a.tmps j) b (fine lp ⟨d, op, ty, pos, af, some (j, b)⟩ = true /\ opX P main lp ⟨d, op, ty, pos, af, some (j, b)⟩ a H (runL P main lp ds Q rest) Q) (runL P main lp ds Q rest (a.put d undef) H) := rfl
end
end Go.X
end
section
namespace Go.X
open Go
open Go.Conc (G base)
section
variable {P : Program} {main : Md} {lp : Option Nat} {Q : Exit -> Act -> Hp -> Prop} {a : Act} {H : Hp}
def scp (c : Code) (I : Nat -> Act -> Hp -> Prop) (Q : Exit -> Act -> Hp -> Prop) : Exit -> Act -> Hp -> Prop
 | .normal, a, H => Q .normal a H
 | .exit id, a, H => Q (.exit id) a H
 | .goto l, a, H => if (findLabel c l).isSome then I l a H else Q (.goto l) a H
 | .ret, a, H => Q .ret a H
 | .panic ch, a, H => Q (.panic ch) a H
 | .outgrown, _, _ => False
theorem Dko {c : Code} {I : Nat -> Act -> Hp -> Prop} : scp c I Q .normal a H = Q .normal a H := rfl
theorem Dkn {c : Code} {I : Nat -> Act -> Hp -> Prop} {i : Nat} : scp c I Q (.exit i) a H = Q (.exit i) a H := rfl
theorem Dkp {c : Code} {I : Nat -> Act -> Hp -> Prop} : scp c I Q .ret a H = Q .ret a H := rfl
theorem Bys {c : Code} (I : Nat -> Nat -> Act -> Hp -> Prop) (h : wpX P main lp c (scp c (fun l a H => ∃ n, I l n a H) Q) a H)
  (hr : ∀ l rest n a H, findLabel c l = some rest -> I l n a H -> wpX P main lp rest (scp c (fun l a H => ∃ n', n' < n /\ I l n' a H) Q) a H) : wpX P main lp (.scope c) Q a H := by
 intro b k cs Stop hk hl hc
 have key : ∀ n l rest a H, findLabel c l = some rest -> I l n a H -> WPG P main Stop (G (fat b a (.code rest :: .inScope c :: k)) cs) H := by
  intro n
  induction n using Nat.strongRecOn with
  | _ n ih =>
  intro l rest a H hf hI
  refine hr l rest n a H hf hI b (.inScope c :: k) cs Stop hk hl fun e a' H' q => ?_
  cases e with
  | normal => exact .ctl (g' := G (fat b a' k) cs) rfl (fun w => by simp [G, stepG, stepG.exec, fat]) (hc _ _ _ q)
  | exit id => exact fun k' hk' => hc _ _ _ q k' (hk'.trans (by simp [exitTo]))
  | goto l' =>
   simp only [scp] at q
   split at q
   ·rename_i hs
    obtain ⟨n', hlt, hI'⟩ := q
    obtain ⟨rest', hf'⟩ := Option.isSome_iff_exists.1 hs
    intro k' hk'
    have hx : gotoIn l' k' = some (.code rest' :: .inScope c :: k) := hk'.trans (by simp [gotoIn, hf'])
    exact .ctl (g' := G (fat b a' (.code rest' :: .inScope c :: k)) cs) rfl (fun w => by simp [G, stepG, stepG.exec, fat, hx]) (ih n' hlt l' rest' a' H' hf' hI')
   ·rename_i hs
    have hn : findLabel c l' = none := by simpa using hs
    exact fun k' hk' => hc _ _ _ q k' (hk'.trans (by simp [gotoIn, hn]))
  | ret => exact hc _ _ _ q
  | panic ch => exact hc _ _ _ q
  | outgrown => exact q.elim
 refine .ctl (g' := G (fat b a (.code c :: .inScope c :: k)) cs) rfl (fun w => by simp [G, stepG, stepG.exec, fat]) ?_
 refine h b (.inScope c :: k) cs Stop hk hl fun e a' H' q => ?_
 cases e with
 | normal => exact .ctl (g' := G (fat b a' k) cs) rfl (fun w => by simp [G, stepG, stepG.exec, fat]) (hc _ _ _ q)
 | exit id => exact fun k' hk' => hc _ _ _ q k' (hk'.trans (by simp [exitTo]))
 | goto l' =>
  simp only [scp] at q
  split at q
  ·rename_i hs
   obtain ⟨n', hI'⟩ := q
   obtain ⟨rest', hf'⟩ := Option.isSome_iff_exists.1 hs
   intro k' hk'
   have hx : gotoIn l' k' = some (.code rest' :: .inScope c :: k) := hk'.trans (by simp [gotoIn, hf'])
   exact .ctl (g' := G (fat b a' (.code rest' :: .inScope c :: k)) cs) rfl (fun w => by simp [G, stepG, stepG.exec, fat, hx]) (key n' l' rest' a' H' hf' hI')
  ·rename_i hs
   have hn : findLabel c l' = none := by simpa using hs
   exact fun k' hk' => hc _ _ _ q k' (hk'.trans (by simp [gotoIn, hn]))
 | ret => exact hc _ _ _ q
 | panic ch => exact hc _ _ _ q
 | outgrown => exact q.elim
def scp0 (Q : Exit -> Act -> Hp -> Prop) : Exit -> Act -> Hp -> Prop
 | .normal, a, H => Q .normal a H
 | .exit id, a, H => Q (.exit id) a H
 | .goto _, _, _ => False
 | .ret, a, H => Q .ret a H
 | .panic ch, a, H => Q (.panic ch) a H
 | .outgrown, _, _ => False
theorem Djw : scp0 Q .normal a H = Q .normal a H := rfl
theorem Djv {i : Nat} : scp0 Q (.exit i) a H = Q (.exit i) a H := rfl
theorem Djx : scp0 Q .ret a H = Q .ret a H := rfl
theorem Axq {c : Code} (h : wpX P main lp c (scp0 Q) a H) : wpX P main lp (.scope c) Q a H := by
 refine Bys (fun _ _ _ _ => False) (Avf h fun e a H q => ?_) fun _ _ _ _ _ _ h => h.elim
 cases e <;> first | exact q | exact q.elim
end
def aq := And.intro @Dqe (And.intro @Cyv (And.intro @Cys (And.intro @Cyu (And.intro @Cyt (And.intro @Dky (And.intro @Bxl (And.intro @Djo (And.intro @Dja (And.intro @Czu (And.intro @Dj2 (And.intro @Cjq (And.intro @Dzc (And.intro @Cql (And.intro @Bju (And.intro @Dzm (And.intro @Cqy (And.intro @set_set (And.intro @Dzl (And.intro @Cjr (And.intro @Nat.mul_one (And.intro @true_and (And.intro @and_true (And.intro @decide_true (And.intro @decide_false (And.intro @Dkk (And.intro @Dkj (And.intro @Djh (And.intro @Djg (And.intro @Djf (And.intro @Dje (And.intro @Dz3 (And.intro @Dz2 (And.intro @Dz8 (And.intro @Dz7 (And.intro @Bool.not_true @Bool.not_false)))))))))))))))))))))))))))))))))))
def ap := And.intro @Dqf @Dju
def qe0 := @exists_eq_left'
def qe1 := @if_true
def qe2 := @if_false
def qe3 := @beq_iff_eq
def qe4 := @beq_eq_false_iff_ne
def qe5 := @bne_iff_ne
def qe6 := @bne_eq_false_iff_eq
def bq := And.intro @Djh (And.intro @Djg (And.intro @Djf (And.intro @Dje (And.intro @Dz3 (And.intro @Dz2 (And.intro @Dz8 (And.intro @Dz7 (And.intro @decide_true (And.intro @decide_false (And.intro @Bool.not_true (And.intro @Bool.not_false (And.intro @Bool.false_eq_true (And.intro @Bool.and_self (And.intro @Bool.and_true (And.intro @Bool.and_false (And.intro @Bool.true_and @Bool.false_and))))))))))))))))
def dq := And.intro @decide_eq_true_eq (And.intro @decide_eq_false_iff_not (And.intro @Bool.not_eq_true' (And.intro @Bool.not_eq_false' (And.intro @Int.not_lt @Int.not_le))))
def nq := And.intro @Dko (And.intro @Dkn (And.intro @Dkp (And.intro @Djw (And.intro @Djv (And.intro @Djx (And.intro @Dkt (And.intro @Dkr (And.intro @Dks (And.intro @Dku (And.intro @Dkf (And.intro @Dkd (And.intro @Dke @Dkg))))))))))))
end Go.X
end
section
namespace Go.Proofs.YtgniilnljeedlaaGreatDoor
open Go Go.X
def Azc := And.intro (fun H => Aqh (H := H) Tryz.underlying25 (i := 0) rfl (off := 0) rfl Tryz.sizeOf3) (And.intro (fun H => Aqd (H := H) Tryz.underlying3 rfl) (And.intro @Ckl (And.intro (fun H => Aqh (H := H) Tryz.underlying25 (i := 1) rfl (off := 1) rfl Tryz.sizeOf3) (And.intro (fun H => Aqh (H := H) Tryz.underlying25 (i := 2) rfl (off := 2) rfl Tryz.sizeOf22) (And.intro (fun H => Aqd (H := H) Tryz.underlying22 rfl) (And.intro (fun H => Aq5 (H := H) Tryz.underlying22) (And.intro (fun H => Aqq (H := H) Tryz.underlying22 Tryz.sizeOf3) (And.intro @By5 (And.intro @Bk5 (And.intro (fun H => Aqh (H := H) Tryz.underlying25 (i := 3) rfl (off := 3) rfl Tryz.sizeOf23) (And.intro (fun H => Aqd (H := H) Tryz.underlying23 rfl) (And.intro (fun H => Aq5 (H := H) Tryz.underlying23) (fun H => Aqq (H := H) Tryz.underlying23 Tryz.sizeOf22)))))))))))))
theorem Bw5 (m : Md) (H : Hp) (n lo hi : Int) :
  FnX Tryz.prog m 82 #[.int .i64 n, .int .i64 lo, .int .i64 hi] H fun e H' => e = .returned (.bool (decide (n < lo) || decide (hi < n))) /\ H' = H := by
 refine Aqk Tryz.func82 rfl Tryz.ntmps82 (by simp) ?_
 by_cases h : n < lo
 ·(refine @unH _ ?_; refine z1 trivial ?_)
  (refine Axh ?_; intro K hK; simp -implicitDefEqProofs (disch := first | omega | (simp only [qd] <;> omega)) only [xq, ↓xp, qc, Nat.reduceAdd, List.range, List.range.loop, fine, Nat.reduceEqDiff, ↓reduceIte, yielded, reduceCtorEq, Nat.reduceLT, Nat.reduceMul, Nat.reduceSub, one, Nat.reduceLeDiff, Aqa, decide_eq_true h]; refine hK _ _ ?_; clear hK K)
  (refine @unH _ ?_; refine z9 Tryz.results82 ?_)
  simp [h]
 ·(refine @unH _ ?_; refine z1 trivial ?_)
  (refine Axh ?_; intro K hK; simp -implicitDefEqProofs (disch := first | omega | (simp only [qd] <;> omega)) only [xq, ↓xp, qc, Nat.reduceAdd, List.range, List.range.loop, fine, Nat.reduceEqDiff, ↓reduceIte, yielded, reduceCtorEq, Nat.reduceLT, Nat.reduceMul, Nat.reduceSub, one, Nat.reduceLeDiff, Aqa, decide_eq_false h]; refine hK _ _ ?_; clear hK K)
  (refine @unH _ ?_; refine z9 Tryz.results82 ?_)
  simp [h]
theorem Aj7 (m : Md) (H : Hp) (n lo hi : Int) (h0 : lo <= n) (h1 : n <= hi) :
  FnX Tryz.prog m 82 #[.int .i64 n, .int .i64 lo, .int .i64 hi] H fun e H' => e = .returned (.bool false) /\ H' = H :=
 (Bw5 m H n lo hi).mono fun e H' ⟨he, hH⟩ => ⟨by rw [he, decide_eq_false (by omega), decide_eq_false (by omega)]; rfl, hH⟩
theorem Bvn (m n k : Nat) : (Aky m n).testBit k = (m.testBit k || decide (n = k)) := by
 unfold Aky
 rw [Nat.testBit_or, Nat.testBit_two_pow]
theorem Bqz : ∀ (xs : List Int) (m : Nat), (∀ x ∈ xs, 0 <= x) -> ∀ y : Int, 0 <= y -> (xs.foldl (fun m x => Aky m x.toNat) m).testBit y.toNat = (m.testBit y.toNat || decide (y ∈ xs))
 | [], m, _, y, _ => by simp
 | x :: xs, m, h, y, hy => by
  rw [List.foldl_cons, Bqz xs _ (fun z hz => h z (List.mem_cons_of_mem _ hz)) y hy, Bvn, Bool.or_assoc]
  congr 1
  have hx := h x List.mem_cons_self
  have : decide (x.toNat = y.toNat) = decide (y = x) := by
   by_cases e : y = x
   ·subst e; simp
   ·rw [decide_eq_false e, decide_eq_false (by omega)]
  rw [this, <- Bool.decide_or]
  simp [List.mem_cons]
theorem Cqr (xs : List Int) (h : ∀ x ∈ xs, 0 <= x) (y : Int) (hy : 0 <= y) : (oOf xs).testBit y.toNat = decide (y ∈ xs) := by
 unfold oOf
 rw [Bqz xs 0 h y hy]
 simp
theorem Ayf (main : Md) (H : Hp) (places pieces : Int) (sv cv : Value) (start : List Int) (xss : List (List Int)) (hsv : SlI H sv start) (hcv : SlR H cv xss) (hok : Az5 places pieces start xss) (hx8 : xss.length <= 8) :
  FnX Tryz.prog main 33 #[.agg #[.int .i64 places, .int .i64 pieces, sv, cv]] H fun e H' => e = .returned (.int .i64 0) /\ H.le H' := by
 obtain ⟨hp1, hp4, hq1, hq6, hsl, hsd, hsb, hcs⟩ := hok
 have hsvS := hsv
 have hcvS := hcv
 obtain ⟨sa, sc, rfl, hsc, _⟩ := hsv
 obtain ⟨ca, cc, rfl, hcc, _⟩ := hcv
 refine Aqk Tryz.func33 rfl Tryz.ntmps33 (by simp) ?_
 (refine @unH _ ?_; refine z8 Azc ?_; try (refine inK ?_; intro K hK))
 intro vb hvb
 refine hK _ _ ?_; clear hK K
 have hle := Hp.le_set hvb (o := .cells #[.int .i64 places, .int .i64 pieces, .slice sa start.length sc, .slice ca xss.length cc] 25 (0, 0))
 have hvb1 : (H.set vb (.cells #[.int .i64 places, .int .i64 pieces, .slice sa start.length sc, .slice ca xss.length cc] 25 (0, 0))) vb = _ := Aqw
 have hsv1 := hsvS.le hle
 have hcv1 := hcvS.le hle
 generalize H.set vb (.cells #[.int .i64 places, .int .i64 pieces, .slice sa start.length sc, .slice ca xss.length cc] 25 (0, 0)) = H1 at *
 refine Aql ?_
 (refine Axh ?_; intro K hK; simp -implicitDefEqProofs (disch := first | omega | (simp only [qd] <;> omega)) only [xq, ↓xp, qc, Nat.reduceAdd, List.range, List.range.loop, fine, Nat.reduceEqDiff, ↓reduceIte, yielded, reduceCtorEq, Nat.reduceLT, Nat.reduceMul, Nat.reduceSub, one, Nat.reduceLeDiff, Aqa, Azc, cell_of hvb1, exists_eq_left'])
 refine (Aj7 main _ places 1 4 hp1 hp4).runs.mono ?_
 rintro _ H2 ⟨rfl, hh⟩
 rw [hh]; clear hh H2
 simp -implicitDefEqProofs (disch := first | omega | (simp only [qd] <;> omega)) only [xq, ↓xp, qc, Nat.reduceAdd, List.range, List.range.loop, fine, Nat.reduceEqDiff, ↓reduceIte, yielded, reduceCtorEq, Nat.reduceLT, Nat.reduceMul, Nat.reduceSub, one, Nat.reduceLeDiff, Aqa, Azc, cell_of hvb1, exists_eq_left']
 refine (Aj7 main _ pieces 1 6 hq1 hq6).runs.mono ?_
 rintro _ H2 ⟨rfl, hh⟩
 rw [hh]; clear hh H2
 simp -implicitDefEqProofs (disch := first | omega | (simp only [qd] <;> omega)) only [xq, ↓xp, qc, Nat.reduceAdd, List.range, List.range.loop, fine, Nat.reduceEqDiff, ↓reduceIte, yielded, reduceCtorEq, Nat.reduceLT, Nat.reduceMul, Nat.reduceSub, one, Nat.reduceLeDiff, Aqa, Azc, cell_of hvb1, exists_eq_left']
 refine hK _ _ ?_; clear hK K
 (refine Aq9 (by simp -implicitDefEqProofs (disch := first | omega | (simp only [qd] <;> omega)) only [Aqm, Aqr, Nat.reduceEqDiff, ↓reduceIte]; rfl) ?_; simp only [Bool.false_eq_true, if_false]; refine Aqu ?_)
 simp -implicitDefEqProofs (disch := first | omega | (simp only [qd] <;> omega)) only [thn, blk, ↓reduceIte, Nat.reduceEqDiff]
 refine Aql ?_
 (refine Axh ?_; intro K hK; simp -implicitDefEqProofs (disch := first | omega | (simp only [qd] <;> omega)) only [xq, ↓xp, qc, Nat.reduceAdd, List.range, List.range.loop, fine, Nat.reduceEqDiff, ↓reduceIte, yielded, reduceCtorEq, Nat.reduceLT, Nat.reduceMul, Nat.reduceSub, one, Nat.reduceLeDiff, Aqa, Azc, cell_of hvb1, exists_eq_left']; refine hK _ _ ?_; clear hK K)
 have hgt : decide (places < (start.length : Int)) = false := decide_eq_false (by omega)
 (refine Aq9 (by simp -implicitDefEqProofs (disch := first | omega | (simp only [qd] <;> omega)) only [Aqm, Aqr, Nat.reduceEqDiff, ↓reduceIte]; rfl) ?_; simp only [hgt, Bool.false_eq_true, if_false]; refine Aqu ?_)
 simp -implicitDefEqProofs (disch := first | omega | (simp only [qd] <;> omega)) only [thn, blk, ↓reduceIte, Nat.reduceEqDiff]
 (refine @unH _ ?_; refine z1 Azc ?_)
 refine Akf (fun a' H' => ∃ e, a' = act 82 e [] /\ e 1 = .pointer (some ⟨vb, 0, none⟩) /\ H' = H1) ?_ ?_
 ·(refine Axh ?_; intro K hK; simp -implicitDefEqProofs (disch := first | omega | (simp only [qd] <;> omega)) only [xq, ↓xp, qc, Nat.reduceAdd, List.range, List.range.loop, fine, Nat.reduceEqDiff, ↓reduceIte, yielded, reduceCtorEq, Nat.reduceLT, Nat.reduceMul, Nat.reduceSub, one, Nat.reduceLeDiff, Aqa, Azc, cell_of hvb1, exists_eq_left']; refine hK _ _ ?_; clear hK K)
  refine Aqo (Axe (fun w a' H' => ∃ e j, w = start.length - j /\ j <= start.length /\ a' = act 82 e [] /\ e 1 = .pointer (some ⟨vb, 0, none⟩) /\ e 3 = .int .u8 (oOf (start.take j) : Nat) /\ e 25 = .slice sa start.length sc /\ e 26 = .int .i64 start.length /\ e 27 = .int .i64 (j : Nat) /\ H' = H1) (n := start.length) ?_ ?_)
  ·exact ⟨_, 0, by omega, by omega, rfl, rfl, rfl, rfl, rfl, rfl, rfl⟩
  ·rintro w a' H' ⟨e, j, rfl, hj, rfl, e1, e3, e25, e26, e27, hH⟩
   rw [hH]
   (refine @unH _ ?_; refine z1 (And.intro Azc (And.intro @e26 @e27)) ?_)
   refine Aql ?_
   refine Aq9 (by simp -implicitDefEqProofs (disch := first | omega | (simp only [qd] <;> omega)) only [Aqm, Aqr, Nat.reduceEqDiff, ↓reduceIte]; rfl) ?_
   by_cases hlt : j < start.length
   ·simp only [Int.ofNat_lt, hlt, decide_true, if_true]
    refine Aqu (Aql (Aqo ?_))
    obtain ⟨_, _, hve, _, hsx⟩ := id hsv1
    cases hve
    obtain ⟨b, o, p, c, fr, rfl, hb, hx⟩ := hsx j start[j] (List.getElem?_eq_getElem hlt)
    have hx' : c[o + (j : Int).toNat * 1]? = some (.int .i64 start[j]) := by simpa using hx
    have hxb := hsb _ (List.getElem_mem hlt)
    have htake : start.take (j + 1) = start.take j ++ [start[j]] := by rw [List.take_add_one, List.getElem?_eq_getElem hlt]; rfl
    have hnew : (oOf (start.take j)).testBit (start[j]).toNat = false := by
     rw [Cqr _ (fun y hy => (hsb y (List.mem_of_mem_take hy)).1) _ hxb.1]
     simp only [decide_eq_false_iff_not]
     intro hmem
     obtain ⟨i, hi, he⟩ := List.getElem_of_mem hmem
     rw [List.getElem_take] at he
     rw [List.length_take] at hi
     have := (List.nodup_iff_pairwise_ne.1 hsd |> List.pairwise_iff_getElem.1) i j (by omega) hlt (by omega)
     exact this he
    have hm64 : oOf (start.take j) < 64 := Ava _ 0 (by omega) fun x h => by have := hsb x (List.mem_of_mem_take h); omega
    generalize start[j] = x at hx hx' hxb htake hnew
    (refine Axh ?_; intro K hK; simp -implicitDefEqProofs (disch := first | omega | (simp only [qd] <;> omega)) only [xq, ↓xp, qc, Nat.reduceAdd, List.range, List.range.loop, fine, Nat.reduceEqDiff, ↓reduceIte, yielded, reduceCtorEq, Nat.reduceLT, Nat.reduceMul, Nat.reduceSub, one, Nat.reduceLeDiff, Aqa, Azc, e25, e27, cell_of hb, hx', exists_eq_left']; refine hK _ _ ?_; clear hK K)
    refine Aql ?_
    (refine Axh ?_; intro K hK; simp -implicitDefEqProofs (disch := first | omega | (simp only [qd] <;> omega)) only [xq, ↓xp, qc, Nat.reduceAdd, List.range, List.range.loop, fine, Nat.reduceEqDiff, ↓reduceIte, yielded, reduceCtorEq, Nat.reduceLT, Nat.reduceMul, Nat.reduceSub, one, Nat.reduceLeDiff, Aqa, Azc, e1, cell_of hvb1, exists_eq_left'])
    refine (Aj7 main H1 x 0 (pieces - 1) hxb.1 (by omega)).runs.mono ?_
    rintro _ H2 ⟨rfl, hh⟩
    rw [hh]; clear hh H2
    (refine @unH _ ?_; refine z0 Azc ?_)
    refine hK _ _ ?_; clear hK K
    (refine Aq9 (by simp -implicitDefEqProofs (disch := first | omega | (simp only [qd] <;> omega)) only [Aqm, Aqr, Nat.reduceEqDiff, ↓reduceIte]; rfl) ?_; simp only [Bool.false_eq_true, if_false]; refine Aqu ?_)
    simp -implicitDefEqProofs (disch := first | omega | (simp only [qd] <;> omega)) only [thn, blk, ↓reduceIte, Nat.reduceEqDiff]
    refine Aql ?_
    (refine @unH _ ?_; refine z8 (And.intro Azc @e3) ?_; try (refine inK ?_; intro K hK))
    refine (Bvf main H1 _ x hm64 hxb.1 (by omega)).runs.mono ?_
    rintro _ H2 ⟨rfl, hh⟩
    rw [hh, hnew]; clear hh H2
    (refine @unH _ ?_; refine z0 Azc ?_)
    refine hK _ _ ?_; clear hK K
    (refine Aq9 (by simp -implicitDefEqProofs (disch := first | omega | (simp only [qd] <;> omega)) only [Aqm, Aqr, Nat.reduceEqDiff, ↓reduceIte]; rfl) ?_; simp only [Bool.false_eq_true, if_false]; refine Aqu ?_)
    simp -implicitDefEqProofs (disch := first | omega | (simp only [qd] <;> omega)) only [thn, blk, ↓reduceIte, Nat.reduceEqDiff]
    refine Ajd ?_; intro K hK
    (refine @unH _ ?_; refine z0 (And.intro Azc @e3) ?_)
    refine (Bxc main H1 _ x hm64 hxb.1 (by omega)).runs.mono ?_
    rintro _ H2 ⟨rfl, hh⟩
    rw [hh]; clear hh H2
    (refine @unH _ ?_; refine z0 Azc ?_)
    refine hK _ _ ?_; clear hK K
    simp -implicitDefEqProofs (disch := first | omega | (simp only [qd] <;> omega)) only [thn, blk, ↓reduceIte, Nat.reduceEqDiff]
    (refine @unH _ ?_; refine z2 (And.intro Azc @e27) ?_)
    simp -implicitDefEqProofs (disch := first | omega | (simp only [qd] <;> omega)) only [thn, blk, ↓reduceIte, Nat.reduceEqDiff]
    refine ⟨_, ?_, _, j + 1, rfl, hlt, rfl, e1, ?_, e25, e26, rfl, by trivial⟩
    ·omega
    ·show Value.int .u8 _ = _
     rw [htake]
     unfold oOf
     rw [List.foldl_append]
     rfl
   ·simp only [Int.ofNat_lt, hlt, decide_false, Bool.false_eq_true, if_false]
    (refine Axa ?_; simp only [thn, blk, ↓reduceIte, Nat.reduceEqDiff])
    exact ⟨_, rfl, e1, by trivial⟩
 ·rintro a' H' ⟨e, rfl, e1, hH0⟩
  rw [hH0]; clear hH0 H'
  refine Aql ?_
  (refine Axh ?_; intro K hK; simp -implicitDefEqProofs (disch := first | omega | (simp only [qd] <;> omega)) only [xq, ↓xp, qc, Nat.reduceAdd, List.range, List.range.loop, fine, Nat.reduceEqDiff, ↓reduceIte, yielded, reduceCtorEq, Nat.reduceLT, Nat.reduceMul, Nat.reduceSub, one, Nat.reduceLeDiff, Aqa, Azc, e1, cell_of hvb1, exists_eq_left']; refine hK _ _ ?_; clear hK K)
  have hgt8 : decide ((8 : Int) < (xss.length : Int)) = false := decide_eq_false (by omega)
  (refine Aq9 (by simp -implicitDefEqProofs (disch := first | omega | (simp only [qd] <;> omega)) only [Aqm, Aqr, Nat.reduceEqDiff, ↓reduceIte]; rfl) ?_; simp only [hgt8, Bool.false_eq_true, if_false]; refine Aqu ?_)
  simp -implicitDefEqProofs (disch := first | omega | (simp only [qd] <;> omega)) only [thn, blk, ↓reduceIte, Nat.reduceEqDiff]
  refine Aql ?_
  (refine Axh ?_; intro K hK; simp -implicitDefEqProofs (disch := first | omega | (simp only [qd] <;> omega)) only [xq, ↓xp, qc, Nat.reduceAdd, List.range, List.range.loop, fine, Nat.reduceEqDiff, ↓reduceIte, yielded, reduceCtorEq, Nat.reduceLT, Nat.reduceMul, Nat.reduceSub, one, Nat.reduceLeDiff, Aqa, Azc, e1, cell_of hvb1, exists_eq_left']; refine hK _ _ ?_; clear hK K)
  refine Aqo (Axe (fun w a' H' => ∃ e i, w = xss.length - i /\ i <= xss.length /\ a' = act 82 e [] /\ e 1 = .pointer (some ⟨vb, 0, none⟩) /\ e 48 = .slice ca xss.length cc /\ e 49 = .int .i64 xss.length /\ e 50 = .int .i64 (i : Nat) /\ H' = H1) (n := xss.length) ?_ ?_)
  ·exact ⟨_, 0, by omega, by omega, rfl, e1, rfl, rfl, rfl, by trivial⟩
  ·rintro w a' H' ⟨e, i, rfl, hi, rfl, e1, e48, e49, e50, hH⟩
   rw [hH]
   (refine @unH _ ?_; refine z1 (And.intro Azc (And.intro @e49 @e50)) ?_)
   refine Aql ?_
   refine Aq9 (by simp -implicitDefEqProofs (disch := first | omega | (simp only [qd] <;> omega)) only [Aqm, Aqr, Nat.reduceEqDiff, ↓reduceIte]; rfl) ?_
   by_cases hlt : i < xss.length
   ·simp only [Int.ofNat_lt, hlt, decide_true, if_true]
    refine Aqu (Aql (Aqo ?_))
    obtain ⟨_, _, hve, _, hsx⟩ := id hcv1
    cases hve
    obtain ⟨b, o, p, c, fr, rw', rfl, hb, hx, hrow⟩ := hsx i xss[i] (List.getElem?_eq_getElem hlt)
    have hx' : c[o + (i : Int).toNat * 1]? = some rw' := by simpa using hx
    have hco := hcs _ (List.getElem_mem hlt)
    generalize xss[i] = xs at hx hx' hco hrow
    have hxl := hco.len
    obtain ⟨hne, hasc, hxb⟩ := hco
    obtain ⟨ra, rc, rfl, hrc, hrx⟩ := hrow
    have hpos : 0 < xs.length := List.length_pos_iff.2 hne
    (refine Axh ?_; intro K hK; simp -implicitDefEqProofs (disch := first | omega | (simp only [qd] <;> omega)) only [xq, ↓xp, qc, Nat.reduceAdd, List.range, List.range.loop, fine, Nat.reduceEqDiff, ↓reduceIte, yielded, reduceCtorEq, Nat.reduceLT, Nat.reduceMul, Nat.reduceSub, one, Nat.reduceLeDiff, Aqa, Azc, e48, e50, cell_of hb, hx', exists_eq_left']; refine hK _ _ ?_; clear hK K)
    refine Aql ?_
    (refine @unH _ ?_; refine z1 Azc ?_)
    have hl0 : ((xs.length : Int) == 0) = false := by simp; omega
    (refine Aq9 (by simp -implicitDefEqProofs (disch := first | omega | (simp only [qd] <;> omega)) only [Aqm, Aqr, Nat.reduceEqDiff, ↓reduceIte]; rfl) ?_; simp only [hl0, Bool.false_eq_true, if_false]; refine Aqu ?_)
    simp -implicitDefEqProofs (disch := first | omega | (simp only [qd] <;> omega)) only [thn, blk, ↓reduceIte, Nat.reduceEqDiff]
    (refine @unH _ ?_; refine z1 Azc ?_)
    refine Aqo (Axe (fun w a' H' => ∃ e k, w = xs.length - k /\ k <= xs.length /\ a' = act 82 e [] /\ e 1 = .pointer (some ⟨vb, 0, none⟩) /\ e 7 = .slice ra xs.length rc /\ e 48 = .slice (some ⟨b, o, none⟩) xss.length cc /\ e 49 = .int .i64 xss.length /\ e 50 = .int .i64 (i : Nat) /\
     e 57 = .slice ra xs.length rc /\ e 58 = .int .i64 xs.length /\ e 59 = .int .i64 (k : Nat) /\ H' = H1) (n := xs.length) ?_ ?_)
    ·exact ⟨_, 0, by omega, by omega, rfl, e1, rfl, e48, e49, e50, rfl, rfl, rfl, by trivial⟩
    ·rintro w a' H' ⟨e, k, rfl, hk, rfl, e1, e7, e48, e49, e50, e57, e58, e59, hH⟩
     rw [hH]
     (refine @unH _ ?_; refine z1 (And.intro Azc (And.intro @e58 @e59)) ?_)
     refine Aql ?_
     refine Aq9 (by simp -implicitDefEqProofs (disch := first | omega | (simp only [qd] <;> omega)) only [Aqm, Aqr, Nat.reduceEqDiff, ↓reduceIte]; rfl) ?_
     by_cases hlt2 : k < xs.length
     ·simp only [Int.ofNat_lt, hlt2, decide_true, if_true]
      refine Aqu (Aql (Aqo ?_))
      obtain ⟨b2, o2, p2, c2, fr2, rfl, hb2, hx2⟩ := hrx k xs[k] (List.getElem?_eq_getElem hlt2)
      have hx2' : c2[o2 + (k : Int).toNat * 1]? = some (.int .i64 xs[k]) := by simpa using hx2
      have hxk := hxb _ (List.getElem_mem hlt2)
      have hprev : 0 < k -> ∃ y : Int, c2[o2 + ((k : Int) - 1).toNat * 1]? = some (.int .i64 y) /\ decide (xs[k] <= y) = false := fun hk0 => by
       have hk1 : k - 1 < xs.length := by omega
       obtain ⟨b3, o3, p3, c3, fr3, hre, hb3, hx3⟩ := hrx (k - 1) xs[k - 1] (List.getElem?_eq_getElem hk1)
       cases hre
       rw [hb2] at hb3
       cases hb3
       have hlt3 : xs[k - 1] < xs[k] := (List.pairwise_iff_getElem.1 hasc) (k - 1) k hk1 hlt2 (by omega)
       exact ⟨xs[k - 1], by rw [show ((k : Int) - 1).toNat * 1 = k - 1 by omega]; exact hx3, decide_eq_false (by omega)⟩
      clear hx2
      generalize xs[k] = x at hx2' hxk hprev
      (refine Axh ?_; intro K hK; simp -implicitDefEqProofs (disch := first | omega | (simp only [qd] <;> omega)) only [xq, ↓xp, qc, Nat.reduceAdd, List.range, List.range.loop, fine, Nat.reduceEqDiff, ↓reduceIte, yielded, reduceCtorEq, Nat.reduceLT, Nat.reduceMul, Nat.reduceSub, one, Nat.reduceLeDiff, Aqa, Azc, e57, e59, cell_of hb2, hx2', exists_eq_left']; refine hK _ _ ?_; clear hK K)
      refine Aql ?_
      (refine Axh ?_; intro K hK; simp -implicitDefEqProofs (disch := first | omega | (simp only [qd] <;> omega)) only [xq, ↓xp, qc, Nat.reduceAdd, List.range, List.range.loop, fine, Nat.reduceEqDiff, ↓reduceIte, yielded, reduceCtorEq, Nat.reduceLT, Nat.reduceMul, Nat.reduceSub, one, Nat.reduceLeDiff, Aqa, Azc, e1, cell_of hvb1, exists_eq_left'])
      refine (Aj7 main H1 x 0 (pieces - 1) hxk.1 (by omega)).runs.mono ?_
      rintro _ H2 ⟨rfl, hh⟩
      rw [hh]; clear hh H2
      (refine @unH _ ?_; refine z0 Azc ?_)
      refine hK _ _ ?_; clear hK K
      (refine Aq9 (by simp -implicitDefEqProofs (disch := first | omega | (simp only [qd] <;> omega)) only [Aqm, Aqr, Nat.reduceEqDiff, ↓reduceIte]; rfl) ?_; simp only [Bool.false_eq_true, if_false]; refine Aqu ?_)
      simp -implicitDefEqProofs (disch := first | omega | (simp only [qd] <;> omega)) only [thn, blk, ↓reduceIte, Nat.reduceEqDiff]
      by_cases hk0 : k = 0
      ·(refine @unH _ ?_; refine zA Azc ?_; (repeat (refine inC ?_; intro hc)); try (refine inK ?_; intro K hK))
       exact ⟨_, by omega, _, k + 1, rfl, hlt2, rfl, e1, e7, e48, e49, e50, e57, e58, by subst hk0; rfl, by trivial⟩
      ·obtain ⟨y, hx3', hle3⟩ := hprev (by omega)
       have hjm : ((k : Int) - 1).toNat = k - 1 := by omega
       simp only [hjm, Nat.mul_one] at hx3'
       (refine @unH _ ?_; refine zA Azc ?_; (repeat (refine inC ?_; intro hc)); try (refine inK ?_; intro K hK))
       exact ⟨_, by omega, _, k + 1, rfl, hlt2, rfl, e1, e7, e48, e49, e50, e57, e58, rfl, by trivial⟩
     ·simp only [Int.ofNat_lt, hlt2, decide_false, Bool.false_eq_true, if_false]
      (refine Axa ?_; simp only [thn, blk, ↓reduceIte, Nat.reduceEqDiff])
      (refine @unH _ ?_; refine z2 (And.intro Azc @e50) ?_)
      simp -implicitDefEqProofs (disch := first | omega | (simp only [qd] <;> omega)) only [thn, blk, ↓reduceIte, Nat.reduceEqDiff]
      refine ⟨_, ?_, _, i + 1, rfl, hlt, rfl, e1, e48, e49, rfl, by trivial⟩
      omega
   ·simp only [Int.ofNat_lt, hlt, decide_false, Bool.false_eq_true, if_false]
    (refine Axa ?_; simp only [thn, blk, ↓reduceIte, Nat.reduceEqDiff])
    (refine @unH _ ?_; refine z1 Azc ?_)
    (refine @unH _ ?_; refine z9 Tryz.results33 ?_)
    exact ⟨by trivial, hle⟩
end Go.Proofs.YtgniilnljeedlaaGreatDoor
end
section
namespace Go.X
open Go
section
variable {P : Program} {main : Md} {lp : Option Nat} {Q : Exit -> Act -> Hp -> Prop} {a : Act} {H : Hp}
theorem Aqg {H H' : Hp} {b : Nat} {o : Obj} (h : H.set b o = H') (hb : H b = none) : H.le H' := h ▸ Hp.le_set hb
theorem Aqf {H H' : Hp} {b : Nat} {o : Obj} (h : H.set b o = H') : H' b = some (true, o) := by rw [<- h, Axm, if_pos rfl]
theorem Aze {H H' : Hp} {b x : Nat} {o : Obj} {v : Bool × Obj} (h : H.set b o = H') (hx : H x = some v) (hn : x ≠ b) : H' x = some v := by rw [<- h, Axm, if_neg hn]; exact hx
theorem Ax0 {H : Hp} {b x : Nat} {v : Bool × Obj} (hx : H x = some v) (hb : H b = none) : x ≠ b := fun e => by rw [e, hb] at hx; cases hx
theorem Ckv (op : BinOp) (t : TypeId) (x y : Operand) (p q : Option Addr) (n c n' c' : Nat) (K : Unit -> Hp -> Prop) (E : Value -> Hp -> Prop) : wpS P (eqGuard op t x y (.slice p n c) (.slice q n' c')) H K E = K () H := by
 unfold eqGuard; cases op <;> rfl
theorem Bwn (op : BinOp) (t : TypeId) (x y : Operand) (u : TypeId) (v : Value) (K : Unit -> Hp -> Prop) (E : Value -> Hp -> Prop) : wpS P (eqGuard op t x y (.iface u v) .nilIface) H K E = K () H := by
 unfold eqGuard; cases op <;> rfl
theorem Cku (op : BinOp) (t : TypeId) (x : Operand) (v : Value) (K : Unit -> Hp -> Prop) (E : Value -> Hp -> Prop) : wpS P (eqGuard op t x (.const v) .nilIface .nilIface) H K E = K () H := by
 unfold eqGuard; cases op <;> cases x <;> rfl
theorem Bkw {t e : TypeId} (hu : P.underlying t = some (.slice e)) (p : Option Addr) (n c : Nat) (K : Value -> Hp -> Prop) (E : Value -> Hp -> Prop) : wpS P (binOp .eql t (.slice p n c) (.slice none 0 0)) H K E = K (.bool p.isNone) H := by
 simp only [binOp]
 rw [Aqb]
 unfold Op.equal Op.maxDepth
 rw [show (10000 : Nat) = 9999 + 1 from rfl]
 unfold Op.equalIn
 rw [Aqb, Aqj hu]
 cases p <;> rfl
theorem Ay7 {t : TypeId} {ms : Array (String × TypeId)} (hu : P.underlying t = some (.interface ms)) (K : Value -> Hp -> Prop) (E : Value -> Hp -> Prop) : wpS P (binOp .eql t .nilIface .nilIface) H K E = K (.bool true) H := by
 simp only [binOp]
 rw [Aqb]
 unfold Op.equal Op.maxDepth
 rw [show (10000 : Nat) = 9999 + 1 from rfl]
 unfold Op.equalIn
 rw [Aqb, Aqj hu]
 rfl
theorem Av2 {t : TypeId} {ms : Array (String × TypeId)} (hu : P.underlying t = some (.interface ms)) (u : TypeId) (v : Value) (K : Value -> Hp -> Prop) (E : Value -> Hp -> Prop) : wpS P (binOp .eql t (.iface u v) .nilIface) H K E = K (.bool false) H := by
 simp only [binOp]
 rw [Aqb]
 unfold Op.equal Op.maxDepth
 rw [show (10000 : Nat) = 9999 + 1 from rfl]
 unfold Op.equalIn
 rw [Aqb, Aqj hu]
 rfl
theorem Ay8 {t : TypeId} {ms : Array (String × TypeId)} (hu : P.underlying t = some (.interface ms)) (K : Value -> Hp -> Prop) (E : Value -> Hp -> Prop) : wpS P (binOp .neq t .nilIface .nilIface) H K E = K (.bool false) H := by
 simp only [binOp]
 rw [Aqb]
 unfold Op.equal Op.maxDepth
 rw [show (10000 : Nat) = 9999 + 1 from rfl]
 unfold Op.equalIn
 rw [Aqb, Aqj hu]
 rfl
theorem Av3 {t : TypeId} {ms : Array (String × TypeId)} (hu : P.underlying t = some (.interface ms)) (u : TypeId) (v : Value) (K : Value -> Hp -> Prop) (E : Value -> Hp -> Prop) : wpS P (binOp .neq t (.iface u v) .nilIface) H K E = K (.bool true) H := by
 simp only [binOp]
 rw [Aqb]
 unfold Op.equal Op.maxDepth
 rw [show (10000 : Nat) = 9999 + 1 from rfl]
 unfold Op.equalIn
 rw [Aqb, Aqj hu]
 rfl
theorem Ajf {t st : TypeId} {d : TypeDesc} (hu : P.underlying t = some d) (hd : (match d with | .interface _ => true | _ => false) = false) {z : Value} (hz : ∀ w, (zeroValue t).run P w = .ok z w) (u : TypeId) (v : Value) (K : Value -> Hp -> Prop) (E : Value -> Hp -> Prop) :
  wpS P (Instr.typeAssert (.iface u v) st t true) H K E = if u = t then K (.tuple #[v, .bool true]) H else K (.tuple #[z, .bool false]) H := by
 unfold Instr.typeAssert
 rw [Aqb, Aqj hu]
 cases d <;> first | (cases hd; done) | (simp only [Bjv, Aqi, if_true, Aqb, Ax2 hz])
def Bxv (P : Program) (v : Value) (name : String) (args : Array Value) (H : Hp) (K : Next -> Hp -> Prop) (E : Value -> Hp -> Prop) : Prop := wpS P (callMethod v name args) H K E
@[congr] theorem methK_congr {v v' : Value} {name : String} {args args' : Array Value} {H' : Hp} {K : Next -> Hp -> Prop} {E : Value -> Hp -> Prop} (hv : v = v') (ha : args = args') (hH : H = H') : Bxv P v name args H K E = Bxv P v' name args' H' K E := by subst hv ha hH; rfl
theorem Axx (ρ : Operand -> Value) (d : Option Tmp) (ty : TypeId) (pos : String) (af : Array Edge) (g : Option (Nat × Bool)) (K : Next -> Hp -> Prop) (E : Value -> Hp -> Prop) {x : Operand} {name : String} {args : List Operand} {ats : Array TypeId} :
  wpS P (execOp ρ ⟨d, .call ⟨.invoke x name, args.toArray, ats⟩, ty, pos, af, g⟩) H K E = Bxv P (ρ x) name (args.toArray.map ρ) H K E := by
 simp only [execOp, resolve, invoke, Bxv]
 rw [Aqb]
 simp only [Aqi]
 have h0 : (#[ρ x] ++ Array.map ρ args.toArray)[0]? = some (ρ x) := by simp
 have h1 : (#[ρ x] ++ Array.map ρ args.toArray).extract 1 (#[ρ x] ++ Array.map ρ args.toArray).size = Array.map ρ args.toArray := by
  apply Array.ext'
  simp [List.extract_eq_take_drop, List.take_of_length_le]
 simp only [h0, h1]
theorem Bz3 {t e : TypeId} {t2 : TypeId} (hu : P.underlying t = some (.slice e)) (hs : ∀ w, (sizeOf e).run P w = .ok 1 w) (ty : TypeId) (cb : Array Bool) (b o n c b2 o2 n2 c2 : Nat) {p2 : Bool} {cs cs2 : List Value} {e1 e2 : TypeId} {fr2 : Nat × Nat}
  (hb : H b = some (true, .cells cs.toArray e1 (0, 0))) (hb2 : H b2 = some (p2, .cells cs2.toArray e2 fr2)) (h1 : o + min n2 n <= cs.length) (h2 : o2 + min n2 n <= cs2.length) (hone : ∀ v ∈ (cs2.drop o2).take (min n2 n), one v = true) (K : Next -> Hp -> Prop) (E : Value -> Hp -> Prop)
  (hK : K (.value (.int .i64 (min n2 n : Nat))) (H.set b (.cells (over cs.toArray o ((cs2.drop o2).take (min n2 n))) e1 (0, 0)))) :
  wpS P (builtin .copy #[t, t2] ty cb #[.slice (some ⟨b, o, none⟩) n c, .slice (some ⟨b2, o2, none⟩) n2 c2]) H K E := by
 simp only [builtin]
 rw [Aqb]
 unfold Builtin.copy_
 simp only [List.getElem?_toArray, List.getElem?_cons_zero, List.getElem?_cons_succ]
 have hlen : ((cs2.drop o2).take (min n2 n)).length = min n2 n := by simp; omega
 have hmin : Nat.min n2 n = min n2 n := rfl
 simp only [Aqb, Aqj hu, Aqi, Builtin.lenOf, Axf hs, hmin, Nat.mul_one, Builtin.firstCells]
 rw [Azq (cs := (cs2.drop o2).take (min n2 n)) (by rw [hlen]) (fun j u hj => by
  have hjl : j < ((cs2.drop o2).take (min n2 n)).length := (List.getElem?_eq_some_iff.1 hj).1
  rw [hlen] at hjl
  rw [cell_of hb2]
  rw [List.getElem?_take_of_lt hjl, List.getElem?_drop] at hj
  simpa using hj)]
 simp only [Aqb]
 refine Aki b o _ E _ 0 H cs.toArray e1 (by simpa using hone) hb ?_ ?_
 ·simp only [List.toList_toArray, hlen, Nat.add_zero, List.size_toArray]
  omega
 ·simp only [List.toList_toArray, Nat.add_zero, Aqi]
  exact hK
theorem Bv6 (z : Value) (n : Nat) : (Builtin.zeroCells #[z] n).toList = List.replicate n z := by
 unfold Builtin.zeroCells
 apply List.ext_getElem
 ·simp
 ·intro i h1 h2
  simp [Nat.mod_one]
theorem Cqc {t e : TypeId} (hu : P.underlying t = some (.slice e)) {z : Value} (hz : ∀ w, (zeroValue e).run P w = .ok z w) (hz1 : one z = true) (ty : TypeId) (cb : Array Bool) (b o n cap : Nat) {c : Array Value} {e1 : TypeId}
  (hb : H b = some (true, .cells c e1 (0, 0))) (hn : o + n <= c.size) (K : Next -> Hp -> Prop) (E : Value -> Hp -> Prop)
  (hK : K (.value (.tuple #[])) (H.set b (.cells (over c o (List.replicate n z)) e1 (0, 0)))) :
  wpS P (builtin .clear #[t] ty cb #[.slice (some ⟨b, o, none⟩) n cap]) H K E := by
 simp only [builtin]
 rw [Aqb]
 unfold Builtin.clear_
 simp only [List.getElem?_toArray, List.getElem?_cons_zero]
 cases n with
 | zero =>
  rw [List.replicate_zero, Bzt, set_self hb] at hK
  simp only [Aqb, Aqj hu, Aqi]
  exact hK
 | succ n =>
  simp only [Aqb, Aqj hu, Ax2 hz, cells_one hz1]
  rw [Bv6]
  refine Aki b o _ E _ 0 H c e1 (fun v hv => by rw [List.eq_of_mem_replicate hv]; exact hz1) hb (by simp; omega) ?_
  rw [Nat.add_zero]
  exact hK
theorem Av1 {t e : TypeId} (hu : P.underlying t = some (.slice e)) {sz : Nat} (hs : ∀ w, (sizeOf e).run P w = .ok sz w) (ty : TypeId) (cb : Array Bool) (p q : Option Addr) (n cap cap2 : Nat) (h : n <= cap) (K : Next -> Hp -> Prop) (E : Value -> Hp -> Prop) (hK : K (.value (.slice p n cap)) H) :
  wpS P (builtin .append #[t, t] ty cb #[.slice p n cap, .slice q 0 cap2]) H K E := by
 simp only [builtin]
 rw [Aqb]
 unfold Builtin.append_
 simp only [List.getElem?_toArray, List.getElem?_cons_zero, List.getElem?_cons_succ]
 rw [Aqb, Aqj hu]
 simp only [Aqb, Axf hs, Aqj hu, Aqi, Bool.false_eq_true, if_false, Builtin.lenOf, Bjv, Nat.add_zero, h, if_true, Bool.not_false]
 have hf : ∀ (K' : Array Value -> Hp -> Prop), wpS P (Builtin.firstCells sz 0 (.slice q 0 cap2)) H K' E = K' #[] H := fun K' => by
  unfold Builtin.firstCells
  cases q with
  | none => rfl
  | some a => simp only [loadCells, Nat.zero_mul]; rfl
 rw [hf]
 cases p with
 | none => simp only [Aqi]; exact hK
 | some a => simp only [Aqb, storeCells, Aqi]; exact hK
end
end Go.X
end
section
namespace Go.Proofs.YtgniilnljeedlaaGreatDoor
open Go Go.X
variable {H : Hp} (args : Array Value) (K : Next -> Hp -> Prop) (E : Value -> Hp -> Prop)
theorem Ayv (v : Value) : Bxv Tryz.prog (.iface 142 v) "gladstone/vault.rank" args H K E = wpS Tryz.prog (callFunc 188 (#[v] ++ args)) H K E := by kernel_rfl
theorem Ayx (v : Value) : nilK Tryz.prog (.func (.method "gladstone/vault.rank") #[.iface 142 v] #[]) H K E = K (.value (.func (.method "gladstone/vault.rank") #[.iface 142 v] #[])) H := by kernel_rfl
theorem Ayw (v : Value) : Bxv Tryz.prog (.iface 143 v) "gladstone/vault.rank" args H K E = wpS Tryz.prog (callFunc 189 (#[v] ++ args)) H K E := by kernel_rfl
theorem Ayy (v : Value) : nilK Tryz.prog (.func (.method "gladstone/vault.rank") #[.iface 143 v] #[]) H K E = K (.value (.func (.method "gladstone/vault.rank") #[.iface 143 v] #[])) H := by kernel_rfl
theorem Awj (v : Value) : Bxv Tryz.prog (.iface 144 v) "gladstone/vault.rank" args H K E = wpS Tryz.prog (callFunc 190 (#[v] ++ args)) H K E := by kernel_rfl
theorem Awk (v : Value) : nilK Tryz.prog (.func (.method "gladstone/vault.rank") #[.iface 144 v] #[]) H K E = K (.value (.func (.method "gladstone/vault.rank") #[.iface 144 v] #[])) H := by kernel_rfl
theorem Aww (v : Value) : Bxv Tryz.prog (.iface 115 v) "gladstone/vault.rank" args H K E = wpS Tryz.prog (callFunc 186 (#[v] ++ args)) H K E := by kernel_rfl
theorem Awx (v : Value) : nilK Tryz.prog (.func (.method "gladstone/vault.rank") #[.iface 115 v] #[]) H K E = K (.value (.func (.method "gladstone/vault.rank") #[.iface 115 v] #[])) H := by kernel_rfl
end Go.Proofs.YtgniilnljeedlaaGreatDoor
end
section
namespace Go.Proofs.YtgniilnljeedlaaGreatDoor
open Go Go.X
def Av0 := And.intro (fun H => Aqx (H := H) Tryz.underlying25 rfl Tryz.sizeOf25) (And.intro @Bk3 (And.intro (fun H => Aq1 (H := H) (P := Tryz.prog) (h := Tryz.zeroValue136)) (And.intro @Cwz (And.intro (fun H => Bvj (H := H) Tryz.underlying141 rfl) (And.intro @Cwy (And.intro (fun H => Aqh (H := H) Tryz.underlying136 (i := 0) rfl (off := 0) rfl Tryz.sizeOf35) (And.intro (fun H => Aqd (H := H) Tryz.underlying35 rfl) @Bz1)))))))
def Dzs := And.intro @Bwn (And.intro @Cku (And.intro (fun H => Ay7 (H := H) Tryz.underlying139) (And.intro (fun H => Av2 (H := H) Tryz.underlying139) (And.intro (fun H => Ay8 (H := H) Tryz.underlying139) (And.intro (fun H => Av3 (H := H) Tryz.underlying139) (And.intro (fun H => Ay7 (H := H) Tryz.underlying20) (And.intro (fun H => Av2 (H := H) Tryz.underlying20) (And.intro (fun H => Ay8 (H := H) Tryz.underlying20) (And.intro (fun H => Av3 (H := H) Tryz.underlying20) (And.intro (fun H => Bvj (H := H) Tryz.underlying9 rfl) (And.intro (fun H => Aq1 (H := H) (P := Tryz.prog) (h := Tryz.zeroValue183)) (And.intro (fun H => Aq3 (H := H) Tryz.sizeOf183) (And.intro (fun H => Aqx (H := H) Tryz.underlying183 rfl Tryz.sizeOf183) (And.intro (fun H => Aqd (H := H) Tryz.underlying186 rfl) @Cw9))))))))))))))
def Bqp := And.intro (fun H => Aqh (H := H) Tryz.underlying25 (i := 3) rfl (off := 3) rfl Tryz.sizeOf23) (And.intro (fun H => Aqd (H := H) Tryz.underlying23 rfl) (And.intro (fun H => Aq5 (H := H) Tryz.underlying23) (And.intro (fun H => Aq5 (H := H) Tryz.underlying22) (And.intro @Bky (And.intro (fun H => Bvj (H := H) Tryz.underlying136 rfl) (And.intro (fun H => Aqq (H := H) Tryz.underlying22 Tryz.sizeOf3) (And.intro (fun H => Aqd (H := H) Tryz.underlying3 rfl) (And.intro (fun H => Aqq (H := H) Tryz.underlying23 Tryz.sizeOf22) (fun H => Aqd (H := H) Tryz.underlying22 rfl)))))))))
theorem Bz2 (m : Md) (H : Hp) (places pieces : Int) (sv cv tv : Value) (xss : List (List Int)) (ts : List Int) (hs : ∃ sa sn sc, sv = .slice sa sn sc) (hcv : SlR H cv xss) (htv : SlI H tv ts) (hok : Azz xss ts) (hx8 : xss.length <= 8) (hlen : ∀ xs ∈ xss, xs.length <= 1000000) :
  FnX Tryz.prog m 109 #[.agg #[.int .i64 places, .int .i64 pieces, sv, cv], tv] H fun e H' => e = .returned .nilIface /\ H.le H' := by
 have hcvS := hcv
 have htvS := htv
 obtain ⟨ta, tc, rfl, htc, _⟩ := htv
 obtain ⟨ca, cc, rfl, hcc, _⟩ := hcv
 obtain ⟨sa, sn, sc, rfl⟩ := hs
 ·have htl : ts.length <= xss.length /\ xss.length <= ts.length := by have := hok.1; omega
  refine Aqk Tryz.func109 rfl Tryz.ntmps109 (by simp) ?_
  (refine @unH _ ?_; refine zA Bqp ?_; (repeat (refine inC ?_; intro hc)); try (refine inK ?_; intro K hK))
  intro vb hvb
  have hle := Hp.le_set hvb (o := .cells #[.int .i64 places, .int .i64 pieces, .slice sa sn sc, .slice ca xss.length cc] 25 (0, 0))
  have hvb1 : (H.set vb (.cells #[.int .i64 places, .int .i64 pieces, .slice sa sn sc, .slice ca xss.length cc] 25 (0, 0))) vb = _ := Aqw
  have htv1 := htvS.le hle
  have hcv1 := hcvS.le hle
  generalize H.set vb (.cells #[.int .i64 places, .int .i64 pieces, .slice sa sn sc, .slice ca xss.length cc] 25 (0, 0)) = H1 at *
  ((try (refine @unH _ ?_; refine zX Bqp ?_)); (try (refine hK _ _ ?_; clear hK K; (try simp only [nq, ↓reduceIte, Nat.reduceEqDiff]))); refine @unH _ ?_; refine zA Bqp ?_; (repeat (refine inC ?_; intro hc)); try (refine inK ?_; intro K hK))
  refine Axe (fun w a' H' => ∃ e i, w = xss.length - i /\ i <= xss.length /\ a' = act 55 e [] /\ e 2 = .pointer (some ⟨vb, 0, none⟩) /\ e 30 = .slice ta ts.length tc /\ e 31 = .int .i64 ts.length /\ e 32 = .int .i64 (i : Nat) /\ H' = H1) (n := xss.length) ?_ ?_
  ·exact ⟨_, 0, by omega, by omega, rfl, rfl, rfl, rfl, rfl, rfl⟩
  ·rintro w a' H' ⟨e, i, rfl, hi, rfl, e2, e30, e31, e32, hH⟩
   rw [hH]; clear hH H'
   by_cases hlt : i < xss.length
   ·obtain ⟨b, o, cap', p, c, fr, hve, _, hb, hx⟩ := htv1.cons (fun h => absurd (congrArg List.length h) (by simp only [List.length_nil]; omega))
    cases hve
    have hti : ts[i]? = some (ts[i]'(by omega)) := List.getElem?_eq_getElem (by omega)
    have hxi := hx i _ hti
    have hmem := hok.2 i _ xss[i] hti (List.getElem?_eq_getElem hlt)
    obtain ⟨_, _, hve, _, hsx⟩ := id hcv1
    cases hve
    obtain ⟨rb, ro, rp, rc, rfr, rw', rfl, hrb, hrx, hrow⟩ := hsx i xss[i] (List.getElem?_eq_getElem hlt)
    generalize ts[i]'(by omega) = t at hti hxi hmem
    have hxl : xss[i].length <= 1000000 := hlen _ (List.getElem_mem hlt)
    generalize xss[i] = xs at hmem hrow hxl
    obtain ⟨rb2, ro2, rcap2, rp2, rc2, rfr2, rfl, _, hrb2, hrx2⟩ := hrow.cons (by intro h; rw [h] at hmem; simp at hmem)
    (refine @unH _ ?_; refine zA Bqp ?_; (repeat (refine inC ?_; intro hc)); try (refine inK ?_; intro K hK))
    refine Axe (fun w a' H' => ∃ e j, w = xs.length - j /\ j <= xs.length /\ t ∉ xs.take j /\ a' = act 55 e [] /\ e 2 = .pointer (some ⟨vb, 0, none⟩) /\ e 7 = .int .i64 t /\ e 30 = .slice (some ⟨b, o, none⟩) ts.length tc /\ e 31 = .int .i64 ts.length /\ e 32 = .int .i64 (i : Nat) /\
     e 41 = .slice (some ⟨rb2, ro2, none⟩) xs.length rcap2 /\ e 42 = .int .i64 xs.length /\ e 43 = .int .i64 (j : Nat) /\ H' = H1) (n := xs.length) ?_ ?_
    ·exact ⟨_, 0, by omega, by omega, by simp, rfl, e2, rfl, e30, e31, e32, rfl, rfl, rfl, by trivial⟩
    ·rintro w a' H' ⟨e, j, rfl, hj, hnot, rfl, e2, e7, e30, e31, e32, e41, e42, e43, hH⟩
     rw [hH]; clear hH H'
     by_cases hlt2 : j < xs.length
     ·have hxj := hrx2 j xs[j] (List.getElem?_eq_getElem hlt2)
      have hnext : t ≠ xs[j] -> t ∉ xs.take (j + 1) := fun h1 h2 => by
       rw [List.take_add_one, List.getElem?_eq_getElem hlt2] at h2
       rcases List.mem_append.1 h2 with h2 | h2
       ·exact hnot h2
       ·simp at h2; exact h1 h2
      generalize xs[j] = x at hxj hnext
      repeat' (first
 | (refine Axn rfl ?_; intro K hK; simp -implicitDefEqProofs (disch := first | omega | (simp only [qd] <;> omega)) only [xq, ↓xp, qc, Nat.reduceAdd, List.range, List.range.loop, fine, Nat.reduceEqDiff, ↓reduceIte, yielded, reduceCtorEq, Nat.reduceLT, Nat.reduceMul, Nat.reduceSub, one, Nat.reduceLeDiff, Aqa, Bqp, aq, ↓ap, qe0, qe1, qe2, *, -hK]; try (refine hK _ _ ?_; clear hK K))
 | (refine Axs rfl ?_; intro K hK; simp -implicitDefEqProofs (disch := first | omega | (simp only [qd] <;> omega)) only [xq, ↓xp, qc, Nat.reduceAdd, List.range, List.range.loop, fine, Nat.reduceEqDiff, ↓reduceIte, yielded, reduceCtorEq, Nat.reduceLT, Nat.reduceMul, Nat.reduceSub, one, Nat.reduceLeDiff, Aqa, Bqp, aq, ↓ap, qe0, qe1, qe2, *, -hK]; try (refine hK _ _ ?_; clear hK K; (try simp only [nq, ↓reduceIte, Nat.reduceEqDiff])))
 | (refine Aqu ?_; (try simp only [nq, ↓reduceIte, Nat.reduceEqDiff]))
 | (refine Axr ?_; (try simp only [nq, ↓reduceIte, Nat.reduceEqDiff]))
 | (refine Axa ?_; (try simp only [nq, ↓reduceIte, Nat.reduceEqDiff]))
 | (refine Azb ?_; (try simp only [nq, ↓reduceIte, Nat.reduceEqDiff]))
 | (refine Axy (by simp only [Aqm, Aqr, Nat.reduceEqDiff, Nat.reduceLT, ↓reduceIte, *]; rfl) ?_ ?_ <;> (intro hc; first | (exfalso; simp -implicitDefEqProofs (disch := omega) only [*, bq, reduceCtorEq] at hc; done) | (simp only [dq, qe3, qe4, qe5, qe6] at hc) | skip))
 | (refine Axq ?_)
 | (refine Aqo ?_)
 | (refine Aql ?_))
      ·exact ⟨_, by omega, _, i + 1, rfl, hlt, rfl, e2, e30, e31, rfl, by trivial⟩
      ·exact ⟨_, by omega, _, j + 1, rfl, hlt2, hnext hc, rfl, e2, e7, e30, e31, e32, e41, e42, rfl, by trivial⟩
     ·exact absurd hmem (by rw [List.take_of_length_le (by omega)] at hnot; exact hnot)
   ·(refine @unH _ ?_; refine zA Bqp ?_; (repeat (refine inC ?_; intro hc)); try (refine inK ?_; intro K hK))
    (refine @unH _ ?_; refine z9 Tryz.results109 ?_)
    exact ⟨by trivial, hle⟩
theorem as_nil (m : Md) (H : Hp) (v : Value) :
  FnX Tryz.prog m 108 #[.nilIface, v] H fun e H' => e = .returned (.bool false) /\ H' = H := by
 refine Aqk Tryz.func108 rfl Tryz.ntmps108 (by simp) ?_
 (refine @unH _ ?_; refine zAi Dzs ?_; (repeat (refine inC ?_; intro hc)); try (refine inK ?_; intro K hK))
 (refine @unH _ ?_; refine z9 Tryz.results108 ?_)
 (refine ⟨?_, ?_⟩ <;> first | rfl | trivial | assumption)
theorem SlR.isSlice {H : Hp} {v : Value} {xss : List (List Int)} (h : SlR H v xss) : ∃ a n c, v = .slice a n c := by
 obtain ⟨a, c, rfl, _⟩ := h
 exact ⟨_, _, _, rfl⟩
theorem SlI.isSlice {H : Hp} {v : Value} {xs : List Int} (h : SlI H v xs) : ∃ a n c, v = .slice a n c := by
 obtain ⟨a, c, rfl, _⟩ := h
 exact ⟨_, _, _, rfl⟩
structure Awr (H : Hp) (places pieces : Int) (sv cv tv : Value) (start : List Int) (xss : List (List Int)) (ts : List Int) : Prop where
 st : SlI H sv start
 calls : SlR H cv xss
 truth : SlI H tv ts
 ok : Az5 places pieces start xss
 few : xss.length <= 8
 true : Azz xss ts
theorem Awr.le {H H' : Hp} {places pieces : Int} {sv cv tv : Value} {start : List Int} {xss : List (List Int)} {ts : List Int} (h : Awr H places pieces sv cv tv start xss ts) (hl : H.le H') : Awr H' places pieces sv cv tv start xss ts :=
 ⟨h.st.le hl, h.calls.le hl, h.truth.le hl, h.ok, h.few, h.true⟩
theorem Akp (m : Md) (H : Hp) (places pieces : Int) (sv cv tv : Value) (start : List Int) (xss : List (List Int)) (ts : List Int) (hd : Awr H places pieces sv cv tv start xss ts) :
  FnX Tryz.prog m 72 #[.agg #[.int .i64 places, .int .i64 pieces, sv, cv], tv] H fun e H' => ∃ db mb, e = .returned (.tuple #[.pointer (some ⟨db, 0, none⟩), .int .i64 0]) /\ H.le H' /\ db ≠ mb /\ H db = none /\ H mb = none /\
   H' db = some (true, dayO places pieces sv cv tv mb) /\ H' mb = some (true, .map #[] 0) := by
 obtain ⟨sa, sn, sc, rfl⟩ := hd.st.isSlice
 obtain ⟨ca, cn, cc, rfl⟩ := hd.calls.isSlice
 obtain ⟨ta, tn, tc, rfl⟩ := hd.truth.isSlice
 refine Aqk Tryz.func72 rfl Tryz.ntmps72 (by simp) ?_
 (refine @unH _ ?_; refine zA Av0 ?_; (repeat (refine inC ?_; intro hc)); try (refine inK ?_; intro K hK))
 (intro vb hvb; generalize hG : Hp.set _ vb _ = H1; have lH1 := Aqg hG hvb; have vvb := Aqf hG; clear hG)
 have hd1 := hd.le lH1
 ((try (refine @unH _ ?_; refine zX Av0 ?_)); (try (refine hK _ _ ?_; clear hK K; (try simp only [nq, ↓reduceIte, Nat.reduceEqDiff]))); refine @unH _ ?_; refine zA Av0 ?_; (repeat (refine inC ?_; intro hc)); try (refine inK ?_; intro K hK))
 refine (Ayf m H1 places pieces _ _ start xss hd1.st hd1.calls hd1.ok hd1.few).runs.mono ?_
 rintro _ H2 ⟨rfl, lH2⟩
 have hd2 := hd1.le lH2
 have vvb2 := lH2 _ _ vvb
 ((try (refine @unH _ ?_; refine zX Av0 ?_)); (try (refine hK _ _ ?_; clear hK K; (try simp only [nq, ↓reduceIte, Nat.reduceEqDiff]))); refine @unH _ ?_; refine zA Av0 ?_; (repeat (refine inC ?_; intro hc)); try (refine inK ?_; intro K hK))
 ·(intro wb hwb; generalize hG : Hp.set _ wb _ = H3; have lH3 := Aqg hG hwb; have vwb := Aqf hG; clear hG)
  have hd3 := hd2.le lH3
  have vvb3 := lH3 _ _ vvb2
  ((try (refine @unH _ ?_; refine zX Av0 ?_)); (try (refine hK _ _ ?_; clear hK K; (try simp only [nq, ↓reduceIte, Nat.reduceEqDiff]))); refine @unH _ ?_; refine zA Av0 ?_; (repeat (refine inC ?_; intro hc)); try (refine inK ?_; intro K hK))
  refine (Bz2 m H3 places pieces _ _ _ xss ts ⟨_, _, _, rfl⟩ hd3.calls hd3.truth hd3.true hd3.few (fun xs hx => by have := (hd3.ok.2.2.2.2.2.2.2 xs hx).len; have := hd3.ok.2.2.2.1; omega)).runs.mono ?_
  rintro _ H4 ⟨rfl, lH4⟩
  have vvb4 := lH4 _ _ vvb3
  ((try (refine @unH _ ?_; refine zX Av0 ?_)); (try (refine hK _ _ ?_; clear hK K; (try simp only [nq, ↓reduceIte, Nat.reduceEqDiff]))); refine @unH _ ?_; refine zA Av0 ?_; (repeat (refine inC ?_; intro hc)); try (refine inK ?_; intro K hK))
  refine (as_nil m H4 _).runs.mono ?_
  rintro _ _ ⟨rfl, rfl⟩
  ((try (refine @unH _ ?_; refine zX Av0 ?_)); (try (refine hK _ _ ?_; clear hK K; (try simp only [nq, ↓reduceIte, Nat.reduceEqDiff]))); refine @unH _ ?_; refine zA Av0 ?_; (repeat (refine inC ?_; intro hc)); try (refine inK ?_; intro K hK))
  refine (Ayn m _ places pieces sa sn sc ca cn cc ta tn tc).runs.mono ?_
  rintro _ H5 ⟨db, mb, rfl, lH5, hdm, hdb, hmb, vdb, vmb⟩
  ((try (refine @unH _ ?_; refine zX Av0 ?_)); (try (refine hK _ _ ?_; clear hK K; (try simp only [nq, ↓reduceIte, Nat.reduceEqDiff]))); refine @unH _ ?_; refine zA Av0 ?_; (repeat (refine inC ?_; intro hc)); try (refine inK ?_; intro K hK))
  (refine @unH _ ?_; refine zB Tryz.results72 ?_)
  have hl : H.le _ := Hp.le_trans lH1 (Hp.le_trans lH2 (Hp.le_trans lH3 lH4))
  exact ⟨db, mb, rfl, Hp.le_trans hl lH5, hdm, Hp.le_none hl hdb, Hp.le_none hl hmb, vdb, vmb⟩
def Dqx := And.intro @Czp (And.intro (fun H => Bvj (H := H) Tryz.underlying142 rfl) (And.intro @Czq (And.intro (fun H => Bvj (H := H) Tryz.underlying143 rfl) (And.intro @Czr (And.intro (fun H => Bvj (H := H) Tryz.underlying144 rfl) (And.intro @Bkc (fun H => Bvj (H := H) Tryz.underlying115 rfl)))))))
def Ajr (n : Int) : Value := .iface (if n = 0 then 142 else if n = 1 then 143 else if n = 2 then 144 else 115) (.agg #[])
theorem Bjp (m : Md) (H : Hp) (n : Int) (h0 : 0 <= n) (h3 : n <= 3) :
  FnX Tryz.prog m 73 #[.int .i64 n] H fun e H' => e = .returned (Ajr n) /\ H' = H := by
 refine Aqk Tryz.func73 rfl Tryz.ntmps73 (by simp) ?_
 repeat' (first
 | (refine Axn rfl ?_; intro K hK; simp -implicitDefEqProofs (disch := first | omega | (simp only [qd] <;> omega)) only [xq, ↓xp, qc, Nat.reduceAdd, List.range, List.range.loop, fine, Nat.reduceEqDiff, ↓reduceIte, yielded, reduceCtorEq, Nat.reduceLT, Nat.reduceMul, Nat.reduceSub, one, Nat.reduceLeDiff, Aqa, Dqx, aq, ↓ap, qe0, qe1, qe2, *, -hK]; try (refine hK _ _ ?_; clear hK K))
 | (refine Axs rfl ?_; intro K hK; simp -implicitDefEqProofs (disch := first | omega | (simp only [qd] <;> omega)) only [xq, ↓xp, qc, Nat.reduceAdd, List.range, List.range.loop, fine, Nat.reduceEqDiff, ↓reduceIte, yielded, reduceCtorEq, Nat.reduceLT, Nat.reduceMul, Nat.reduceSub, one, Nat.reduceLeDiff, Aqa, Dqx, aq, ↓ap, qe0, qe1, qe2, *, -hK]; try (refine hK _ _ ?_; clear hK K; (try simp only [nq, ↓reduceIte, Nat.reduceEqDiff])))
 | (refine Aqu ?_; (try simp only [nq, ↓reduceIte, Nat.reduceEqDiff]))
 | (refine Axr ?_; (try simp only [nq, ↓reduceIte, Nat.reduceEqDiff]))
 | (refine Axa ?_; (try simp only [nq, ↓reduceIte, Nat.reduceEqDiff]))
 | (refine Azb ?_; (try simp only [nq, ↓reduceIte, Nat.reduceEqDiff]))
 | (refine Axy (by simp only [Aqm, Aqr, Nat.reduceEqDiff, Nat.reduceLT, ↓reduceIte, *]; rfl) ?_ ?_ <;> (intro hc; first | (exfalso; simp -implicitDefEqProofs (disch := omega) only [*, bq, reduceCtorEq] at hc; done) | (simp only [dq, qe3, qe4, qe5, qe6] at hc) | skip))
 | (refine Axq ?_)
 | (refine Aqo ?_)
 | (refine Aql ?_))
 ·(refine @unH _ ?_; refine z9 Tryz.results73 ?_)
  refine ⟨?_, by trivial⟩
  subst hc; rfl
 ·(refine @unH _ ?_; refine z9 Tryz.results73 ?_)
  refine ⟨?_, by trivial⟩
  subst hc; rfl
 ·(refine @unH _ ?_; refine z9 Tryz.results73 ?_)
  refine ⟨?_, by trivial⟩
  subst hc; rfl
 ·(refine @unH _ ?_; refine z9 Tryz.results73 ?_)
  refine ⟨?_, by trivial⟩
  obtain rfl : n = 3 := by omega
  rfl
def Cq7 := And.intro (fun H => Aqh (H := H) Tryz.underlying147 (i := 2) rfl (off := 12) rfl Tryz.sizeOf145) (And.intro (fun H => Ax6 (H := H) Tryz.underlying145 Tryz.sizeOf3) (fun H => Aqd (H := H) Tryz.underlying3 rfl))
def Cq8 := And.intro (fun H => Aqh (H := H) Tryz.underlying147 (i := 0) rfl (off := 0) rfl Tryz.sizeOf145) (And.intro (fun H => Ax6 (H := H) Tryz.underlying145 Tryz.sizeOf3) (fun H => Aqd (H := H) Tryz.underlying3 rfl))
def Cq9 := And.intro (fun H => Aqh (H := H) Tryz.underlying147 (i := 1) rfl (off := 6) rfl Tryz.sizeOf145) (And.intro (fun H => Ax6 (H := H) Tryz.underlying145 Tryz.sizeOf3) (fun H => Aqd (H := H) Tryz.underlying3 rfl))
def Awc (r : Int) (came asked later : List Int) (p : Int) : Int :=
 if r = 0 then p else if r = 1 then came.getD p.toNat 0 else if r = 2 then asked.getD p.toNat 0 else - later.getD p.toNat 0
abbrev Ak7 (came asked later : List Int) : Obj := .cells (ints (came ++ (asked ++ later))).toArray 147 (0, 0)
theorem Bjb {came asked later : List Int} (h1 : came.length = 6) (h2 : asked.length = 6) (h3 : later.length = 6) (p : Int) (h0 : 0 <= p) (h6 : p < 6) :
  (ints (came ++ (asked ++ later)))[p.toNat]? = some (.int .i64 (came.getD p.toNat 0)) /\ (ints (came ++ (asked ++ later)))[6 + p.toNat]? = some (.int .i64 (asked.getD p.toNat 0)) /\ (ints (came ++ (asked ++ later)))[12 + p.toNat]? = some (.int .i64 (later.getD p.toNat 0)) := by
 have key : ∀ (k : Nat) (xs : List Int), (came ++ (asked ++ later))[k]? = xs[p.toNat]? -> k < 18 -> (ints (came ++ (asked ++ later)))[k]? = some (.int .i64 (xs.getD p.toNat 0)) := fun k xs he hk => by
  have hl : k < (came ++ (asked ++ later)).length := by simp; omega
  rw [Ajv (List.getElem?_eq_getElem hl)]
  rw [List.getElem?_eq_getElem hl] at he
  simp only [List.getD, <- he, Option.getD_some]
 refine ⟨key _ _ ?_ (by omega), key _ _ ?_ (by omega), key _ _ ?_ (by omega)⟩
 ·rw [List.getElem?_append_left (by omega)]
 ·rw [List.getElem?_append_right (by omega), List.getElem?_append_left (by omega)]
  congr 1; omega
 ·rw [List.getElem?_append_right (by omega), List.getElem?_append_right (by omega)]
  congr 1; omega
theorem Azo {P : Program} {main : Md} {H : Hp} {f : FuncId} {args : Array Value} {v : Value} (h : FnX P main f args H fun e H' => e = .returned v /\ H.le H') : Runs P main (Frame.enter P f args .normal) H fun
  | .returned u, H₁ => u = v /\ H₁ = H
  | _, _ => False :=
 h.runs.less fun e H₁ he => by obtain ⟨rfl, hl⟩ := he; exact ⟨H, hl, rfl, rfl⟩
theorem Cy0 (m : Md) (H : Hp) (p : Int) (h : Value) :
  FnX Tryz.prog m 188 #[.agg #[], .int .i64 p, h] H fun e H' => e = .returned (.int .i64 p) /\ H.le H' := by
 refine Aqk Tryz.func188 rfl Tryz.ntmps188 (by simp) ?_
 (refine @unH _ ?_; refine zA trivial ?_; (repeat (refine inC ?_; intro hc)); try (refine inK ?_; intro K hK))
 (intro rb hrb; generalize hG : Hp.set _ rb _ = H1; have lH1 := Aqg hG hrb; have vrb := Aqf hG; clear hG)
 ((try (refine @unH _ ?_; refine zX trivial ?_)); (try (refine hK _ _ ?_; clear hK K; (try simp only [nq, ↓reduceIte, Nat.reduceEqDiff]))); refine @unH _ ?_; refine zA trivial ?_; (repeat (refine inC ?_; intro hc)); try (refine inK ?_; intro K hK))
 (refine @unH _ ?_; refine z9 Tryz.results188 ?_)
 exact ⟨by trivial, lH1⟩
theorem Cy6 (m : Md) (H : Hp) (p : Int) (hb : Nat) (came asked later : List Int) (h1 : came.length = 6) (h2 : asked.length = 6) (h3 : later.length = 6) (h0 : 0 <= p) (h6 : p < 6) (hH : H hb = some (true, Ak7 came asked later)) :
  FnX Tryz.prog m 189 #[.agg #[], .int .i64 p, .pointer (some ⟨hb, 0, none⟩)] H fun e H' => e = .returned (.int .i64 (came.getD p.toNat 0)) /\ H.le H' := by
 obtain ⟨c1, c2, c3⟩ := Bjb h1 h2 h3 p h0 h6
 refine Aqk Tryz.func189 rfl Tryz.ntmps189 (by simp) ?_
 (refine @unH _ ?_; refine zA Cq8 ?_; (repeat (refine inC ?_; intro hc)); try (refine inK ?_; intro K hK))
 (intro rb hrb; generalize hG : Hp.set _ rb _ = H1; have lH1 := Aqg hG hrb; have vrb := Aqf hG; clear hG)
 have hH1 := lH1 _ _ hH
 ((try (refine @unH _ ?_; refine zX Cq8 ?_)); (try (refine hK _ _ ?_; clear hK K; (try simp only [nq, ↓reduceIte, Nat.reduceEqDiff]))); refine @unH _ ?_; refine zA Cq8 ?_; (repeat (refine inC ?_; intro hc)); try (refine inK ?_; intro K hK))
 (refine @unH _ ?_; refine z9 Tryz.results189 ?_)
 exact ⟨by trivial, lH1⟩
theorem Cjp (m : Md) (H : Hp) (p : Int) (hb : Nat) (came asked later : List Int) (h1 : came.length = 6) (h2 : asked.length = 6) (h3 : later.length = 6) (h0 : 0 <= p) (h6 : p < 6) (hH : H hb = some (true, Ak7 came asked later)) :
  FnX Tryz.prog m 190 #[.agg #[], .int .i64 p, .pointer (some ⟨hb, 0, none⟩)] H fun e H' => e = .returned (.int .i64 (asked.getD p.toNat 0)) /\ H.le H' := by
 obtain ⟨c1, c2, c3⟩ := Bjb h1 h2 h3 p h0 h6
 refine Aqk Tryz.func190 rfl Tryz.ntmps190 (by simp) ?_
 (refine @unH _ ?_; refine zA Cq9 ?_; (repeat (refine inC ?_; intro hc)); try (refine inK ?_; intro K hK))
 (intro rb hrb; generalize hG : Hp.set _ rb _ = H1; have lH1 := Aqg hG hrb; have vrb := Aqf hG; clear hG)
 have hH1 := lH1 _ _ hH
 ((try (refine @unH _ ?_; refine zX Cq9 ?_)); (try (refine hK _ _ ?_; clear hK K; (try simp only [nq, ↓reduceIte, Nat.reduceEqDiff]))); refine @unH _ ?_; refine zA Cq9 ?_; (repeat (refine inC ?_; intro hc)); try (refine inK ?_; intro K hK))
 (refine @unH _ ?_; refine z9 Tryz.results190 ?_)
 exact ⟨by trivial, lH1⟩
theorem Cvd (m : Md) (H : Hp) (p : Int) (hb : Nat) (came asked later : List Int) (h1 : came.length = 6) (h2 : asked.length = 6) (h3 : later.length = 6) (hl : ∀ x ∈ later, 0 <= x /\ x <= 1000) (h0 : 0 <= p) (h6 : p < 6) (hH : H hb = some (true, Ak7 came asked later)) :
  FnX Tryz.prog m 186 #[.agg #[], .int .i64 p, .pointer (some ⟨hb, 0, none⟩)] H fun e H' => e = .returned (.int .i64 (- later.getD p.toNat 0)) /\ H.le H' := by
 obtain ⟨c1, c2, c3⟩ := Bjb h1 h2 h3 p h0 h6
 have hlp : 0 <= later.getD p.toNat 0 /\ later.getD p.toNat 0 <= 1000 := by
  simp [List.getD, List.getElem?_eq_getElem (show p.toNat < later.length by omega)]
  exact hl _ (List.getElem_mem _)
 refine Aqk Tryz.func186 rfl Tryz.ntmps186 (by simp) ?_
 (refine @unH _ ?_; refine zA Cq7 ?_; (repeat (refine inC ?_; intro hc)); try (refine inK ?_; intro K hK))
 (intro rb hrb; generalize hG : Hp.set _ rb _ = H1; have lH1 := Aqg hG hrb; have vrb := Aqf hG; clear hG)
 have hH1 := lH1 _ _ hH
 ((try (refine @unH _ ?_; refine zX Cq7 ?_)); (try (refine hK _ _ ?_; clear hK K; (try simp only [nq, ↓reduceIte, Nat.reduceEqDiff]))); refine @unH _ ?_; refine zA Cq7 ?_; (repeat (refine inC ?_; intro hc)); try (refine inK ?_; intro K hK))
 (refine @unH _ ?_; refine z9 Tryz.results186 ?_)
 exact ⟨by simp, lH1⟩
end Go.Proofs.YtgniilnljeedlaaGreatDoor
end
