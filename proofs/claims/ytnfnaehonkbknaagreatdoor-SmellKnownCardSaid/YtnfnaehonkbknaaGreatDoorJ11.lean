/- Texts Calls Haul Office Maps Days Auto Scope LdO Check Ops2 Meths Begin Slices Rank Both Look Run Keys Rows2 PlanT PlanU PlanV Structs. -/
import Derived.Test.YtnfnaehonkbknaaGreatDoorJ10
set_option linter.defProp false
set_option linter.unusedSimpArgs false
set_option linter.unusedVariables false
set_option maxRecDepth 100000
set_option maxHeartbeats 2000000
section
namespace Go.Proofs.YtnfnaehonkbknaaGreatDoor
open Go Go.X Go.Proofs.Tryz
theorem Bjp {t : Option Nat} {H₀ H : Hp} {v : Value} {xs : List Int} (h : RowX t H₀ H v 3 (ints xs)) {g : Nat} {x : Int} (hg : H g = none) (hn : xs.length <= 1000000) (ty : TypeId) (cb : Array Bool) (K : Next -> Hp -> Prop) (E : Value -> Hp -> Prop)
  (h' : ∀ v' H', RowX t H₀ H' v' 3 (ints (xs ++ [x])) -> Other 3 H H' -> K (.value v') H') :
  wpS Tryz.prog (builtin .append #[22, 22] ty cb #[v, .slice (some ⟨g, 0, none⟩) 1 1]) (H.set g (.cells #[.int .i64 x] 3 (0, 0))) K E :=
 Bzv underlying22 sizeOf3 zeroValue3 rfl typeInfo3 (by decide) (by decide) h hg rfl (by rw [Aq1]; exact hn) ty cb K E fun v' H' hr ho => h' v' H' (by rw [Cxi]; exact hr) ho
theorem Cwc {t : Option Nat} {H₀ H : Hp} {v : Value} {vs : List Value} (h : RowX t H₀ H v 22 vs) {g : Nat} {w : Value} (hw : one w = true) (hg : H g = none) (hn : vs.length <= 1000000) (ty : TypeId) (cb : Array Bool) (K : Next -> Hp -> Prop) (E : Value -> Hp -> Prop)
  (h' : ∀ v' H', RowX t H₀ H' v' 22 (vs ++ [w]) -> Other 22 H H' -> K (.value v') H') :
  wpS Tryz.prog (builtin .append #[81, 81] ty cb #[v, .slice (some ⟨g, 0, none⟩) 1 1]) (H.set g (.cells #[w] 22 (0, 0))) K E :=
 Bzv underlying81 sizeOf22 zeroValue22 rfl typeInfo22 (by decide) (by decide) h hg hw hn ty cb K E h'
end Go.Proofs.YtnfnaehonkbknaaGreatDoor
end
section
namespace Go.Proofs.YtnfnaehonkbknaaGreatDoor
open Go Go.X
def drop (H : Hp) (b : Nat) : Hp := fun x => if x = b then none else H x
section
variable {H H' : Hp} {sv : Value} {start : List Int} {cv : Value} {xss : List (List Int)} {tv : Value} {ts : List Int}
end
end Go.Proofs.YtnfnaehonkbknaaGreatDoor
end
section
namespace Go.Proofs.YtnfnaehonkbknaaGreatDoor
open Go Go.X
def Akq (m n : Nat) : Nat := m ||| 2 ^ n
def Cyx (m n : Nat) : Nat := m &&& (63 - 2 ^ n)
def Djx (m : Nat) : Nat := (List.range 6).countP fun n => m.testBit n
def Ayi (m k : Nat) : List Int := ((List.range k).filter fun n => m.testBit n).map fun n : Nat => (n : Int)
def Byt (m : Nat) : List Int := Ayi m 6
def oOf (xs : List Int) : Nat := xs.foldl (fun m x => Akq m x.toNat) 0
theorem Bwh : ∀ m : Fin 64, ∀ n : Fin 6, bitv (fun x a b => a ||| b) IntKind.u8 (m.val : Int) (IntKind.u8.wrap (1 * 2 ^ min (n.val : Int).toNat IntKind.u8.bits)) = (Akq m.val (n.val : Int).toNat : Nat) /\ Akq m.val (n.val : Int).toNat < 64 := by decide +kernel
theorem Ckw {m : Nat} {n : Int} (hm : m < 64) (h0 : 0 <= n) (h1 : n < 6) : ∃ (a : Fin 64) (b : Fin 6), a.val = m /\ (b.val : Int) = n := ⟨⟨m, hm⟩, ⟨n.toNat, by omega⟩, rfl, by simp; omega⟩
theorem Bkc {m : Nat} {n : Int} (hm : m < 64) (h0 : 0 <= n) (h1 : n < 6) : Akq m n.toNat < 64 := by
 obtain ⟨a, b, rfl, rfl⟩ := Ckw hm h0 h1
 exact (Bwh a b).2
theorem Aji (m k : Nat) : Ayi m (k + 1) = Ayi m k ++ if m.testBit k then [(k : Int)] else [] := by
 unfold Ayi
 rw [List.range_succ, List.filter_append, List.map_append]
 congr 1
 by_cases h : m.testBit k <;> simp [h]
theorem Bz8 (m k : Nat) : (Ayi m k).length <= k := by
 unfold Ayi
 rw [List.length_map]
 exact Nat.le_trans (List.length_filter_le _ _) (by simp)
theorem Cva : ∀ (xs : List Int) (m : Nat), m < 64 -> (∀ x ∈ xs, 0 <= x /\ x < 6) -> xs.foldl (fun m x => Akq m x.toNat) m < 64
 | [], m, hm, _ => hm
 | x :: xs, m, hm, h => Cva xs _ (Bkc hm (h x List.mem_cons_self).1 (h x List.mem_cons_self).2) fun y hy => h y (List.mem_cons_of_mem _ hy)
end Go.Proofs.YtnfnaehonkbknaaGreatDoor
end
section
namespace Go.X
open Go
section
variable {P : Program} {H : Hp}
theorem Az9 {t : TypeId} {k : IntKind} (hu : P.underlying t = some (.int k)) (d : Nat) (j : IntKind) (a b : Int) (K : Bool -> Hp -> Prop) (E : Value -> Hp -> Prop) : wpS P (Op.equalIn (d + 1) t (.int j a) (.int j b)) H K E = K (a == b) H := by
 unfold Op.equalIn
 simp only [Aqa, Aqh hu, if_true, Aqd]
theorem Akg {α : Type} (x : α) (K : α -> Hp -> Prop) (E : Value -> Hp -> Prop) : wpS P (Sem.pure x) H K E = K x H := rfl
theorem Ajl (K : Program -> Hp -> Prop) (E : Value -> Hp -> Prop) : wpS P program H K E = K P H := rfl
structure Key2 (P : Program) (ks : TypeId) (k1 k2 : IntKind) : Prop where
 ex : ∃ f1 f2 : Field, P.underlying ks = some (.struct #[f1, f2]) /\ f1.name ≠ "_" /\ f2.name ≠ "_" /\ f1.offset = 0 /\ f2.offset = 1 /\ (∃ d, P.underlying f1.type = some (.int d)) /\ (∃ d, P.underlying f2.type = some (.int d))
 held : P.stoodInHeld ks = false
theorem Bvh {ks : TypeId} {k1 k2 : IntKind} (h : Key2 P ks k1 k2) (a b c d : Int) (K : Bool -> Hp -> Prop) (E : Value -> Hp -> Prop) :
  wpS P (Op.equal ks (.agg #[.int k1 a, .int k2 b]) (.agg #[.int k1 c, .int k2 d])) H K E = K (a == c && b == d) H := by
 obtain ⟨⟨f1, f2, hu, hn1, hn2, ho1, ho2, ⟨d1, h1⟩, ⟨d2, h2⟩⟩, hh⟩ := h
 unfold Op.equal Op.maxDepth
 rw [show (10000 : Nat) = 9998 + 1 + 1 from rfl]
 unfold Op.equalIn
 simp only [Aqa, Aqh hu, Ajl, hh, Bool.false_eq_true, if_false, Aqd, List.forIn_toArray, List.forIn_cons, List.forIn_nil, hn1, hn2, ne_eq, not_false_eq_true, if_true]
 rw [Aqk h1 rfl (v := .int k1 a) _ _ (by simp [ho1])]
 rw [Aqk h1 rfl (v := .int k1 c) _ _ (by simp [ho1]), show (9999 : Nat) = 9998 + 1 from rfl, Az9 h1]
 cases a == c
 ·simp only [Bool.not_false, if_true, Aqd, Bool.false_and]
 ·simp only [Bool.not_true, Bool.false_eq_true, if_false, Aqd, Bool.true_and, Aqa]
  rw [Aqk h2 rfl (v := .int k2 b) _ _ (by simp [ho2]), Aqk h2 rfl (v := .int k2 d) _ _ (by simp [ho2]), Az9 h2]
  cases b == d
  ·simp only [Bool.not_false, if_true, Aqd]
  ·simp only [Bool.not_true, Bool.false_eq_true, if_false, Aqd]
theorem Bqh {t : TypeId} {k : IntKind} (hu : P.underlying t = some (.int k)) (em : Bool) (n : Nat) (v : Value) (K : Unit -> Hp -> Prop) (E : Value -> Hp -> Prop) : wpS P (Instr.checkKey em (n + 1) t v) H K E = K () H := by
 unfold Instr.checkKey
 rw [Aqa, Aqh hu]
 rfl
end
end Go.X
end
section
namespace Go.Proofs.YtnfnaehonkbknaaGreatDoor
open Go Go.X
def Dku (m : Nat) (sent : Int) (t : Int) : Nat := Akq (if 0 <= sent then Cyx m sent.toNat else m) t.toNat
end Go.Proofs.YtnfnaehonkbknaaGreatDoor
end
section
namespace Go.X
open Go
section
variable {P : Program} {main : Md} {lp : Option Nat} {Q : Exit -> Act -> Hp -> Prop} {a : Act} {H : Hp}
def Dx6 (q : Option (Bool × Obj)) (o : Nat) : Option Value := match q with
 | some (_, .cells c _ _) => c[o]?
 | _ => none
theorem Djd {b o : Nat} : H.cell ⟨b, o, none⟩ = Dx6 (H b) o := by
 unfold Hp.cell Dx6
 simp
 rfl
theorem Cx8 {p : Bool} {c : Array Value} {e : TypeId} {f : Nat × Nat} {o : Nat} : Dx6 (some (p, .cells c e f)) o = c[o]? := rfl
def Cvv (q : Option (Bool × Obj)) (H : Hp) (b o : Nat) (v : Value) (K : Hp -> Prop) : Prop := match q with
 | some (true, .cells c e (lo, hi)) => o < c.size /\ (decide (lo <= o) && decide (o < hi)) = false /\ K (H.set b (.cells (c.setIfInBounds o v) e (lo, hi)))
 | _ => False
theorem Dka {b o : Nat} {v : Value} {K : Hp -> Prop} : stor H b o v K = Cvv (H b) H b o v K := rfl
theorem Cz9 {c : Array Value} {e : TypeId} {b o : Nat} {v : Value} {K : Hp -> Prop} : Cvv (some (true, .cells c e (0, 0))) H b o v K = (o < c.size /\ K (H.set b (.cells (c.setIfInBounds o v) e (0, 0)))) := by
 simp [Cvv]
def Cxl (q : Option (Bool × Obj)) (o n : Nat) (K : Value -> Prop) : Prop := match q with
 | some (_, .cells c _ _) => o + n <= c.size /\ K (.agg (c.extract o (o + n)))
 | _ => False
theorem Dzl {b o n : Nat} {K : Value -> Prop} : Bqx H b o n K = Cxl (H b) o n K := rfl
theorem Byo {p : Bool} {c : Array Value} {e : TypeId} {f : Nat × Nat} {o n : Nat} {K : Value -> Prop} : Cxl (some (p, .cells c e f)) o n K = (o + n <= c.size /\ K (.agg (c.extract o (o + n)))) := rfl
def Ay3 (q : Option (Bool × Obj)) (H : Hp) (b o : Nat) (vs : List Value) (K : Hp -> Prop) : Prop := match q with
 | some (true, .cells c e f) => if f = (0, 0) then (vs.all one) = true /\ o + vs.length <= c.size /\ K (H.set b (.cells (over c o vs) e (0, 0))) else Akd H b o vs K
 | _ => Akd H b o vs K
theorem Dzx {b o : Nat} {v : Value} {vs : List Value} {K : Hp -> Prop} : Akd H b o (v :: vs) K = Ay3 (H b) H b o (v :: vs) K := by
 rcases hb : H b with _ | ⟨p, ob⟩
 ·rfl
 ·cases p
  ·rfl
  ·cases ob <;> try rfl
   rename_i c e f
   simp only [Ay3]
   split
   ·rename_i hf; subst hf; rw [Dqc hb]
   ·rfl
theorem Cqe {c : Array Value} {e : TypeId} {b o : Nat} {vs : List Value} {K : Hp -> Prop} : Ay3 (some (true, .cells c e (0, 0))) H b o vs K = ((vs.all one) = true /\ o + vs.length <= c.size /\ K (H.set b (.cells (over c o vs) e (0, 0)))) := by
 simp [Ay3]
@[congr] theorem storLK_congr {q q' : Option (Bool × Obj)} {H' : Hp} {b o b' o' : Nat} {vs vs' : List Value} {K : Hp -> Prop} (hq : q = q') (hH : H = H') (hb : b = b') (ho : o = o') (hv : vs = vs') : Ay3 q H b o vs K = Ay3 q' H' b' o' vs' K := by subst hq hH hb ho hv; rfl
@[congr] theorem storK_congr {q q' : Option (Bool × Obj)} {H' : Hp} {b o b' o' : Nat} {v v' : Value} {K : Hp -> Prop} (hq : q = q') (hH : H = H') (hb : b = b') (ho : o = o') (hv : v = v') : Cvv q H b o v K = Cvv q' H' b' o' v' K := by subst hq hH hb ho hv; rfl
@[congr] theorem loadAK_congr {q q' : Option (Bool × Obj)} {o n : Nat} {o' : Nat} {K : Value -> Prop} (hq : q = q') (ho : o = o') : Cxl q o n K = Cxl q' o' n K := by subst hq ho; rfl
theorem Dzs {b x : Nat} {o : Obj} : (H.set b o) x = if x = b then some (true, o) else H x := rfl
theorem Dkt {x y : Nat} (h : x < y) : (x < y) = True := by simp [h]
theorem Dks {x y : Nat} (h : x <= y) : (x <= y) = True := by simp [h]
theorem Djh {x y : Int} (h : x < y) : decide (x < y) = true := decide_eq_true h
theorem Djg {x y : Int} (h : y <= x) : decide (x < y) = false := decide_eq_false (by omega)
theorem Djf {x y : Int} (h : x <= y) : decide (x <= y) = true := decide_eq_true h
theorem Dje {x y : Int} (h : y < x) : decide (x <= y) = false := decide_eq_false (by omega)
theorem Dz8 {x y : Int} (h : x = y) : (x == y) = true := by simp [h]
theorem Dz7 {x y : Int} (h : x ≠ y) : (x == y) = false := by simp [h]
theorem Djb {x y : Int} (h : x ≠ y) : (x != y) = true := by simp [h]
theorem Dja {x y : Int} (h : x = y) : (x != y) = false := by simp [h]
theorem Cjc (n : Nat) : ((n : Int)).toNat = n := rfl
theorem Dk3 {next : Act -> Hp -> Prop} : thn next Q .normal a H = next a H := rfl
theorem Dk1 {next : Act -> Hp -> Prop} {i : Nat} : thn next Q (.exit i) a H = Q (.exit i) a H := rfl
theorem Dk2 {next : Act -> Hp -> Prop} {i : Nat} : thn next Q (.goto i) a H = Q (.goto i) a H := rfl
theorem Dk4 {next : Act -> Hp -> Prop} : thn next Q .ret a H = Q .ret a H := rfl
theorem Dkm {id : Nat} : blk id Q .normal a H = Q .normal a H := rfl
theorem Dkk {id i : Nat} : blk id Q (.exit i) a H = if i = id then Q .normal a H else Q (.exit i) a H := rfl
theorem Dkl {id i : Nat} : blk id Q (.goto i) a H = Q (.goto i) a H := rfl
theorem Dkn {id : Nat} : blk id Q .ret a H = Q .ret a H := rfl
def yl (ds : List (Option Tmp)) (tmps : Array Value) (j : Nat) : Option Bool := match ((ds[j]?).bind id).bind (tmps[·]?) with
 | some (.bool b) => some b
 | _ => none
def ylK (q : Option Value) : Option Bool := match q with
 | some (.bool b) => some b
 | _ => none
def Dzz (ds : List (Option Tmp)) (o : Oper) (tmps : Array Value) : Bool := match o.guard with
 | none => true
 | some (j, b) => yl ds tmps j == some b
theorem Dkd {ops : Array Oper} {o : Oper} {tmps : Array Value} : Region.wanted o (yielded ops tmps) = Dzz (ops.toList.map (·.dst)) o tmps := by
 unfold Region.wanted Dzz
 cases o.guard with
 | none => rfl
 | some g =>
  obtain ⟨j, b⟩ := g
  have : yielded ops tmps j = yl (ops.toList.map (·.dst)) tmps j := by
   unfold yielded yl
   simp only [List.getElem?_map, Array.getElem?_toList]
   cases ops[j]? <;> rfl
  simp only [this]
def Dj9 (P : Program) (main : Md) (lp : Option Nat) (ds : List (Option Tmp)) (o : Oper) (Q : Exit -> Act -> Hp -> Prop) (K : Act -> Hp -> Prop) (a : Act) (H : Hp) : Prop :=
 if Dzz ds o a.tmps then fine lp o = true /\ opX P main lp o a H K Q else K (a.put o.dst undef) H
def runL (P : Program) (main : Md) (lp : Option Nat) (ds : List (Option Tmp)) (Q : Exit -> Act -> Hp -> Prop) : List Oper -> Act -> Hp -> Prop
 | [], a, H => Q .normal a H
 | o :: rest, a, H => Dj9 P main lp ds o Q (runL P main lp ds Q rest) a H
theorem Awc {ops : Array Oper} : ∀ (rest : List Oper) (k : Nat) (a : Act) (H : Hp), ops.toList.drop k = rest -> runL P main lp (ops.toList.map (·.dst)) Q rest a H -> runX P main lp ops Q (List.range' k rest.length) a H
 | [], _, _, _, _, h => h
 | o :: rest, k, a, H, hd, h => by
  simp only [List.length_cons, List.range'_succ]
  unfold runX numX
  have hk : ops[k]? = some o := by
   have := congrArg (·[0]?) hd
   simpa using this
  rw [hk]
  simp only []
  rw [Dkd]
  have hd' : ops.toList.drop (k + 1) = rest := by rw [<- List.drop_drop, hd]; rfl
  unfold runL Dj9 at h
  split
  ·rename_i hw
   rw [if_pos hw] at h
   exact ⟨h.1, Av9 h.2 fun a' H' h' => Awc rest (k + 1) a' H' hd' h'⟩
  ·rename_i hw
   rw [if_neg hw] at h
   exact Awc rest (k + 1) _ _ hd' h
theorem Bkj {ops : List Oper} {ds : List (Option Tmp)} (hds : ops.map (·.dst) = ds) (h : runL P main lp ds Q ops a H) : runX P main lp ops.toArray Q (List.range ops.toArray.size) a H := by
 subst hds
 rw [List.range_eq_range']
 have := Awc (ops := ops.toArray) ops 0 a H (by simp) (by simpa using h)
 simpa using this
theorem Axv {id : Nat} {ops : List Oper} {ds : List (Option Tmp)} {y : Code} (hds : ops.map (·.dst) = ds) (h : ∀ K : Act -> Hp -> Prop, (∀ a' H', wpX P main lp y Q a' H' -> K a' H') -> runL P main lp ds (only K) ops a H) :
 wpX P main lp (.seq (.region id ops.toArray false) y) Q a H := Cxy fun K hK => Bkj hds (h K hK)
theorem Az0 {id : Nat} {ops : List Oper} {ds : List (Option Tmp)} (hds : ops.map (·.dst) = ds) (h : ∀ K : Act -> Hp -> Prop, (∀ a' H', Q .normal a' H' -> K a' H') -> runL P main lp ds (only K) ops a H) :
 wpX P main lp (.region id ops.toArray false) Q a H := Bkr fun K hK => Bkj hds (h K hK)
@[congr] theorem runL_congr {ds : List (Option Tmp)} {l : List Oper} {a a' : Act} {H H' : Hp} (ha : a = a') (hH : H = H') : runL P main lp ds Q l a H = runL P main lp ds Q l a' H' := by subst ha hH; rfl
def Bvo (q : Option Bool) (b : Bool) (x y : Prop) : Prop := if q == some b then x else y
@[congr] theorem gateL_congr {q q' : Option Bool} {b b' : Bool} {x y : Prop} (hq : q = q') (hb : b = b') : Bvo q b x y = Bvo q' b' x y := by subst hq hb; rfl
theorem Cyh {x y : Prop} : Bvo (some true) true x y = x := rfl
theorem Cye {x y : Prop} : Bvo (some false) false x y = x := rfl
theorem Cyg {x y : Prop} : Bvo (some true) false x y = y := rfl
theorem Cyf {x y : Prop} : Bvo (some false) true x y = y := rfl
theorem Dk5 {ds : List (Option Tmp)} {tmps : Array Value} {j : Nat} : yl ds tmps j = ylK (((ds[j]?).bind id).bind (tmps[·]?)) := rfl
theorem Bkz {b : Bool} : ylK (some (.bool b)) = some b := rfl
theorem Djv {t : Option Tmp} : id t = t := rfl
theorem Azz {c : Operand} {x y : Code} {t : Bool} (ht : a.eval c = .bool t) (h1 : t = true -> wpX P main lp x Q a H) (h2 : t = false -> wpX P main lp y Q a H) : wpX P main lp (.cond c x y) Q a H := by
 refine Bxb ht ?_
 cases t
 ·exact h2 rfl
 ·exact h1 rfl
theorem Cy5 {ds : List (Option Tmp)} : runL P main lp ds Q [] a H = Q .normal a H := rfl
theorem Cy6 {ds : List (Option Tmp)} {d : Option Tmp} {op : Op} {ty : TypeId} {pos : String} {af : Array Edge} {rest : List Oper} :
 runL P main lp ds Q (⟨d, op, ty, pos, af, none⟩ :: rest) a H = (fine lp ⟨d, op, ty, pos, af, none⟩ = true /\ opX P main lp ⟨d, op, ty, pos, af, none⟩ a H (runL P main lp ds Q rest) Q) := rfl
theorem Dj1 {ds : List (Option Tmp)} {d : Option Tmp} {op : Op} {ty : TypeId} {pos : String} {af : Array Edge} {j : Nat} {b : Bool} {rest : List Oper} :
 runL P main lp ds Q (⟨d, op, ty, pos, af, some (j, b)⟩ :: rest) a H = Bvo (yl ds a.tmps j) b (fine lp ⟨d, op, ty, pos, af, some (j, b)⟩ = true /\ opX P main lp ⟨d, op, ty, pos, af, some (j, b)⟩ a H (runL P main lp ds Q rest) Q) (runL P main lp ds Q rest (a.put d undef) H) := rfl
end
end Go.X
end
section
namespace Go.X
open Go
open Go.Conc (G base)
section
variable {P : Program} {main : Md} {lp : Option Nat} {Q : Exit -> Act -> Hp -> Prop} {a : Act} {H : Hp}
def scp (c : Code) (I : Nat -> Act -> Hp -> Prop) (Q : Exit -> Act -> Hp -> Prop) : Exit -> Act -> Hp -> Prop
 | .normal, a, H => Q .normal a H
 | .exit id, a, H => Q (.exit id) a H
 | .goto l, a, H => if (findLabel c l).isSome then I l a H else Q (.goto l) a H
 | .ret, a, H => Q .ret a H
 | .panic ch, a, H => Q (.panic ch) a H
 | .outgrown, _, _ => False
theorem Dky {c : Code} {I : Nat -> Act -> Hp -> Prop} : scp c I Q .normal a H = Q .normal a H := rfl
theorem Dkx {c : Code} {I : Nat -> Act -> Hp -> Prop} {i : Nat} : scp c I Q (.exit i) a H = Q (.exit i) a H := rfl
theorem Dkz {c : Code} {I : Nat -> Act -> Hp -> Prop} : scp c I Q .ret a H = Q .ret a H := rfl
theorem Bwl {c : Code} (I : Nat -> Nat -> Act -> Hp -> Prop) (h : wpX P main lp c (scp c (fun l a H => ∃ n, I l n a H) Q) a H)
  (hr : ∀ l rest n a H, findLabel c l = some rest -> I l n a H -> wpX P main lp rest (scp c (fun l a H => ∃ n', n' < n /\ I l n' a H) Q) a H) : wpX P main lp (.scope c) Q a H := by
 intro b k cs Stop hk hl hc
 have key : ∀ n l rest a H, findLabel c l = some rest -> I l n a H -> WPG P main Stop (G (fat b a (.code rest :: .inScope c :: k)) cs) H := by
  intro n
  induction n using Nat.strongRecOn with
  | _ n ih =>
  intro l rest a H hf hI
  refine hr l rest n a H hf hI b (.inScope c :: k) cs Stop hk hl fun e a' H' q => ?_
  cases e with
  | normal => exact .ctl (g' := G (fat b a' k) cs) rfl (fun w => by simp [G, stepG, stepG.exec, fat]) (hc _ _ _ q)
  | exit id => exact fun k' hk' => hc _ _ _ q k' (hk'.trans (by simp [exitTo]))
  | goto l' =>
   simp only [scp] at q
   split at q
   ·rename_i hs
    obtain ⟨n', hlt, hI'⟩ := q
    obtain ⟨rest', hf'⟩ := Option.isSome_iff_exists.1 hs
    intro k' hk'
    have hx : gotoIn l' k' = some (.code rest' :: .inScope c :: k) := hk'.trans (by simp [gotoIn, hf'])
    exact .ctl (g' := G (fat b a' (.code rest' :: .inScope c :: k)) cs) rfl (fun w => by simp [G, stepG, stepG.exec, fat, hx]) (ih n' hlt l' rest' a' H' hf' hI')
   ·rename_i hs
    have hn : findLabel c l' = none := by simpa using hs
    exact fun k' hk' => hc _ _ _ q k' (hk'.trans (by simp [gotoIn, hn]))
  | ret => exact hc _ _ _ q
  | panic ch => exact hc _ _ _ q
  | outgrown => exact q.elim
 refine .ctl (g' := G (fat b a (.code c :: .inScope c :: k)) cs) rfl (fun w => by simp [G, stepG, stepG.exec, fat]) ?_
 refine h b (.inScope c :: k) cs Stop hk hl fun e a' H' q => ?_
 cases e with
 | normal => exact .ctl (g' := G (fat b a' k) cs) rfl (fun w => by simp [G, stepG, stepG.exec, fat]) (hc _ _ _ q)
 | exit id => exact fun k' hk' => hc _ _ _ q k' (hk'.trans (by simp [exitTo]))
 | goto l' =>
  simp only [scp] at q
  split at q
  ·rename_i hs
   obtain ⟨n', hI'⟩ := q
   obtain ⟨rest', hf'⟩ := Option.isSome_iff_exists.1 hs
   intro k' hk'
   have hx : gotoIn l' k' = some (.code rest' :: .inScope c :: k) := hk'.trans (by simp [gotoIn, hf'])
   exact .ctl (g' := G (fat b a' (.code rest' :: .inScope c :: k)) cs) rfl (fun w => by simp [G, stepG, stepG.exec, fat, hx]) (key n' l' rest' a' H' hf' hI')
  ·rename_i hs
   have hn : findLabel c l' = none := by simpa using hs
   exact fun k' hk' => hc _ _ _ q k' (hk'.trans (by simp [gotoIn, hn]))
 | ret => exact hc _ _ _ q
 | panic ch => exact hc _ _ _ q
 | outgrown => exact q.elim
def scp0 (Q : Exit -> Act -> Hp -> Prop) : Exit -> Act -> Hp -> Prop
 | .normal, a, H => Q .normal a H
 | .exit id, a, H => Q (.exit id) a H
 | .goto _, _, _ => False
 | .ret, a, H => Q .ret a H
 | .panic ch, a, H => Q (.panic ch) a H
 | .outgrown, _, _ => False
theorem Dj3 : scp0 Q .normal a H = Q .normal a H := rfl
theorem Dj2 {i : Nat} : scp0 Q (.exit i) a H = Q (.exit i) a H := rfl
theorem Dj4 : scp0 Q .ret a H = Q .ret a H := rfl
theorem Az7 {c : Code} (h : wpX P main lp c (scp0 Q) a H) : wpX P main lp (.scope c) Q a H := by
 refine Bwl (fun _ _ _ _ => False) (Az1 h fun e a H q => ?_) fun _ _ _ _ _ _ h => h.elim
 cases e <;> first | exact q | exact q.elim
end
def aq := And.intro @Cy5 (And.intro @Cyh (And.intro @Cye (And.intro @Cyg (And.intro @Cyf (And.intro @Dk5 (And.intro @Bkz (And.intro @Djv (And.intro @Djd (And.intro @Cx8 (And.intro @Dka (And.intro @Cz9 (And.intro @Dzl (And.intro @Byo (And.intro @Bx8 (And.intro @Dzx (And.intro @Cqe (And.intro @Awv (And.intro @Dzs (And.intro @Cjc (And.intro @Nat.mul_one (And.intro @true_and (And.intro @and_true (And.intro @decide_true (And.intro @decide_false (And.intro @Dkt (And.intro @Dks (And.intro @Djh (And.intro @Djg (And.intro @Djf (And.intro @Dje (And.intro @Dz8 (And.intro @Dz7 (And.intro @Djb (And.intro @Dja (And.intro @Bool.not_true @Bool.not_false)))))))))))))))))))))))))))))))))))
def ap := And.intro @Cy6 @Dj1
def qe0 := @exists_eq_left'
def qe1 := @if_true
def qe2 := @if_false
def qe3 := @beq_iff_eq
def qe4 := @beq_eq_false_iff_ne
def qe5 := @bne_iff_ne
def qe6 := @bne_eq_false_iff_eq
def bq := And.intro @Djh (And.intro @Djg (And.intro @Djf (And.intro @Dje (And.intro @Dz8 (And.intro @Dz7 (And.intro @Djb (And.intro @Dja (And.intro @decide_true (And.intro @decide_false (And.intro @Bool.not_true (And.intro @Bool.not_false (And.intro @Bool.false_eq_true (And.intro @Bool.and_self (And.intro @Bool.and_true (And.intro @Bool.and_false (And.intro @Bool.true_and @Bool.false_and))))))))))))))))
def dq := And.intro @decide_eq_true_eq (And.intro @decide_eq_false_iff_not (And.intro @Bool.not_eq_true' (And.intro @Bool.not_eq_false' (And.intro @Int.not_lt @Int.not_le))))
def nq := And.intro @Dky (And.intro @Dkx (And.intro @Dkz (And.intro @Dj3 (And.intro @Dj2 (And.intro @Dj4 (And.intro @Dk3 (And.intro @Dk1 (And.intro @Dk2 (And.intro @Dk4 (And.intro @Dkm (And.intro @Dkk (And.intro @Dkl @Dkn))))))))))))
end Go.X
end
section
namespace Go.X
open Go
def ldO (q : Option Value) (K : Value -> Prop) : Prop := ∃ v, q = some v /\ K v
@[congr] theorem ldO_congr {q q' : Option Value} {K : Value -> Prop} (h : q = q') : ldO q K = ldO q' K := by rw [h]
theorem ldO_some {v : Value} {K : Value -> Prop} : ldO (some v) K = K v := by simp [ldO]
theorem ld_O {H : Hp} {a : Addr} {K : Value -> Prop} : (∃ v, H.cell a = some v /\ K v) = ldO (H.cell a) K := rfl
theorem ylK_undef : ylK (some undef) = none := rfl
theorem gateL_no {b : Bool} {x y : Prop} : Bvo none b x y = y := by cases b <;> rfl
end Go.X
end
section
namespace Go.Proofs.YtnfnaehonkbknaaGreatDoor
open Go Go.X
theorem Bkd (m n k : Nat) : (Akq m n).testBit k = (m.testBit k || decide (n = k)) := by
 unfold Akq
 rw [Nat.testBit_or, Nat.testBit_two_pow]
theorem Aya : ∀ (xs : List Int) (m : Nat), (∀ x ∈ xs, 0 <= x) -> ∀ y : Int, 0 <= y -> (xs.foldl (fun m x => Akq m x.toNat) m).testBit y.toNat = (m.testBit y.toNat || decide (y ∈ xs))
 | [], m, _, y, _ => by simp
 | x :: xs, m, h, y, hy => by
  rw [List.foldl_cons, Aya xs _ (fun z hz => h z (List.mem_cons_of_mem _ hz)) y hy, Bkd, Bool.or_assoc]
  congr 1
  have hx := h x List.mem_cons_self
  have : decide (x.toNat = y.toNat) = decide (y = x) := by
   by_cases e : y = x
   ·subst e; simp
   ·rw [decide_eq_false e, decide_eq_false (by omega)]
  rw [this, <- Bool.decide_or]
  simp [List.mem_cons]
theorem Byu (xs : List Int) (h : ∀ x ∈ xs, 0 <= x) (y : Int) (hy : 0 <= y) : (oOf xs).testBit y.toNat = decide (y ∈ xs) := by
 unfold oOf
 rw [Aya xs 0 h y hy]
 simp
end Go.Proofs.YtnfnaehonkbknaaGreatDoor
end
section
namespace Go.X
open Go
section
variable {P : Program} {main : Md} {lp : Option Nat} {Q : Exit -> Act -> Hp -> Prop} {a : Act} {H : Hp}
theorem Aqc {H H' : Hp} {b : Nat} {o : Obj} (h : H.set b o = H') (hb : H b = none) : H.le H' := h ▸ Hp.le_set hb
theorem Aqb {H H' : Hp} {b : Nat} {o : Obj} (h : H.set b o = H') : H' b = some (true, o) := by rw [<- h, Azr, if_pos rfl]
theorem Aqf {H H' : Hp} {b x : Nat} {o : Obj} {v : Bool × Obj} (h : H.set b o = H') (hx : H x = some v) (hn : x ≠ b) : H' x = some v := by rw [<- h, Azr, if_neg hn]; exact hx
theorem Aqq {H : Hp} {b x : Nat} {v : Bool × Obj} (hx : H x = some v) (hb : H b = none) : x ≠ b := fun e => by rw [e, hb] at hx; cases hx
theorem Ckf (op : BinOp) (t : TypeId) (x y : Operand) (p q : Option Addr) (n c n' c' : Nat) (K : Unit -> Hp -> Prop) (E : Value -> Hp -> Prop) : wpS P (eqGuard op t x y (.slice p n c) (.slice q n' c')) H K E = K () H := by
 unfold eqGuard; cases op <;> rfl
theorem Cke (op : BinOp) (t : TypeId) (x y : Operand) (u : TypeId) (v : Value) (K : Unit -> Hp -> Prop) (E : Value -> Hp -> Prop) : wpS P (eqGuard op t x y (.iface u v) .nilIface) H K E = K () H := by
 unfold eqGuard; cases op <;> rfl
theorem Dza (op : BinOp) (t : TypeId) (x : Operand) (v : Value) (K : Unit -> Hp -> Prop) (E : Value -> Hp -> Prop) : wpS P (eqGuard op t x (.const v) .nilIface .nilIface) H K E = K () H := by
 unfold eqGuard; cases op <;> cases x <;> rfl
theorem Bjt {t e : TypeId} (hu : P.underlying t = some (.slice e)) (p : Option Addr) (n c : Nat) (K : Value -> Hp -> Prop) (E : Value -> Hp -> Prop) : wpS P (binOp .eql t (.slice p n c) (.slice none 0 0)) H K E = K (.bool p.isNone) H := by
 simp only [binOp]
 rw [Aqa]
 unfold Op.equal Op.maxDepth
 rw [show (10000 : Nat) = 9999 + 1 from rfl]
 unfold Op.equalIn
 rw [Aqa, Aqh hu]
 cases p <;> rfl
theorem Bwu {t : TypeId} {ms : Array (String × TypeId)} (hu : P.underlying t = some (.interface ms)) (K : Value -> Hp -> Prop) (E : Value -> Hp -> Prop) : wpS P (binOp .eql t .nilIface .nilIface) H K E = K (.bool true) H := by
 simp only [binOp]
 rw [Aqa]
 unfold Op.equal Op.maxDepth
 rw [show (10000 : Nat) = 9999 + 1 from rfl]
 unfold Op.equalIn
 rw [Aqa, Aqh hu]
 rfl
theorem Bjs {t : TypeId} {ms : Array (String × TypeId)} (hu : P.underlying t = some (.interface ms)) (u : TypeId) (v : Value) (K : Value -> Hp -> Prop) (E : Value -> Hp -> Prop) : wpS P (binOp .eql t (.iface u v) .nilIface) H K E = K (.bool false) H := by
 simp only [binOp]
 rw [Aqa]
 unfold Op.equal Op.maxDepth
 rw [show (10000 : Nat) = 9999 + 1 from rfl]
 unfold Op.equalIn
 rw [Aqa, Aqh hu]
 rfl
theorem Bwv {t : TypeId} {ms : Array (String × TypeId)} (hu : P.underlying t = some (.interface ms)) (K : Value -> Hp -> Prop) (E : Value -> Hp -> Prop) : wpS P (binOp .neq t .nilIface .nilIface) H K E = K (.bool false) H := by
 simp only [binOp]
 rw [Aqa]
 unfold Op.equal Op.maxDepth
 rw [show (10000 : Nat) = 9999 + 1 from rfl]
 unfold Op.equalIn
 rw [Aqa, Aqh hu]
 rfl
theorem Bju {t : TypeId} {ms : Array (String × TypeId)} (hu : P.underlying t = some (.interface ms)) (u : TypeId) (v : Value) (K : Value -> Hp -> Prop) (E : Value -> Hp -> Prop) : wpS P (binOp .neq t (.iface u v) .nilIface) H K E = K (.bool true) H := by
 simp only [binOp]
 rw [Aqa]
 unfold Op.equal Op.maxDepth
 rw [show (10000 : Nat) = 9999 + 1 from rfl]
 unfold Op.equalIn
 rw [Aqa, Aqh hu]
 rfl
theorem Aw5 {t st : TypeId} {d : TypeDesc} (hu : P.underlying t = some d) (hd : (match d with | .interface _ => true | _ => false) = false) {z : Value} (hz : ∀ w, (zeroValue t).run P w = .ok z w) (u : TypeId) (v : Value) (K : Value -> Hp -> Prop) (E : Value -> Hp -> Prop) :
  wpS P (Instr.typeAssert (.iface u v) st t true) H K E = if u = t then K (.tuple #[v, .bool true]) H else K (.tuple #[z, .bool false]) H := by
 unfold Instr.typeAssert
 rw [Aqa, Aqh hu]
 cases d <;> first | (cases hd; done) | (simp only [Bzc, Aqd, if_true, Aqa, Aq8 hz])
def Bzq (P : Program) (v : Value) (name : String) (args : Array Value) (H : Hp) (K : Next -> Hp -> Prop) (E : Value -> Hp -> Prop) : Prop := wpS P (callMethod v name args) H K E
@[congr] theorem methK_congr {v v' : Value} {name : String} {args args' : Array Value} {H' : Hp} {K : Next -> Hp -> Prop} {E : Value -> Hp -> Prop} (hv : v = v') (ha : args = args') (hH : H = H') : Bzq P v name args H K E = Bzq P v' name args' H' K E := by subst hv ha hH; rfl
theorem Aka (ρ : Operand -> Value) (d : Option Tmp) (ty : TypeId) (pos : String) (af : Array Edge) (g : Option (Nat × Bool)) (K : Next -> Hp -> Prop) (E : Value -> Hp -> Prop) {x : Operand} {name : String} {args : List Operand} {ats : Array TypeId} :
  wpS P (execOp ρ ⟨d, .call ⟨.invoke x name, args.toArray, ats⟩, ty, pos, af, g⟩) H K E = Bzq P (ρ x) name (args.toArray.map ρ) H K E := by
 simp only [execOp, resolve, invoke, Bzq]
 rw [Aqa]
 simp only [Aqd]
 have h0 : (#[ρ x] ++ Array.map ρ args.toArray)[0]? = some (ρ x) := by simp
 have h1 : (#[ρ x] ++ Array.map ρ args.toArray).extract 1 (#[ρ x] ++ Array.map ρ args.toArray).size = Array.map ρ args.toArray := by
  apply Array.ext'
  simp [List.extract_eq_take_drop, List.take_of_length_le]
 simp only [h0, h1]
theorem Byf {t e : TypeId} {t2 : TypeId} (hu : P.underlying t = some (.slice e)) (hs : ∀ w, (sizeOf e).run P w = .ok 1 w) (ty : TypeId) (cb : Array Bool) (b o n c b2 o2 n2 c2 : Nat) {p2 : Bool} {cs cs2 : List Value} {e1 e2 : TypeId} {fr2 : Nat × Nat}
  (hb : H b = some (true, .cells cs.toArray e1 (0, 0))) (hb2 : H b2 = some (p2, .cells cs2.toArray e2 fr2)) (h1 : o + min n2 n <= cs.length) (h2 : o2 + min n2 n <= cs2.length) (hone : ∀ v ∈ (cs2.drop o2).take (min n2 n), one v = true) (K : Next -> Hp -> Prop) (E : Value -> Hp -> Prop)
  (hK : K (.value (.int .i64 (min n2 n : Nat))) (H.set b (.cells (over cs.toArray o ((cs2.drop o2).take (min n2 n))) e1 (0, 0)))) :
  wpS P (builtin .copy #[t, t2] ty cb #[.slice (some ⟨b, o, none⟩) n c, .slice (some ⟨b2, o2, none⟩) n2 c2]) H K E := by
 simp only [builtin]
 rw [Aqa]
 unfold Builtin.copy_
 simp only [List.getElem?_toArray, List.getElem?_cons_zero, List.getElem?_cons_succ]
 have hlen : ((cs2.drop o2).take (min n2 n)).length = min n2 n := by simp; omega
 have hmin : Nat.min n2 n = min n2 n := rfl
 simp only [Aqa, Aqh hu, Aqd, Builtin.lenOf, Aqw hs, hmin, Nat.mul_one, Builtin.firstCells]
 rw [Azg (cs := (cs2.drop o2).take (min n2 n)) (by rw [hlen]) (fun j u hj => by
  have hjl : j < ((cs2.drop o2).take (min n2 n)).length := (List.getElem?_eq_some_iff.1 hj).1
  rw [hlen] at hjl
  rw [cell_of hb2]
  rw [List.getElem?_take_of_lt hjl, List.getElem?_drop] at hj
  simpa using hj)]
 simp only [Aqa]
 refine Akr b o _ E _ 0 H cs.toArray e1 (by simpa using hone) hb ?_ ?_
 ·simp only [List.toList_toArray, hlen, Nat.add_zero, List.size_toArray]
  omega
 ·simp only [List.toList_toArray, Nat.add_zero, Aqd]
  exact hK
theorem Bxe {t e : TypeId} (hu : P.underlying t = some (.slice e)) {sz : Nat} (hs : ∀ w, (sizeOf e).run P w = .ok sz w) (ty : TypeId) (cb : Array Bool) (p q : Option Addr) (n cap cap2 : Nat) (h : n <= cap) (K : Next -> Hp -> Prop) (E : Value -> Hp -> Prop) (hK : K (.value (.slice p n cap)) H) :
  wpS P (builtin .append #[t, t] ty cb #[.slice p n cap, .slice q 0 cap2]) H K E := by
 simp only [builtin]
 rw [Aqa]
 unfold Builtin.append_
 simp only [List.getElem?_toArray, List.getElem?_cons_zero, List.getElem?_cons_succ]
 rw [Aqa, Aqh hu]
 simp only [Aqa, Aqw hs, Aqh hu, Aqd, Bool.false_eq_true, if_false, Builtin.lenOf, Bzc, Nat.add_zero, h, if_true, Bool.not_false]
 have hf : ∀ (K' : Array Value -> Hp -> Prop), wpS P (Builtin.firstCells sz 0 (.slice q 0 cap2)) H K' E = K' #[] H := fun K' => by
  unfold Builtin.firstCells
  cases q with
  | none => rfl
  | some a => simp only [loadCells, Nat.zero_mul]; rfl
 rw [hf]
 cases p with
 | none => simp only [Aqd]; exact hK
 | some a => simp only [Aqa, storeCells, Aqd]; exact hK
end
end Go.X
end
section
namespace Go.Proofs.YtnfnaehonkbknaaGreatDoor
open Go Go.X
variable {H : Hp} (args : Array Value) (K : Next -> Hp -> Prop) (E : Value -> Hp -> Prop)
theorem Ayf (v : Value) : Bzq Tryz.prog (.iface 206 v) "gladstone/smell.at" args H K E = wpS Tryz.prog (callFunc 150 (#[v] ++ args)) H K E := by kernel_rfl
theorem Ayh (v : Value) : nilK Tryz.prog (.func (.method "gladstone/smell.at") #[.iface 206 v] #[]) H K E = K (.value (.func (.method "gladstone/smell.at") #[.iface 206 v] #[])) H := by kernel_rfl
theorem Bqy (v : Value) : Bzq Tryz.prog (.iface 208 v) "gladstone/smell.at" args H K E = wpS Tryz.prog (callFunc 151 (#[v] ++ args)) H K E := by kernel_rfl
theorem Bq0 (v : Value) : nilK Tryz.prog (.func (.method "gladstone/smell.at") #[.iface 208 v] #[]) H K E = K (.value (.func (.method "gladstone/smell.at") #[.iface 208 v] #[])) H := by kernel_rfl
end Go.Proofs.YtnfnaehonkbknaaGreatDoor
end
section
namespace Go.Proofs.YtnfnaehonkbknaaGreatDoor
open Go Go.X
theorem SlI.isSlice {H : Hp} {v : Value} {xs : List Int} (h : SlI H v xs) : ∃ a n c, v = .slice a n c := by
 obtain ⟨a, c, rfl, _⟩ := h
 exact ⟨_, _, _, rfl⟩
end Go.Proofs.YtnfnaehonkbknaaGreatDoor
end
section
namespace Go.Proofs.YtnfnaehonkbknaaGreatDoor
open Go Go.X Go.Proofs.Tryz
def Bqp := aN @Ckf (aN (fun H => Bjt (H := H) underlying22) (fun H => Bw1 (H := H) underlying22 sizeOf3))
theorem Dk6 {p q : Prop} (g : q) (h : Hid q -> p := by
 intro g
 repeat' (first
 | (refine Axv rfl ?_; intro Kz hKz; simp -implicitDefEqProofs (disch := first | omega | (simp only [qd] <;> omega)) only [xq, ↓xp, qc, Nat.reduceAdd, List.range, List.range.loop, fine, Nat.reduceEqDiff, ↓reduceIte, yielded, reduceCtorEq, Nat.reduceLT, Nat.reduceMul, Nat.reduceSub, one, Nat.reduceLeDiff, Aqj, Bqp, aq, ↓ap, qe0, qe1, qe2, *, -g, -hKz, Option.isNone_none]; try (refine hKz _ _ ?_; clear hKz Kz))
 | (refine Az0 rfl ?_; intro Kz hKz; simp -implicitDefEqProofs (disch := first | omega | (simp only [qd] <;> omega)) only [xq, ↓xp, qc, Nat.reduceAdd, List.range, List.range.loop, fine, Nat.reduceEqDiff, ↓reduceIte, yielded, reduceCtorEq, Nat.reduceLT, Nat.reduceMul, Nat.reduceSub, one, Nat.reduceLeDiff, Aqj, Bqp, aq, ↓ap, qe0, qe1, qe2, *, -g, -hKz, Option.isNone_none]; try (refine hKz _ _ ?_; clear hKz Kz; (try simp only [nq, ↓reduceIte, Nat.reduceEqDiff])))
 | (refine Ajc ?_; (try simp only [nq, ↓reduceIte, Nat.reduceEqDiff]))
 | (refine Azu ?_; (try simp only [nq, ↓reduceIte, Nat.reduceEqDiff]))
 | (refine Ajo ?_; (try simp only [nq, ↓reduceIte, Nat.reduceEqDiff]))
 | (refine Ajp ?_; (try simp only [nq, ↓reduceIte, Nat.reduceEqDiff]))
 | (refine Azz (by simp only [Aq6, Axg, Nat.reduceEqDiff, Nat.reduceLT, ↓reduceIte, *, -g]; rfl) ?_ ?_ <;> (intro hcz; first | (exfalso; simp -implicitDefEqProofs (disch := omega) only [*, -g, bq, reduceCtorEq] at hcz; done) | (simp only [dq, qe3, qe4, qe5, qe6] at hcz) | skip))
 | (refine Az7 ?_)
 | (refine Azt ?_)
 | (refine Axy ?_))
 refine unT ?_; (try (revert hcz; refine unC ?_)); (repeat (revert hcz; refine unD ?_)); first | revert Kz | refine unU ?_
 exact Hid.out g) : Hid p := ⟨h ⟨g⟩⟩
theorem Dk7 {p q : Prop} (g : q) (h : Hid q -> p := by
 intro g
 repeat' (first
 | (refine Axv rfl ?_; intro Kz hKz; simp -implicitDefEqProofs (disch := first | omega | (simp only [qd] <;> omega)) only [xq, ↓xp, qc, Nat.reduceAdd, List.range, List.range.loop, fine, Nat.reduceEqDiff, ↓reduceIte, yielded, reduceCtorEq, Nat.reduceLT, Nat.reduceMul, Nat.reduceSub, one, Nat.reduceLeDiff, Aqj, Bqp, aq, ↓ap, qe0, qe1, qe2, *, -g, -hKz, Option.isNone_some]; try (refine hKz _ _ ?_; clear hKz Kz))
 | (refine Az0 rfl ?_; intro Kz hKz; simp -implicitDefEqProofs (disch := first | omega | (simp only [qd] <;> omega)) only [xq, ↓xp, qc, Nat.reduceAdd, List.range, List.range.loop, fine, Nat.reduceEqDiff, ↓reduceIte, yielded, reduceCtorEq, Nat.reduceLT, Nat.reduceMul, Nat.reduceSub, one, Nat.reduceLeDiff, Aqj, Bqp, aq, ↓ap, qe0, qe1, qe2, *, -g, -hKz, Option.isNone_some]; try (refine hKz _ _ ?_; clear hKz Kz; (try simp only [nq, ↓reduceIte, Nat.reduceEqDiff])))
 | (refine Ajc ?_; (try simp only [nq, ↓reduceIte, Nat.reduceEqDiff]))
 | (refine Azu ?_; (try simp only [nq, ↓reduceIte, Nat.reduceEqDiff]))
 | (refine Ajo ?_; (try simp only [nq, ↓reduceIte, Nat.reduceEqDiff]))
 | (refine Ajp ?_; (try simp only [nq, ↓reduceIte, Nat.reduceEqDiff]))
 | (refine Azz (by simp only [Aq6, Axg, Nat.reduceEqDiff, Nat.reduceLT, ↓reduceIte, *, -g]; rfl) ?_ ?_ <;> (intro hcz; first | (exfalso; simp -implicitDefEqProofs (disch := omega) only [*, -g, bq, reduceCtorEq] at hcz; done) | (simp only [dq, qe3, qe4, qe5, qe6] at hcz) | skip))
 | (refine Az7 ?_)
 | (refine Azt ?_)
 | (refine Axy ?_))
 refine unT ?_; (try (revert hcz; refine unC ?_)); (repeat (revert hcz; refine unD ?_)); first | revert Kz | refine unU ?_
 exact Hid.out g) : Hid p := ⟨h ⟨g⟩⟩
theorem Czb (m : Md) (H : Hp) (v : Value) (xs : List Int) (hv : SlI H v xs) (hl : xs.length <= 1000000) :
  FnX Tryz.prog m 56 #[v] H fun e H' => ∃ w, e = .returned w /\ RowX none H H' w 3 (ints xs) := by
 obtain ⟨a, cap, rfl, hcap, hx⟩ := hv
 refine Aql func56 rfl ntmps56 (by simp) ?_
 cases a with
 | none =>
  have : xs = [] := by
   cases xs with
   | nil => rfl
   | cons x xs => obtain ⟨b, o, p, c, fr, h, _⟩ := hx 0 x rfl; cases h
  subst this
  (refine @unH _ (Dk6 ?_); (try clear hK K); intro K hK hc)
  (refine @unH _ ?_; refine z9 results56 ?_)
  exact ⟨_, rfl, RowX.nil⟩
 | some ad =>
  (refine @unH _ (Dk7 ?_); (try clear hK K); intro K hK hc)
  intro nb hnb
  have hle : H.le (H.set nb (.cells #[] 3 (0, 0))) := Hp.le_set hnb
  have hrow0 : Aku H (H.set nb (.cells #[] 3 (0, 0))) (.slice (some ⟨nb, 0, none⟩) 0 0) 3 1 0 (ints []) := .inr ⟨nb, #[], 0, hnb, rfl, rfl, rfl, rfl, Nat.le_refl _, fun i u hi => by simp [ints] at hi⟩
  obtain ⟨b, o, sp⟩ := ad
  cases xs with
  | nil =>
   (refine @unH _ (zU Bqp ?_); intro _ _ hc)
   refine Bxe underlying22 sizeOf3 _ _ _ _ _ _ _ (Nat.le_refl _) _ _ ?_
   (refine @unH _ (zU Bqp ?_); (try clear hK K); intro K hK hc)
   (refine @unH _ ?_; refine z9 results56 ?_)
   exact ⟨_, rfl, Lex.of hle, .inr ⟨nb, #[], 0, hnb, Axp, rfl, rfl, Nat.le_refl _, fun i u hi => by simp [ints] at hi⟩⟩
  | cons x0 xs0 =>
   obtain ⟨b', o', p', c', fr', h', hb', _⟩ := hx 0 x0 rfl
   cases h'
   (refine @unH _ (zU Bqp ?_); intro _ _ hc)
   have hgne : b ≠ nb := Aqq hb' hnb
   refine Bwp hrow0 (Hp.le_refl _) (ys := x0 :: xs0) rfl (fun h => absurd h (by rw [hb']; simp)) (fun j y hj => ?_) (by simp at hl ⊢; omega) _ _ _ _ (fun v' H1 H2 hr hl2 => ?_)
   ·obtain ⟨b2, o2, p2, c2, fr2, e2, hb2, hc2⟩ := hx j y hj
    cases e2
    rw [Bya hgne, cell_of hb2]
    exact hc2
   ·(refine @unH _ (zU Bqp ?_); (try clear hK K); intro K hK hc)
    (refine @unH _ ?_; refine z9 results56 ?_)
    refine ⟨_, rfl, ?_⟩
    have hlen := hr.len
    rcases hr with ⟨_, h0, _⟩ | ⟨b3, c3, cap3, hb3, rfl, rfl, hs3, hl3, hn3, hg3⟩
    ·simp at h0
    ·refine ⟨Lex.of (Hp.le_trans (Hp.le_set hb3) hl2), .inr ⟨b3, c3, cap3, hb3, hl2 _ _ Axp, ?_, by simpa using hs3, ?_, ?_⟩⟩
     ·simp [ints]
     ·simpa [ints] using hn3
     ·intro i u hi; exact hg3 i u (by simpa using hi)
end Go.Proofs.YtnfnaehonkbknaaGreatDoor
end
section
namespace Go.Proofs.YtnfnaehonkbknaaGreatDoor
open Go Go.X
def Dkw (r : Int) (came asked later : List Int) (p : Int) : Int :=
 if r = 0 then p else if r = 1 then came.getD p.toNat 0 else if r = 2 then asked.getD p.toNat 0 else - later.getD p.toNat 0
theorem Cxn {P : Program} {main : Md} {H : Hp} {f : FuncId} {args : Array Value} {v : Value} (h : FnX P main f args H fun e H' => e = .returned v /\ H.le H') : Runs P main (Frame.enter P f args .normal) H fun
  | .returned u, H₁ => u = v /\ H₁ = H
  | _, _ => False :=
 h.runs.less fun e H₁ he => by obtain ⟨rfl, hl⟩ := he; exact ⟨H, hl, rfl, rfl⟩
end Go.Proofs.YtnfnaehonkbknaaGreatDoor
end
section
namespace Go.X
open Go
open Go.Conc (G base)
def both (K : Act -> Hp -> Prop) (E : List PanicEntry -> Act -> Hp -> Prop) : Exit -> Act -> Hp -> Prop
 | .normal, a, H => K a H
 | .panic ch, a, H => E ch a H
 | _, _, _ => False
section
variable {P : Program} {main : Md} {lp : Option Nat} {Q : Exit -> Act -> Hp -> Prop} {a : Act} {H : Hp}
theorem Cju {K : Act -> Hp -> Prop} {E : List PanicEntry -> Act -> Hp -> Prop} : both K E .normal a H = K a H := rfl
theorem Cjv {K : Act -> Hp -> Prop} {E : List PanicEntry -> Act -> Hp -> Prop} {ch : List PanicEntry} : both K E (.panic ch) a H = E ch a H := rfl
theorem Cq1 {ops : Array Oper} {K : Act -> Hp -> Prop} {E : List PanicEntry -> Act -> Hp -> Prop} (hE : ∀ c a H, E c a H -> Q (.panic c) a H) (hK : ∀ a H, K a H -> Q .normal a H) :
  ∀ {todo : List Nat} {a : Act} {H : Hp}, runX P main lp ops (both K E) todo a H -> runX P main lp ops Q todo a H
 | [], _, _, h => hK _ _ h
 | _ :: _, _, _, h => Bxv (fun c a H h => hE c a H h) (fun _ _ h => Cq1 hE hK h) h
theorem Bzf {id : Nat} {ops : List Oper} {ds : List (Option Tmp)} (hds : ops.map (·.dst) = ds)
  (h : ∀ (K : Act -> Hp -> Prop) (E : List PanicEntry -> Act -> Hp -> Prop), (∀ a' H', Q .normal a' H' -> K a' H') -> (∀ ch a' H', Q (.panic ch) a' H' -> E ch a' H') -> runL P main lp ds (both K E) ops a H) :
  wpX P main lp (.region id ops.toArray false) Q a H :=
 Bkt (Cq1 (fun _ _ _ h => h) (fun _ _ h => h) (Bkj hds (h _ _ (fun _ _ h => h) fun _ _ _ h => h)))
section
variable {ρ : Operand -> Value} {d : Option Tmp} {ty : TypeId} {pos : String} {af : Array Edge} {g : Option (Nat × Bool)} {K : Next -> Hp -> Prop} {E : Value -> Hp -> Prop}
theorem Bj7 (x : Operand) : wpS P (execOp ρ ⟨d, .panic x, ty, pos, af, g⟩) H K E = wpS P (Instr.panic (ρ x)) H (fun v H' => K (.value v) H') E := Aqa _ _ _ _
end
theorem Aws {t : TypeId} {v : Value} {K : Value -> Hp -> Prop} {E : Value -> Hp -> Prop} : wpS P (Instr.panic (.iface t v)) H K E = E (.iface t v) H := rfl
end
end Go.X
end
section
namespace Go.Proofs.YtnfnaehonkbknaaGreatDoor
open Go Go.X
def nxt (ts : List Int) (k : Nat) (p : Int) : Nat := k + (ts.drop k).findIdx (· == p)
def Dqj (ts : List Int) (k : Nat) : List Int := (List.range 6).map fun p : Nat => (nxt ts k (p : Int) : Int)
end Go.Proofs.YtnfnaehonkbknaaGreatDoor
end
section
namespace Go.X
open Go
theorem Bqq {ops : List Oper} {tmps : Array Value} {j : Nat} : yielded ops.toArray tmps j = ylK (((ops[j]?).bind (·.dst)).bind (tmps[·]?)) := by
 unfold yielded ylK
 simp only [List.getElem?_toArray]
 rfl
end Go.X
namespace Go.Proofs.YtnfnaehonkbknaaGreatDoor
open Go Go.X
structure RS where
 m : Nat
 came : List Int
 asked : List Int
 later : List Int
 cl : List Int
 f : Nat
def Dkv (rk : Int -> Int) (l : List Int) : Int := l.foldl (fun c q => if c < 0 ∨ rk q < rk c then q else c) (-1)
def Dj6 (pl : Int) (m : Nat) (t : Int) : Bool := !m.testBit t.toNat && decide (pl <= Djx m)
def Dj0 (pl r : Int) (ts : List Int) (i : Nat) (t : Int) (s : RS) : Int :=
 if Dj6 pl s.m t then Dkv (Dkw r s.came s.asked (if r = 3 then Dqj ts (i + 1) else s.later)) (Byt s.m) else -1
def rstep (pl r : Int) (ts : List Int) (i : Nat) (t : Int) (s : RS) : RS :=
 {m := Dku s.m (Dj0 pl r ts i t s) t
  came := if s.m.testBit t.toNat then s.came else s.came.set t.toNat i
  asked := s.asked.set t.toNat i
  later := if r = 3 /\ Dj6 pl s.m t then Dqj ts (i + 1) else s.later
  cl := s.cl.set i (Dj0 pl r ts i t s)
  f := s.f + if s.m.testBit t.toNat then 0 else 1 }
end Go.Proofs.YtnfnaehonkbknaaGreatDoor
end
section
namespace Go.X
open Go
section
variable {P : Program} {H : Hp} {κ : Type} [DecidableEq κ] {enc : κ -> Value} {ks : TypeId}
structure KeyT (P : Program) (ks : TypeId) (enc : κ -> Value) : Prop where
 eq : ∀ (a b : κ) (H : Hp) (K : Bool -> Hp -> Prop) (E : Value -> Hp -> Prop), wpS P (Op.equal ks (enc a) (enc b)) H K E = K (decide (a = b)) H
 ck : ∀ (em : Bool) (a : κ) (H : Hp) (K : Unit -> Hp -> Prop) (E : Value -> Hp -> Prop), wpS P (Instr.checkKey em 10000 ks (enc a)) H K E = K () H
 un : ∃ d, P.underlying ks = some d /\ ∀ a b, Instr.sameNow d (enc a) (enc b) = none
 bits : ∀ a, Instr.sameBits 10000 (enc a) (enc a) = true
def MapG (enc : κ -> Value) (ok : κ -> Prop) (F : κ -> Value) (clock : Nat) (es : List MapEntry) : Prop := ∀ e ∈ es, ∃ k, ok k /\ e.key = enc k /\ e.val = F k /\ e.born < clock
theorem Bxj (h : KeyT P ks enc) {ok : κ -> Prop} {F : κ -> Value} {clock : Nat} (a : κ) (H : Hp) :
  ∀ (es : List MapEntry) (i : Nat), MapG enc ok F clock es -> ∃ r : Option (Nat × Value), (∀ j v, r = some (j, v) -> i <= j /\ v = F a /\ ∃ e, es[j - i]? = some e /\ e.key = enc a) /\
   ∀ (K : Option (Nat × Value) -> Hp -> Prop) (E : Value -> Hp -> Prop), K r H -> wpS P (Instr.findAsking ks (enc a) es i) H K E
 | [], i, _ => ⟨none, fun j v h => (by cases h), fun K E hk => hk⟩
 | e :: es, i, hm => by
  obtain ⟨c, _, hke, hve, _⟩ := hm e List.mem_cons_self
  unfold Instr.findAsking
  by_cases hq : a = c
  ·subst hq
   refine ⟨some (i, e.val), fun j v hj => ?_, fun K E hK => ?_⟩
   ·cases hj
    exact ⟨Nat.le_refl _, hve, e, by simp, hke⟩
   ·rw [Aqa, hke, h.eq]
    simp only [decide_true, if_true, Aqd]
    exact hK
  ·obtain ⟨r, hr, hk⟩ := Bxj h a H es (i + 1) (fun e he => hm e (List.mem_cons_of_mem _ he))
   refine ⟨r, fun j v hj => ?_, fun K E hK => ?_⟩
   ·obtain ⟨h1, h2, e', h3, h4⟩ := hr j v hj
    refine ⟨by omega, h2, e', ?_, h4⟩
    rw [show j - i = (j - (i + 1)) + 1 by omega, List.getElem?_cons_succ]
    exact h3
   ·rw [Aqa, hke, h.eq]
    simp only [hq, decide_false, Bool.false_eq_true, if_false]
    exact hk K E hK
theorem Cyc (h : KeyT P ks enc) {ok : κ -> Prop} {F : κ -> Value} {clock : Nat} (a : κ) (H : Hp)
  (es : List MapEntry) (hm : MapG enc ok F clock es) : ∃ r : Option (Nat × Value), (∀ j v, r = some (j, v) -> v = F a /\ ∃ e, es[j]? = some e /\ e.key = enc a) /\
   ∀ (K : Option (Nat × Value) -> Hp -> Prop) (E : Value -> Hp -> Prop), K r H -> wpS P (Instr.findKey ks (enc a) es) H K E := by
 obtain ⟨d, hu, hd⟩ := h.un
 cases es with
 | nil =>
  refine ⟨none, fun j v h => (by cases h), fun K E hK => ?_⟩
  unfold Instr.findKey
  rw [Aqa, Aqh hu]
  exact hK
 | cons e es =>
  obtain ⟨c, _, hke, hve, _⟩ := hm e List.mem_cons_self
  obtain ⟨r, hr, hk⟩ := Bxj h a H (e :: es) 0 hm
  refine ⟨r, fun j v hj => ?_, fun K E hK => ?_⟩
  ·obtain ⟨_, h2, e', h3, h4⟩ := hr j v hj
   exact ⟨h2, e', by simpa using h3, h4⟩
  ·unfold Instr.findKey
   rw [Aqa, Aqh hu]
   simp only [Instr.findNow, hke, hd]
   exact hk K E hK
theorem Dzy {mt vt : TypeId} (hu : P.underlying mt = some (.map ks vt)) (h : KeyT P ks enc) {ok : κ -> Prop} {F : κ -> Value} (a : κ) (hok : ok a)
  {mb : Nat} {es : Array MapEntry} {clock : Nat} (hb : H mb = some (true, .map es clock)) (hm : MapG enc ok F clock es.toList) (K : Unit -> Hp -> Prop) (E : Value -> Hp -> Prop)
  (hk : ∀ es' clock', MapG enc ok F clock' es'.toList -> K () (H.set mb (.map es' clock'))) : wpS P (Instr.mapUpdate mt (.map (some mb)) (enc a) (F a)) H K E := by
 unfold Instr.mapUpdate
 simp only [Aqa, Aqh hu]
 refine ⟨true, _, hb, rfl, rfl, ?_⟩
 simp only [Akg, Aqd, Aqa, h.ck]
 obtain ⟨r, hr, hk'⟩ := Cyc h a H es.toList hm
 refine hk' _ _ ?_
 cases r with
 | none =>
  refine ⟨_, hb, rfl, rfl, hk _ _ fun e he => ?_⟩
  simp only [Array.toList_push, List.mem_append, List.mem_singleton] at he
  rcases he with he | rfl
  ·obtain ⟨k, h1, h2, h3, h4⟩ := hm e he
   exact ⟨k, h1, h2, h3, by omega⟩
  ·exact ⟨a, hok, rfl, rfl, Nat.lt_succ_self _⟩
 | some q =>
  obtain ⟨j, v⟩ := q
  obtain ⟨hv, e, he, hke⟩ := hr j v rfl
  have he' : es[j]? = some e := by simpa using he
  simp only [he', Option.map_some, Option.getD_some, hke, Instr.keyThatStays, h.bits, if_true, Aqd]
  refine ⟨_, hb, rfl, rfl, hk _ _ fun x hx => ?_⟩
  simp only [Array.toList_modify] at hx
  obtain ⟨i, hi, rfl⟩ := List.getElem_of_mem hx
  rw [List.getElem_modify]
  split
  ·obtain ⟨k, h1, h2, h3, h4⟩ := hm _ (List.getElem_mem (l := es.toList) (n := i) (by simpa using hi))
   exact ⟨a, hok, rfl, rfl, h4⟩
  ·exact hm _ (List.getElem_mem _)
end
section ex
variable {P : Program} {H : Hp} (ρ : Operand -> Value) (d : Option Tmp) (ty : TypeId) (pos : String) (af : Array Edge) (g : Option (Nat × Bool)) (K : Next -> Hp -> Prop) (E : Value -> Hp -> Prop)
end ex
section
variable {P : Program} {ks : TypeId}
def K5 : Type := { l : List Int // l.length = 5 }
instance : DecidableEq K5 := fun a b => decidable_of_iff (a.1 = b.1) ⟨Subtype.ext, fun h => congrArg _ h⟩
end
end Go.X
end
section
namespace Go.X
open Go
end Go.X
namespace Go.Proofs.YtnfnaehonkbknaaGreatDoor
open Go Go.X
theorem Ayj {l vs : List Value} (h : vs.length = l.length) : over l.toArray 0 vs = vs.toArray := by
 rw [Bxw _ _ _ (by omega), List.take_zero, List.nil_append, List.drop_of_length_le (by omega), List.append_nil]
def rowB : Value -> Option Nat
 | .slice (some a) _ _ => some a.block
 | _ => none
end Go.Proofs.YtnfnaehonkbknaaGreatDoor
end
section
namespace Go.X
open Go
inductive PT where
 | nil
 | take (i : Nat) (p : PT)
 | one (i : Nat) (p : PT)
 | two (i : Nat) (p : PT) (j : Nat) (q : PT)
section
variable {P : Program} {main : Md} {lp : Option Nat} {Q : Exit -> Act -> Hp -> Prop} {ops : Array Oper} {S : Hp -> Prop}
def Czz (P : Program) (main : Md) (lp : Option Nat) (ops : Array Oper) (Q : Exit -> Act -> Hp -> Prop) (S : Hp -> Prop) : PT -> Act -> Hp -> Prop
 | .nil, a, H => Q .normal a H
 | .take i p, a, H => S H /\ ∃ o, ops[i]? = some o /\ ∃ v, Ax4 P main lp ops S o v a /\ Czz P main lp ops Q S p (a.put o.dst v) H
 | .one i p, a, H => numX P main lp ops i Q (fun a' H' => S H' /\ Czz P main lp ops Q S p a' H') a H
 | .two i p j q, a, H => numX P main lp ops i Q (fun a' H' => S H' /\ Czz P main lp ops Q S p a' H') a H /\ numX P main lp ops j Q (fun a' H' => S H' /\ Czz P main lp ops Q S q a' H') a H
@[congr] theorem planT_congr {S : Hp -> Prop} {ops : Array Oper} {p : PT} {a a' : Act} {H H' : Hp} (ha : a = a') (hH : H = H') : Czz P main lp ops Q S p a H = Czz P main lp ops Q S p a' H' := by subst ha hH; rfl
end
end Go.X
end
section
namespace Go.X
open Go
section
variable {P : Program} {main : Md} {lp : Option Nat} {Q : Exit -> Act -> Hp -> Prop} {ops : Array Oper} {S : Hp -> Prop}
def waitsFor (ops : Array Oper) (t : Nat) : Array Bool := marked ops (List.range ops.size).reverse ((Array.replicate ops.size false).setIfInBounds t true)
theorem Bqo {t x : Nat} (h : (waitsFor ops t).getD x false = true) : x = t ∨ Dep ops t x := by
 refine Akz _ _ (fun y hy => ?_) x h
 by_cases hyt : t = y
 ·exact .inl hyt.symm
 ·rw [getD_set_ne false hyt] at hy
  by_cases hlt : y < ops.size <;> simp [Array.getD, hlt] at hy
def Cz0 (P : Program) (main : Md) (lp : Option Nat) (ops : Array Oper) (Q : Exit -> Act -> Hp -> Prop) (S : Hp -> Prop) (ts : List Nat) : PT -> Act -> Hp -> Prop
 | .nil, a, H => Q .normal a H
 | .take i p, a, H => S H /\ ∃ o, ops[i]? = some o /\ ∃ v, Ax4 P main lp ops S o v a /\ Cz0 P main lp ops Q S ts p (a.put o.dst v) H
 | .one i p, a, H => numX P main lp ops i Q (fun a' H' => (i ∈ ts ∨ S H') /\ Cz0 P main lp ops Q S ts p a' H') a H
 | .two i p j q, a, H => numX P main lp ops i Q (fun a' H' => (i ∈ ts ∨ S H') /\ Cz0 P main lp ops Q S ts p a' H') a H /\ numX P main lp ops j Q (fun a' H' => (j ∈ ts ∨ S H') /\ Cz0 P main lp ops Q S ts q a' H') a H
@[congr] theorem planU_congr {S : Hp -> Prop} {ts : List Nat} {ops : Array Oper} {p : PT} {a a' : Act} {H H' : Hp} (ha : a = a') (hH : H = H') : Cz0 P main lp ops Q S ts p a H = Cz0 P main lp ops Q S ts p a' H' := by subst ha hH; rfl
end
end Go.X
end
section
namespace Go.X
open Go
section
variable {P : Program} {main : Md} {lp : Option Nat} {Q : Exit -> Act -> Hp -> Prop} {ops : Array Oper} {S : Hp -> Prop}
def anyV (P : Program) (main : Md) (lp : Option Nat) (ops : Array Oper) (Q : Exit -> Act -> Hp -> Prop) (S : Hp -> Prop) (ts : List Nat) : Nat -> Array Bool -> Act -> Hp -> Prop
 | 0, listed, a, H => Region.ready .any ops listed = [] /\ Q .normal a H
 | fuel + 1, listed, a, H =>
  (Region.ready .any ops listed = [] -> Q .normal a H) /\
  ∀ i ∈ Region.ready .any ops listed, numX P main lp ops i Q (fun a' H' => (i ∈ ts ∨ (S H -> S H')) /\ anyV P main lp ops Q S ts fuel (listed.setIfInBounds i true) a' H') a H
theorem Avn {ts : List Nat} : ∀ (fuel : Nat) (listed : Array Bool) (a : Act) (H : Hp), anyV P main lp ops Q S ts fuel listed a H -> anyX P main lp ops Q (fun _ => True) fuel listed a H
 | 0, _, _, _, h => h
 | fuel + 1, _, _, _, h => ⟨h.1, fun i hi => Axq (fun a' H' h' => ⟨trivial, Avn fuel _ a' H' h'.2⟩) (h.2 i hi)⟩
theorem Bzu {ts : List Nat} {i : Nat} {oi : Oper} {v : Value} (hi : ops[i]? = some oi) (hsel : ∀ (j : Nat) (o : Oper) cs b, ops[j]? = some o -> o.op ≠ .select cs b)
  (hdep : ∀ t ∈ ts, t < ops.size -> Dep ops t i)
  (hQ : ∀ c a H, Q (.panic c) (a.put oi.dst v) H -> Q (.panic c) a H) :
  ∀ (fuel : Nat) (listed : Array Bool) (a : Act) (H : Hp), Closed ops listed ->
   (∀ j oj, ops[j]? = some oj -> j ≠ i -> listed.getD j true = false -> (∀ e ∈ oj.after, Region.binds .any e = true -> e.on ≠ i) -> oi.apart ops oj = true) ->
   i ∈ Region.ready .any ops listed -> Ax4 P main lp ops S oi v a -> S H ->
   anyV P main lp ops Q S ts fuel (listed.setIfInBounds i true) (a.put oi.dst v) H -> anyV P main lp ops Q S ts (fuel + 1) listed a H := by
 intro fuel
 induction fuel with
 | zero =>
  intro listed a H _ _ hr hy hS h
  refine ⟨fun h0 => (by rw [h0] at hr; cases hr), fun j hj => ?_⟩
  by_cases hji : j = i
  ·subst hji; exact hy.num hi hS ⟨.inr id, h⟩
  ·have := ready_mono hj hji
   rw [h.1] at this
   cases this
 | succ fuel ih =>
  intro listed a H hcl hfree hr hy hS h
  refine ⟨fun h0 => (by rw [h0] at hr; cases hr), fun j hj => ?_⟩
  by_cases hji : j = i
  ·subst hji; exact hy.num hi hS ⟨.inr id, h⟩
  ·have h1 := h.2 j (ready_mono hj hji)
   obtain ⟨hjun, oj, hoj, hall⟩ := mem_ready.1 hj
   have hiun : listed.getD i false = false := by
    have h0 := (mem_ready.1 hr).1
    rcases Nat.lt_or_ge i listed.size with h' | h'
    ·simpa [h'] using h0
    ·simp [Array.getElem?_eq_none h']
   have hjt : j ∉ ts := fun e => by
    have := (hdep j e (Array.getElem?_eq_some_iff.1 hoj).1).listed hcl hj
    rw [hiun] at this; cases this
   have hnot : ∀ e ∈ oj.after, Region.binds .any e = true -> e.on ≠ i := fun e he hb heq => by
    have h1 := hall e he hb
    rw [heq, hiun] at h1
    cases h1
   have h2 := Bkb hoj (hfree j oj hoj hji hjun hnot) (fun cs b => hsel i oi cs b hi) (fun cs b => hsel j oj cs b hoj) hQ hy h1
   have hfree' : ∀ k ok, ops[k]? = some ok -> k ≠ i -> (listed.setIfInBounds j true).getD k true = false ->
     (∀ e ∈ ok.after, Region.binds .any e = true -> e.on ≠ i) -> oi.apart ops ok = true := fun k ok hk hki hun hno => by
    refine hfree k ok hk hki ?_ hno
    by_cases hjk : j = k
    ·subst hjk; exact hjun
    ·rw [getD_set_ne true hjk] at hun; exact hun
   refine Axq (fun a' H' h3 => ?_) h2
   obtain ⟨hy', hd, h4⟩ := h3
   have hS' : S H' := hd.resolve_left hjt hS
   exact ⟨.inr fun _ => hS', ih (listed.setIfInBounds j true) a' H' (hcl.set hj) hfree' (ready_mono hr (Ne.symm hji)) hy' hS' (by rw [Array.setIfInBounds_comm _ _ hji]; exact h4)⟩
theorem Bk4 {ts : List Nat} {i : Nat} {oi : Oper} {v : Value} (hi : ops[i]? = some oi) (hsel : ∀ (j : Nat) (o : Oper) cs b, ops[j]? = some o -> o.op ≠ .select cs b)
  (hQ : ∀ c a H, Q (.panic c) (a.put oi.dst v) H -> Q (.panic c) a H) :
  ∀ (fuel : Nat) (listed : Array Bool) (a : Act) (H : Hp), Closed ops listed ->
   (∀ j oj, ops[j]? = some oj -> j ≠ i -> listed.getD j true = false -> (∀ e ∈ oj.after, Region.binds .any e = true -> e.on ≠ i) -> oi.apart ops oj = true) ->
   i ∈ Region.ready .any ops listed -> Ax4 P main lp ops (fun _ => True) oi v a ->
   anyV P main lp ops Q S ts fuel (listed.setIfInBounds i true) (a.put oi.dst v) H -> anyV P main lp ops Q S ts (fuel + 1) listed a H := by
 intro fuel
 induction fuel with
 | zero =>
  intro listed a H _ _ hr hy h
  refine ⟨fun h0 => (by rw [h0] at hr; cases hr), fun j hj => ?_⟩
  by_cases hji : j = i
  ·subst hji; exact hy.num hi trivial ⟨.inr id, h⟩
  ·have := ready_mono hj hji
   rw [h.1] at this
   cases this
 | succ fuel ih =>
  intro listed a H hcl hfree hr hy h
  refine ⟨fun h0 => (by rw [h0] at hr; cases hr), fun j hj => ?_⟩
  by_cases hji : j = i
  ·subst hji; exact hy.num hi trivial ⟨.inr id, h⟩
  ·have h1 := h.2 j (ready_mono hj hji)
   obtain ⟨hjun, oj, hoj, hall⟩ := mem_ready.1 hj
   have hiun : listed.getD i false = false := by
    have h0 := (mem_ready.1 hr).1
    rcases Nat.lt_or_ge i listed.size with h' | h'
    ·simpa [h'] using h0
    ·simp [Array.getElem?_eq_none h']
   have hnot : ∀ e ∈ oj.after, Region.binds .any e = true -> e.on ≠ i := fun e he hb heq => by
    have h1 := hall e he hb
    rw [heq, hiun] at h1
    cases h1
   have h2 := Bkb hoj (hfree j oj hoj hji hjun hnot) (fun cs b => hsel i oi cs b hi) (fun cs b => hsel j oj cs b hoj) hQ hy h1
   have hfree' : ∀ k ok, ops[k]? = some ok -> k ≠ i -> (listed.setIfInBounds j true).getD k true = false ->
     (∀ e ∈ ok.after, Region.binds .any e = true -> e.on ≠ i) -> oi.apart ops ok = true := fun k ok hk hki hun hno => by
    refine hfree k ok hk hki ?_ hno
    by_cases hjk : j = k
    ·subst hjk; exact hjun
    ·rw [getD_set_ne true hjk] at hun; exact hun
   refine Axq (fun a' H' h3 => ?_) h2
   obtain ⟨hy', hd, h4⟩ := h3
   exact ⟨hd, ih (listed.setIfInBounds j true) a' H' (hcl.set hj) hfree' (ready_mono hr (Ne.symm hji)) hy' (by rw [Array.setIfInBounds_comm _ _ hji]; exact h4)⟩
inductive PV where
 | nil
 | take (i : Nat) (p : PV)
 | free (i : Nat) (p : PV)
 | one (i : Nat) (p : PV)
 | two (i : Nat) (p : PV) (j : Nat) (q : PV)
def PV.depth : PV -> Nat
 | .nil => 0
 | .take _ p => p.depth + 1
 | .free _ p => p.depth + 1
 | .one _ p => p.depth + 1
 | .two _ p _ q => max p.depth q.depth + 1
def Azd (P : Program) (main : Md) (lp : Option Nat) (ops : Array Oper) (Q : Exit -> Act -> Hp -> Prop) (S : Hp -> Prop) (ts : List Nat) : PV -> Act -> Hp -> Prop
 | .nil, a, H => Q .normal a H
 | .take i p, a, H => S H /\ ∃ o, ops[i]? = some o /\ ∃ v, Ax4 P main lp ops S o v a /\ Azd P main lp ops Q S ts p (a.put o.dst v) H
 | .free i p, a, H => ∃ o, ops[i]? = some o /\ ∃ v, Ax4 P main lp ops (fun _ => True) o v a /\ Azd P main lp ops Q S ts p (a.put o.dst v) H
 | .one i p, a, H => numX P main lp ops i Q (fun a' H' => (i ∈ ts ∨ (S H -> S H')) /\ Azd P main lp ops Q S ts p a' H') a H
 | .two i p j q, a, H => numX P main lp ops i Q (fun a' H' => (i ∈ ts ∨ (S H -> S H')) /\ Azd P main lp ops Q S ts p a' H') a H /\ numX P main lp ops j Q (fun a' H' => (j ∈ ts ∨ (S H -> S H')) /\ Azd P main lp ops Q S ts q a' H') a H
def Ajb (ops : Array Oper) (ts : List Nat) : PV -> Array Bool -> Bool
 | .nil, listed => (Region.ready .any ops listed).isEmpty
 | .take i p, listed => (ts.all fun t => i != t && (waitsFor ops t).getD i false) && Region.free .any ops listed i && (Region.ready .any ops listed).contains i && Ajb ops ts p (listed.setIfInBounds i true)
 | .free i p, listed => Region.free .any ops listed i && (Region.ready .any ops listed).contains i && Ajb ops ts p (listed.setIfInBounds i true)
 | .one i p, listed => (Region.ready .any ops listed == [i]) && Ajb ops ts p (listed.setIfInBounds i true)
 | .two i p j q, listed => (Region.ready .any ops listed == [i, j]) && Ajb ops ts p (listed.setIfInBounds i true) && Ajb ops ts q (listed.setIfInBounds j true)
theorem Ajj {ts : List Nat} (hsel : Region.noSelect ops = true) (hQ : ∀ c a H d v, Q (.panic c) (a.put d v) H -> Q (.panic c) a H) :
  ∀ (plan : PV) (fuel : Nat) (listed : Array Bool) (a : Act) (H : Hp), plan.depth <= fuel -> Closed ops listed -> Ajb ops ts plan listed = true ->
   Azd P main lp ops Q S ts plan a H -> anyV P main lp ops Q S ts fuel listed a H
 | .nil, fuel, listed, a, H, _, _, hok, h => by
  have hr : Region.ready .any ops listed = [] := by simpa [Ajb] using hok
  cases fuel with
  | zero => exact ⟨hr, h⟩
  | succ n => exact ⟨fun _ => h, by rw [hr]; simp⟩
 | .take i p, 0, _, _, _, hl, _, _, _ => by simp [PV.depth] at hl
 | .free i p, 0, _, _, _, hl, _, _, _ => by simp [PV.depth] at hl
 | .free i p, fuel + 1, listed, a, H, hl, hcl, hok, h => by
  simp only [Ajb, Bool.and_eq_true] at hok
  obtain ⟨⟨hf, hr⟩, hok⟩ := hok
  obtain ⟨o, ho, v, hy, h⟩ := h
  have hr' : i ∈ Region.ready .any ops listed := by simpa using hr
  exact Bk4 ho (Region.noSelect_spec hsel) (fun c a H => hQ c a H _ _) fuel listed a H hcl (Region.free_spec ho hf) hr' hy
   (Ajj hsel hQ p fuel _ _ _ (by simp [PV.depth] at hl; omega) (hcl.set hr') hok h)
 | .one i p, 0, _, _, _, hl, _, _, _ => by simp [PV.depth] at hl
 | .two i p j q, 0, _, _, _, hl, _, _, _ => by simp [PV.depth] at hl
 | .take i p, fuel + 1, listed, a, H, hl, hcl, hok, h => by
  simp only [Ajb, Bool.and_eq_true] at hok
  obtain ⟨⟨⟨hd, hf⟩, hr⟩, hok⟩ := hok
  obtain ⟨hS, o, ho, v, hy, h⟩ := h
  have hr' : i ∈ Region.ready .any ops listed := by simpa using hr
  refine Bzu ho (Region.noSelect_spec hsel) (fun t ht hlt => ?_) (fun c a H => hQ c a H _ _) fuel listed a H hcl (Region.free_spec ho hf) hr' hy hS
   (Ajj hsel hQ p fuel _ _ _ (by simp [PV.depth] at hl; omega) (hcl.set hr') hok h)
  have := List.all_eq_true.1 hd t ht
  simp only [Bool.and_eq_true, bne_iff_ne, ne_eq] at this
  exact (Bqo this.2).resolve_left this.1
 | .one i p, fuel + 1, listed, a, H, hl, hcl, hok, h => by
  simp only [Ajb, Bool.and_eq_true, beq_iff_eq] at hok
  obtain ⟨hr, hok⟩ := hok
  refine ⟨fun h0 => (by rw [hr] at h0; cases h0), fun j hj => ?_⟩
  have hji : j = i := by rw [hr] at hj; simpa using hj
  subst hji
  exact Axq (fun a' H' h' => ⟨h'.1, Ajj hsel hQ p fuel _ _ _ (by simp [PV.depth] at hl; omega) (hcl.set hj) hok h'.2⟩) h
 | .two i p j q, fuel + 1, listed, a, H, hl, hcl, hok, h => by
  simp only [Ajb, Bool.and_eq_true, beq_iff_eq] at hok
  obtain ⟨⟨hr, hok1⟩, hok2⟩ := hok
  refine ⟨fun h0 => (by rw [hr] at h0; cases h0), fun k hk => ?_⟩
  have hkk : k = i ∨ k = j := by rw [hr] at hk; simpa using hk
  rcases hkk with rfl | rfl
  ·exact Axq (fun a' H' h' => ⟨h'.1, Ajj hsel hQ p fuel _ _ _ (by simp [PV.depth] at hl; omega) (hcl.set hk) hok1 h'.2⟩) h.1
  ·exact Axq (fun a' H' h' => ⟨h'.1, Ajj hsel hQ q fuel _ _ _ (by simp [PV.depth] at hl; omega) (hcl.set hk) hok2 h'.2⟩) h.2
theorem Bwj {id : Nat} {a : Act} {H : Hp} (S : Hp -> Prop) (ts : List Nat) (plan : PV) (hm : P.follows .mixedOrders = true) (hsel : Region.noSelect ops = true) (hlen : plan.depth <= ops.size)
  (hok : Ajb ops ts plan (Array.replicate ops.size false) = true)
  (hQ : ∀ c a H d v, Q (.panic c) (a.put d v) H -> Q (.panic c) a H) (h : Azd P main lp ops Q S ts plan a H) : wpX P main lp (.region id ops true) Q a H :=
 Bkq (fun _ => True) hm (Avn _ _ _ _ (Ajj hsel hQ plan _ _ _ _ hlen .start hok h))
theorem Azl {id : Nat} {ops : Array Oper} {a : Act} {H : Hp} (S : Hp -> Prop) (ts : List Nat) (plan : PV) (hm : P.follows .mixedOrders = true) (hsel : Region.noSelect ops = true) (hlen : plan.depth <= ops.size)
  (hok : Ajb ops ts plan (Array.replicate ops.size false) = true)
  (h : ∀ K : Act -> Hp -> Prop, (∀ a' H', Q .normal a' H' -> K a' H') -> Azd P main lp ops (only K) S ts plan a H) :
  wpX P main lp (.region id ops true) Q a H := by
 refine Az1 (Q := only fun a' H' => Q .normal a' H') (Bwj S ts plan hm hsel hlen hok (fun c a H d v h => h) (h _ fun _ _ h => h)) fun e a H q => ?_
 cases e <;> first | exact q | exact q.elim
theorem Bwn {id : Nat} {ops : Array Oper} {y : Code} {a : Act} {H : Hp} (S : Hp -> Prop) (ts : List Nat) (plan : PV) (hm : P.follows .mixedOrders = true) (hsel : Region.noSelect ops = true) (hlen : plan.depth <= ops.size)
  (hok : Ajb ops ts plan (Array.replicate ops.size false) = true)
  (h : ∀ K : Act -> Hp -> Prop, (∀ a' H', wpX P main lp y Q a' H' -> K a' H') -> Azd P main lp ops (only K) S ts plan a H) :
  wpX P main lp (.seq (.region id ops true) y) Q a H := by
 refine Axy ?_
 refine Az1 (Q := only fun a' H' => wpX P main lp y Q a' H') (Bwj S ts plan hm hsel hlen hok (fun c a H d v h => h) (h _ fun _ _ h => h)) fun e a H q => ?_
 cases e <;> first | exact q | exact q.elim
theorem Aq5 {S : Hp -> Prop} {ts : List Nat} {a : Act} {H : Hp} {i : Nat} {ops : List Oper} {o : Oper} {p : PV} {v : Value} (ho : ops[i]? = some o) (hw : Region.wanted o (yielded ops.toArray a.tmps) = true) (hf : fine lp o = true)
  (hS : S H) (h : ∀ H', S H' -> wpS P (execOp a.eval o) H' (YN P main v H') fun _ _ => False) (hk : Azd P main lp ops.toArray Q S ts p (a.put o.dst v) H) : Azd P main lp ops.toArray Q S ts (.take i p) a H :=
 ⟨hS, o, by simpa using ho, v, .inl ⟨hw, hf, h⟩, hk⟩
theorem Aqt {S : Hp -> Prop} {ts : List Nat} {a : Act} {H : Hp} {i : Nat} {ops : Array Oper} {p : PV} (h : numX P main lp ops i Q (fun a' H' => (i ∈ ts ∨ (S H -> S H')) /\ Azd P main lp ops Q S ts p a' H') a H) : Azd P main lp ops Q S ts (.one i p) a H := h
theorem Axk {S : Hp -> Prop} {ts : List Nat} {a : Act} {H : Hp} {ops : Array Oper} (h : Q .normal a H) : Azd P main lp ops Q S ts .nil a H := h
@[congr] theorem planV_congr {S : Hp -> Prop} {ts : List Nat} {ops : Array Oper} {p : PV} {a a' : Act} {H H' : Hp} (ha : a = a') (hH : H = H') : Azd P main lp ops Q S ts p a H = Azd P main lp ops Q S ts p a' H' := by subst ha hH; rfl
theorem Ayz {S : Hp -> Prop} {ts : List Nat} {a : Act} {H : Hp} {i : Nat} {ops : List Oper} {o : Oper} {p : PV} {v : Value} (ho : ops[i]? = some o) (hw : Region.wanted o (yielded ops.toArray a.tmps) = true) (hf : fine lp o = true)
  (h : ∀ H' : Hp, wpS P (execOp a.eval o) H' (YN P main v H') fun _ _ => False) (hk : Azd P main lp ops.toArray Q S ts p (a.put o.dst v) H) : Azd P main lp ops.toArray Q S ts (.free i p) a H :=
 ⟨o, by simpa using ho, v, .inl ⟨hw, hf, fun H' _ => h H'⟩, hk⟩
theorem Ak1 {S : Hp -> Prop} {ts : List Nat} {a : Act} {H : Hp} {i j : Nat} {ops : Array Oper} {p q : PV} (h : numX P main lp ops i Q (fun a' H' => (i ∈ ts ∨ (S H -> S H')) /\ Azd P main lp ops Q S ts p a' H') a H)
 (h' : numX P main lp ops j Q (fun a' H' => (j ∈ ts ∨ (S H -> S H')) /\ Azd P main lp ops Q S ts q a' H') a H) : Azd P main lp ops Q S ts (.two i p j q) a H := ⟨h, h'⟩
end
end Go.X
end
section
namespace Go.X
open Go
section
variable {P : Program} {H : Hp}
theorem buildSlice_agg1 {t e : TypeId} {sz : Nat} {z : Value} (hu : P.underlying t = some (.slice e)) (hs : ∀ w, (sizeOf e).run P w = .ok sz w) (hz : ∀ w, (zeroValue e).run P w = .ok z w) (hzc : z.cells.size = sz) (h0 : 0 < sz) (h1 : sz <= 1000)
    (vs : List Value) (hvs : vs.length = sz) (K : Value -> Hp -> Prop) (E : Value -> Hp -> Prop) :
    wpS P (Instr.buildSlice t 1 #[(0, .agg vs.toArray)]) H K E = ∀ b, H b = none -> K (.slice (some ⟨b, 0, none⟩) 1 1) (H.set b (.cells vs.toArray e (0, 0))) := by
  unfold Instr.buildSlice
  have hn1 : ¬ 1 * sz > 2 ^ 24 := by have : (2 : Nat) ^ 24 = 16777216 := by decide
                                     omega
  have hn2 : ¬ 1 * sz = 0 := by omega
  simp only [Aqa, Aqh hu, Aqw hs, hn1, hn2, if_false, Aq8 hz, Aqd]
  have hf : Instr.fill (fun i => some (i * sz, sz)) ((Array.range (1 * sz)).map (z.cells[· % z.cells.size]!)) [(0, .agg vs.toArray)] = some vs.toArray := by
    unfold Instr.fill
    simp only [Nat.zero_mul, Bvc, List.size_toArray, hvs, Nat.zero_add, Array.size_map, Array.size_range, Nat.one_mul, ne_eq, not_true, gt_iff_lt, Nat.lt_irrefl, decide_false, Bool.or_self, Bool.false_eq_true, if_false]
    simp only [Instr.fill]
    congr 1
    rw [<- Array.foldl_toList, Array.toList_zipIdx]
    have hfo := Ayx 0 vs 0 ((Array.range sz).map (z.cells[· % z.cells.size]!)) (by simp [hvs])
    simp only [Nat.zero_add] at hfo
    rw [hfo]
    apply Array.ext_getElem?
    intro i
    by_cases hi : i < sz
    · rw [Ajn i (by simpa using hi), if_pos ⟨by omega, by omega⟩]
      simp [List.getD, List.getElem?_eq_getElem (show i < vs.length by omega)]
    · rw [Array.getElem?_eq_none (by rw [Azi]; simp; omega), Array.getElem?_eq_none (by simp; omega)]
  have hl : (#[(0, Value.agg vs.toArray)] : Array (Nat × Value)).toList = [(0, .agg vs.toArray)] := rfl
  simp only [hl, hf, newRow, newObj, Aqa, wpS, Aqd]
end
def RowZ (Lx : Hp -> Hp -> Prop) (H₀ H : Hp) (v : Value) (e : TypeId) (sz n : Nat) (cs : List Value) : Prop :=
 Lx H₀ H /\ ((v = .slice none 0 0 /\ n = 0 /\ cs = []) ∨
 ∃ (b : Nat) (c : Array Value) (cap : Nat), H₀ b = none /\ H b = some (true, .cells c e (0, 0)) /\ v = .slice (some ⟨b, 0, none⟩) n cap /\ c.size = cap * sz /\ n <= cap /\ cs.length = n * sz /\ ∀ (i : Nat) (u : Value), cs[i]? = some u -> c[i]? = some u)
end Go.X
namespace Go.Proofs.YtnfnaehonkbknaaGreatDoor
open Go Go.X
end Go.Proofs.YtnfnaehonkbknaaGreatDoor
end
