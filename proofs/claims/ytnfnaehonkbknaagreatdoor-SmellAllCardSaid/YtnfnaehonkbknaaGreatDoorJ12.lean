/- Texts Ops2 Meths Begin Slices Rank Both Look Run Keys Rows2 PlanT PlanU PlanV Structs Range. -/
import Derived.Test.YtnfnaehonkbknaaGreatDoorJ11
set_option linter.defProp false
set_option linter.unusedSimpArgs false
set_option linter.unusedVariables false
set_option maxRecDepth 100000
set_option maxHeartbeats 2000000
section
namespace Go.X
open Go
section
variable {P : Program} {main : Md} {lp : Option Nat} {Q : Exit -> Act -> Hp -> Prop} {a : Act} {H : Hp}
theorem Aqc {H H' : Hp} {b : Nat} {o : Obj} (h : H.set b o = H') (hb : H b = none) : H.le H' := h ▸ Hp.le_set hb
theorem Aqb {H H' : Hp} {b : Nat} {o : Obj} (h : H.set b o = H') : H' b = some (true, o) := by rw [<- h, Axo, if_pos rfl]
theorem Aqi {H H' : Hp} {b x : Nat} {o : Obj} {v : Bool × Obj} (h : H.set b o = H') (hx : H x = some v) (hn : x ≠ b) : H' x = some v := by rw [<- h, Axo, if_neg hn]; exact hx
theorem Aqq {H : Hp} {b x : Nat} {v : Bool × Obj} (hx : H x = some v) (hb : H b = none) : x ≠ b := fun e => by rw [e, hb] at hx; cases hx
theorem Cwc (op : BinOp) (t : TypeId) (x y : Operand) (p q : Option Addr) (n c n' c' : Nat) (K : Unit -> Hp -> Prop) (E : Value -> Hp -> Prop) : wpS P (eqGuard op t x y (.slice p n c) (.slice q n' c')) H K E = K () H := by
 unfold eqGuard; cases op <;> rfl
theorem eqG_bool (op : BinOp) (t : TypeId) (x y : Operand) (p q : Bool) (K : Unit -> Hp -> Prop) (E : Value -> Hp -> Prop) : wpS P (eqGuard op t x y (.bool p) (.bool q)) H K E = K () H := by
 unfold eqGuard; cases op <;> rfl
theorem Cwb (op : BinOp) (t : TypeId) (x y : Operand) (u : TypeId) (v : Value) (K : Unit -> Hp -> Prop) (E : Value -> Hp -> Prop) : wpS P (eqGuard op t x y (.iface u v) .nilIface) H K E = K () H := by
 unfold eqGuard; cases op <;> rfl
theorem Dko (op : BinOp) (t : TypeId) (x : Operand) (v : Value) (K : Unit -> Hp -> Prop) (E : Value -> Hp -> Prop) : wpS P (eqGuard op t x (.const v) .nilIface .nilIface) H K E = K () H := by
 unfold eqGuard; cases op <;> cases x <;> rfl
theorem Bve {t e : TypeId} (hu : P.underlying t = some (.slice e)) (p : Option Addr) (n c : Nat) (K : Value -> Hp -> Prop) (E : Value -> Hp -> Prop) : wpS P (binOp .eql t (.slice p n c) (.slice none 0 0)) H K E = K (.bool p.isNone) H := by
 simp only [binOp]
 rw [Aqa]
 unfold Op.equal Op.maxDepth
 rw [show (10000 : Nat) = 9999 + 1 from rfl]
 unfold Op.equalIn
 rw [Aqa, Aqj hu]
 cases p <;> rfl
theorem Cqe {t : TypeId} {ms : Array (String × TypeId)} (hu : P.underlying t = some (.interface ms)) (K : Value -> Hp -> Prop) (E : Value -> Hp -> Prop) : wpS P (binOp .eql t .nilIface .nilIface) H K E = K (.bool true) H := by
 simp only [binOp]
 rw [Aqa]
 unfold Op.equal Op.maxDepth
 rw [show (10000 : Nat) = 9999 + 1 from rfl]
 unfold Op.equalIn
 rw [Aqa, Aqj hu]
 rfl
theorem Bvd {t : TypeId} {ms : Array (String × TypeId)} (hu : P.underlying t = some (.interface ms)) (u : TypeId) (v : Value) (K : Value -> Hp -> Prop) (E : Value -> Hp -> Prop) : wpS P (binOp .eql t (.iface u v) .nilIface) H K E = K (.bool false) H := by
 simp only [binOp]
 rw [Aqa]
 unfold Op.equal Op.maxDepth
 rw [show (10000 : Nat) = 9999 + 1 from rfl]
 unfold Op.equalIn
 rw [Aqa, Aqj hu]
 rfl
theorem Cqf {t : TypeId} {ms : Array (String × TypeId)} (hu : P.underlying t = some (.interface ms)) (K : Value -> Hp -> Prop) (E : Value -> Hp -> Prop) : wpS P (binOp .neq t .nilIface .nilIface) H K E = K (.bool false) H := by
 simp only [binOp]
 rw [Aqa]
 unfold Op.equal Op.maxDepth
 rw [show (10000 : Nat) = 9999 + 1 from rfl]
 unfold Op.equalIn
 rw [Aqa, Aqj hu]
 rfl
theorem Bvf {t : TypeId} {ms : Array (String × TypeId)} (hu : P.underlying t = some (.interface ms)) (u : TypeId) (v : Value) (K : Value -> Hp -> Prop) (E : Value -> Hp -> Prop) : wpS P (binOp .neq t (.iface u v) .nilIface) H K E = K (.bool true) H := by
 simp only [binOp]
 rw [Aqa]
 unfold Op.equal Op.maxDepth
 rw [show (10000 : Nat) = 9999 + 1 from rfl]
 unfold Op.equalIn
 rw [Aqa, Aqj hu]
 rfl
theorem Bqc {t st : TypeId} {d : TypeDesc} (hu : P.underlying t = some d) (hd : (match d with | .interface _ => true | _ => false) = false) {z : Value} (hz : ∀ w, (zeroValue t).run P w = .ok z w) (u : TypeId) (v : Value) (K : Value -> Hp -> Prop) (E : Value -> Hp -> Prop) :
  wpS P (Instr.typeAssert (.iface u v) st t true) H K E = if u = t then K (.tuple #[v, .bool true]) H else K (.tuple #[z, .bool false]) H := by
 unfold Instr.typeAssert
 rw [Aqa, Aqj hu]
 cases d <;> first | (cases hd; done) | (simp only [Bjq, Aqe, if_true, Aqa, Axg hz])
def Ckj (P : Program) (v : Value) (name : String) (args : Array Value) (H : Hp) (K : Next -> Hp -> Prop) (E : Value -> Hp -> Prop) : Prop := wpS P (callMethod v name args) H K E
@[congr] theorem methK_congr {v v' : Value} {name : String} {args args' : Array Value} {H' : Hp} {K : Next -> Hp -> Prop} {E : Value -> Hp -> Prop} (hv : v = v') (ha : args = args') (hH : H = H') : Ckj P v name args H K E = Ckj P v' name args' H' K E := by subst hv ha hH; rfl
theorem Aks (ρ : Operand -> Value) (d : Option Tmp) (ty : TypeId) (pos : String) (af : Array Edge) (g : Option (Nat × Bool)) (K : Next -> Hp -> Prop) (E : Value -> Hp -> Prop) {x : Operand} {name : String} {args : List Operand} {ats : Array TypeId} :
  wpS P (execOp ρ ⟨d, .call ⟨.invoke x name, args.toArray, ats⟩, ty, pos, af, g⟩) H K E = Ckj P (ρ x) name (args.toArray.map ρ) H K E := by
 simp only [execOp, resolve, invoke, Ckj]
 rw [Aqa]
 simp only [Aqe]
 have h0 : (#[ρ x] ++ Array.map ρ args.toArray)[0]? = some (ρ x) := by simp
 have h1 : (#[ρ x] ++ Array.map ρ args.toArray).extract 1 (#[ρ x] ++ Array.map ρ args.toArray).size = Array.map ρ args.toArray := by
  apply Array.ext'
  simp [List.extract_eq_take_drop, List.take_of_length_le]
 simp only [h0, h1]
theorem Cqu {t e : TypeId} {t2 : TypeId} (hu : P.underlying t = some (.slice e)) (hs : ∀ w, (sizeOf e).run P w = .ok 1 w) (ty : TypeId) (cb : Array Bool) (b o n c b2 o2 n2 c2 : Nat) {p2 : Bool} {cs cs2 : List Value} {e1 e2 : TypeId} {fr2 : Nat × Nat}
  (hb : H b = some (true, .cells cs.toArray e1 (0, 0))) (hb2 : H b2 = some (p2, .cells cs2.toArray e2 fr2)) (h1 : o + min n2 n <= cs.length) (h2 : o2 + min n2 n <= cs2.length) (hone : ∀ v ∈ (cs2.drop o2).take (min n2 n), one v = true) (K : Next -> Hp -> Prop) (E : Value -> Hp -> Prop)
  (hK : K (.value (.int .i64 (min n2 n : Nat))) (H.set b (.cells (over cs.toArray o ((cs2.drop o2).take (min n2 n))) e1 (0, 0)))) :
  wpS P (builtin .copy #[t, t2] ty cb #[.slice (some ⟨b, o, none⟩) n c, .slice (some ⟨b2, o2, none⟩) n2 c2]) H K E := by
 simp only [builtin]
 rw [Aqa]
 unfold Builtin.copy_
 simp only [List.getElem?_toArray, List.getElem?_cons_zero, List.getElem?_cons_succ]
 have hlen : ((cs2.drop o2).take (min n2 n)).length = min n2 n := by simp; omega
 have hmin : Nat.min n2 n = min n2 n := rfl
 simp only [Aqa, Aqj hu, Aqe, Builtin.lenOf, Aq0 hs, hmin, Nat.mul_one, Builtin.firstCells]
 rw [Azq (cs := (cs2.drop o2).take (min n2 n)) (by rw [hlen]) (fun j u hj => by
  have hjl : j < ((cs2.drop o2).take (min n2 n)).length := (List.getElem?_eq_some_iff.1 hj).1
  rw [hlen] at hjl
  rw [cell_of hb2]
  rw [List.getElem?_take_of_lt hjl, List.getElem?_drop] at hj
  simpa using hj)]
 simp only [Aqa]
 refine Avd b o _ E _ 0 H cs.toArray e1 (by simpa using hone) hb ?_ ?_
 ·simp only [List.toList_toArray, hlen, Nat.add_zero, List.size_toArray]
  omega
 ·simp only [List.toList_toArray, Nat.add_zero, Aqe]
  exact hK
theorem Ayq {t e : TypeId} (hu : P.underlying t = some (.slice e)) {sz : Nat} (hs : ∀ w, (sizeOf e).run P w = .ok sz w) (ty : TypeId) (cb : Array Bool) (p q : Option Addr) (n cap cap2 : Nat) (h : n <= cap) (K : Next -> Hp -> Prop) (E : Value -> Hp -> Prop) (hK : K (.value (.slice p n cap)) H) :
  wpS P (builtin .append #[t, t] ty cb #[.slice p n cap, .slice q 0 cap2]) H K E := by
 simp only [builtin]
 rw [Aqa]
 unfold Builtin.append_
 simp only [List.getElem?_toArray, List.getElem?_cons_zero, List.getElem?_cons_succ]
 rw [Aqa, Aqj hu]
 simp only [Aqa, Aq0 hs, Aqj hu, Aqe, Bool.false_eq_true, if_false, Builtin.lenOf, Bjq, Nat.add_zero, h, if_true, Bool.not_false]
 have hf : ∀ (K' : Array Value -> Hp -> Prop), wpS P (Builtin.firstCells sz 0 (.slice q 0 cap2)) H K' E = K' #[] H := fun K' => by
  unfold Builtin.firstCells
  cases q with
  | none => rfl
  | some a => simp only [loadCells, Nat.zero_mul]; rfl
 rw [hf]
 cases p with
 | none => simp only [Aqe]; exact hK
 | some a => simp only [Aqa, storeCells, Aqe]; exact hK
end
end Go.X
end
section
namespace Go.Proofs.YtnfnaehonkbknaaGreatDoor
open Go Go.X
variable {H : Hp} (args : Array Value) (K : Next -> Hp -> Prop) (E : Value -> Hp -> Prop)
theorem Bqn (v : Value) : Ckj Tryz.prog (.iface 206 v) "gladstone/smell.at" args H K E = wpS Tryz.prog (callFunc 150 (#[v] ++ args)) H K E := by kernel_rfl
theorem Bqo (v : Value) : nilK Tryz.prog (.func (.method "gladstone/smell.at") #[.iface 206 v] #[]) H K E = K (.value (.func (.method "gladstone/smell.at") #[.iface 206 v] #[])) H := by kernel_rfl
theorem Bx5 (v : Value) : Ckj Tryz.prog (.iface 208 v) "gladstone/smell.at" args H K E = wpS Tryz.prog (callFunc 151 (#[v] ++ args)) H K E := by kernel_rfl
theorem Bx7 (v : Value) : nilK Tryz.prog (.func (.method "gladstone/smell.at") #[.iface 208 v] #[]) H K E = K (.value (.func (.method "gladstone/smell.at") #[.iface 208 v] #[])) H := by kernel_rfl
end Go.Proofs.YtnfnaehonkbknaaGreatDoor
end
section
namespace Go.Proofs.YtnfnaehonkbknaaGreatDoor
open Go Go.X
theorem SlI.isSlice {H : Hp} {v : Value} {xs : List Int} (h : SlI H v xs) : ∃ a n c, v = .slice a n c := by
 obtain ⟨a, c, rfl, _⟩ := h
 exact ⟨_, _, _, rfl⟩
end Go.Proofs.YtnfnaehonkbknaaGreatDoor
end
section
namespace Go.Proofs.YtnfnaehonkbknaaGreatDoor
open Go Go.X Go.Proofs.Tryz
def Bx0 := aN @Cwc (aN (fun H => Bve (H := H) underlying22) (fun H => Bzq (H := H) underlying22 sizeOf3))
theorem Dyo {p q : Prop} (g : q) (h : Hid q -> p := by
 intro g
 repeat' (first
 | (refine Axz rfl ?_; intro Kz hKz; simp -implicitDefEqProofs (disch := first | omega | (simp only [qd] <;> omega)) only [xq, ↓xp, qc, Nat.reduceAdd, List.range, List.range.loop, fine, Nat.reduceEqDiff, ↓reduceIte, yielded, reduceCtorEq, Nat.reduceLT, Nat.reduceMul, Nat.reduceSub, one, Nat.reduceLeDiff, Aqg, Bx0, aq, ↓ap, qe0, qe1, qe2, *, -g, -hKz, Option.isNone_none]; try (refine hKz _ _ ?_; clear hKz Kz))
 | (refine Azx rfl ?_; intro Kz hKz; simp -implicitDefEqProofs (disch := first | omega | (simp only [qd] <;> omega)) only [xq, ↓xp, qc, Nat.reduceAdd, List.range, List.range.loop, fine, Nat.reduceEqDiff, ↓reduceIte, yielded, reduceCtorEq, Nat.reduceLT, Nat.reduceMul, Nat.reduceSub, one, Nat.reduceLeDiff, Aqg, Bx0, aq, ↓ap, qe0, qe1, qe2, *, -g, -hKz, Option.isNone_none]; try (refine hKz _ _ ?_; clear hKz Kz; (try simp only [nq, ↓reduceIte, Nat.reduceEqDiff])))
 | (refine Aze ?_; (try simp only [nq, ↓reduceIte, Nat.reduceEqDiff]))
 | (refine Azh ?_; (try simp only [nq, ↓reduceIte, Nat.reduceEqDiff]))
 | (refine Az6 ?_; (try simp only [nq, ↓reduceIte, Nat.reduceEqDiff]))
 | (refine Ajc ?_; (try simp only [nq, ↓reduceIte, Nat.reduceEqDiff]))
 | (refine Azw (by simp only [Aq6, Axh, Nat.reduceEqDiff, Nat.reduceLT, ↓reduceIte, *, -g]; rfl) ?_ ?_ <;> (intro hcz; first | (exfalso; simp -implicitDefEqProofs (disch := omega) only [*, -g, bq, reduceCtorEq] at hcz; done) | (simp only [dq, qe3, qe4, qe5, qe6] at hcz) | skip))
 | (refine Azy ?_)
 | (refine Ax7 ?_)
 | (refine Axp ?_))
 refine unT ?_; (try (revert hcz; refine unC ?_)); (repeat (revert hcz; refine unD ?_)); first | revert Kz | refine unU ?_
 exact Hid.out g) : Hid p := ⟨h ⟨g⟩⟩
theorem Dyp {p q : Prop} (g : q) (h : Hid q -> p := by
 intro g
 repeat' (first
 | (refine Axz rfl ?_; intro Kz hKz; simp -implicitDefEqProofs (disch := first | omega | (simp only [qd] <;> omega)) only [xq, ↓xp, qc, Nat.reduceAdd, List.range, List.range.loop, fine, Nat.reduceEqDiff, ↓reduceIte, yielded, reduceCtorEq, Nat.reduceLT, Nat.reduceMul, Nat.reduceSub, one, Nat.reduceLeDiff, Aqg, Bx0, aq, ↓ap, qe0, qe1, qe2, *, -g, -hKz, Option.isNone_some]; try (refine hKz _ _ ?_; clear hKz Kz))
 | (refine Azx rfl ?_; intro Kz hKz; simp -implicitDefEqProofs (disch := first | omega | (simp only [qd] <;> omega)) only [xq, ↓xp, qc, Nat.reduceAdd, List.range, List.range.loop, fine, Nat.reduceEqDiff, ↓reduceIte, yielded, reduceCtorEq, Nat.reduceLT, Nat.reduceMul, Nat.reduceSub, one, Nat.reduceLeDiff, Aqg, Bx0, aq, ↓ap, qe0, qe1, qe2, *, -g, -hKz, Option.isNone_some]; try (refine hKz _ _ ?_; clear hKz Kz; (try simp only [nq, ↓reduceIte, Nat.reduceEqDiff])))
 | (refine Aze ?_; (try simp only [nq, ↓reduceIte, Nat.reduceEqDiff]))
 | (refine Azh ?_; (try simp only [nq, ↓reduceIte, Nat.reduceEqDiff]))
 | (refine Az6 ?_; (try simp only [nq, ↓reduceIte, Nat.reduceEqDiff]))
 | (refine Ajc ?_; (try simp only [nq, ↓reduceIte, Nat.reduceEqDiff]))
 | (refine Azw (by simp only [Aq6, Axh, Nat.reduceEqDiff, Nat.reduceLT, ↓reduceIte, *, -g]; rfl) ?_ ?_ <;> (intro hcz; first | (exfalso; simp -implicitDefEqProofs (disch := omega) only [*, -g, bq, reduceCtorEq] at hcz; done) | (simp only [dq, qe3, qe4, qe5, qe6] at hcz) | skip))
 | (refine Azy ?_)
 | (refine Ax7 ?_)
 | (refine Axp ?_))
 refine unT ?_; (try (revert hcz; refine unC ?_)); (repeat (revert hcz; refine unD ?_)); first | revert Kz | refine unU ?_
 exact Hid.out g) : Hid p := ⟨h ⟨g⟩⟩
theorem Cjy (m : Md) (H : Hp) (v : Value) (xs : List Int) (hv : SlI H v xs) (hl : xs.length <= 1000000) :
  FnX Tryz.prog m 56 #[v] H fun e H' => ∃ w, e = .returned w /\ RowX none H H' w 3 (ints xs) := by
 obtain ⟨a, cap, rfl, hcap, hx⟩ := hv
 refine Aql func56 rfl ntmps56 (by simp) ?_
 cases a with
 | none =>
  have : xs = [] := by
   cases xs with
   | nil => rfl
   | cons x xs => obtain ⟨b, o, p, c, fr, h, _⟩ := hx 0 x rfl; cases h
  subst this
  (refine @unH _ (Dyo ?_); (try clear hK K); intro K hK hc)
  (refine @unH _ ?_; refine z9 results56 ?_)
  exact ⟨_, rfl, RowX.nil⟩
 | some ad =>
  (refine @unH _ (Dyp ?_); (try clear hK K); intro K hK hc)
  intro nb hnb
  have hle : H.le (H.set nb (.cells #[] 3 (0, 0))) := Hp.le_set hnb
  have hrow0 : Aj9 H (H.set nb (.cells #[] 3 (0, 0))) (.slice (some ⟨nb, 0, none⟩) 0 0) 3 1 0 (ints []) := .inr ⟨nb, #[], 0, hnb, rfl, rfl, rfl, rfl, Nat.le_refl _, fun i u hi => by simp [ints] at hi⟩
  obtain ⟨b, o, sp⟩ := ad
  cases xs with
  | nil =>
   (refine @unH _ (zU Bx0 ?_); intro _ _ hc)
   refine Ayq underlying22 sizeOf3 _ _ _ _ _ _ _ (Nat.le_refl _) _ _ ?_
   (refine @unH _ (zU Bx0 ?_); (try clear hK K); intro K hK hc)
   (refine @unH _ ?_; refine z9 results56 ?_)
   exact ⟨_, rfl, Lex.of hle, .inr ⟨nb, #[], 0, hnb, Axf, rfl, rfl, Nat.le_refl _, fun i u hi => by simp [ints] at hi⟩⟩
  | cons x0 xs0 =>
   obtain ⟨b', o', p', c', fr', h', hb', _⟩ := hx 0 x0 rfl
   cases h'
   (refine @unH _ (zU Bx0 ?_); intro _ _ hc)
   have hgne : b ≠ nb := Aqq hb' hnb
   refine Bzl hrow0 (Hp.le_refl _) (ys := x0 :: xs0) rfl (fun h => absurd h (by rw [hb']; simp)) (fun j y hj => ?_) (by simp at hl ⊢; omega) _ _ _ _ (fun v' H1 H2 hr hl2 => ?_)
   ·obtain ⟨b2, o2, p2, c2, fr2, e2, hb2, hc2⟩ := hx j y hj
    cases e2
    rw [Bzr hgne, cell_of hb2]
    exact hc2
   ·(refine @unH _ (zU Bx0 ?_); (try clear hK K); intro K hK hc)
    (refine @unH _ ?_; refine z9 results56 ?_)
    refine ⟨_, rfl, ?_⟩
    have hlen := hr.len
    rcases hr with ⟨_, h0, _⟩ | ⟨b3, c3, cap3, hb3, rfl, rfl, hs3, hl3, hn3, hg3⟩
    ·simp at h0
    ·refine ⟨Lex.of (Hp.le_trans (Hp.le_set hb3) hl2), .inr ⟨b3, c3, cap3, hb3, hl2 _ _ Axf, ?_, by simpa using hs3, ?_, ?_⟩⟩
     ·simp [ints]
     ·simpa [ints] using hn3
     ·intro i u hi; exact hg3 i u (by simpa using hi)
end Go.Proofs.YtnfnaehonkbknaaGreatDoor
end
section
namespace Go.Proofs.YtnfnaehonkbknaaGreatDoor
open Go Go.X
def Dye (r : Int) (came asked later : List Int) (p : Int) : Int :=
 if r = 0 then p else if r = 1 then came.getD p.toNat 0 else if r = 2 then asked.getD p.toNat 0 else - later.getD p.toNat 0
theorem Cz8 {P : Program} {main : Md} {H : Hp} {f : FuncId} {args : Array Value} {v : Value} (h : FnX P main f args H fun e H' => e = .returned v /\ H.le H') : Runs P main (Frame.enter P f args .normal) H fun
  | .returned u, H₁ => u = v /\ H₁ = H
  | _, _ => False :=
 h.runs.less fun e H₁ he => by obtain ⟨rfl, hl⟩ := he; exact ⟨H, hl, rfl, rfl⟩
end Go.Proofs.YtnfnaehonkbknaaGreatDoor
end
section
namespace Go.X
open Go
open Go.Conc (G base)
def both (K : Act -> Hp -> Prop) (E : List PanicEntry -> Act -> Hp -> Prop) : Exit -> Act -> Hp -> Prop
 | .normal, a, H => K a H
 | .panic ch, a, H => E ch a H
 | _, _, _ => False
section
variable {P : Program} {main : Md} {lp : Option Nat} {Q : Exit -> Act -> Hp -> Prop} {a : Act} {H : Hp}
theorem Cvo {K : Act -> Hp -> Prop} {E : List PanicEntry -> Act -> Hp -> Prop} : both K E .normal a H = K a H := rfl
theorem Cvp {K : Act -> Hp -> Prop} {E : List PanicEntry -> Act -> Hp -> Prop} {ch : List PanicEntry} : both K E (.panic ch) a H = E ch a H := rfl
theorem Czl {ops : Array Oper} {K : Act -> Hp -> Prop} {E : List PanicEntry -> Act -> Hp -> Prop} (hE : ∀ c a H, E c a H -> Q (.panic c) a H) (hK : ∀ a H, K a H -> Q .normal a H) :
  ∀ {todo : List Nat} {a : Act} {H : Hp}, runX P main lp ops (both K E) todo a H -> runX P main lp ops Q todo a H
 | [], _, _, h => hK _ _ h
 | _ :: _, _, _, h => Bz7 (fun c a H h => hE c a H h) (fun _ _ h => Czl hE hK h) h
theorem Bjt {id : Nat} {ops : List Oper} {ds : List (Option Tmp)} (hds : ops.map (·.dst) = ds)
  (h : ∀ (K : Act -> Hp -> Prop) (E : List PanicEntry -> Act -> Hp -> Prop), (∀ a' H', Q .normal a' H' -> K a' H') -> (∀ ch a' H', Q (.panic ch) a' H' -> E ch a' H') -> runL P main lp ds (both K E) ops a H) :
  wpX P main lp (.region id ops.toArray false) Q a H :=
 Bwf (Czl (fun _ _ _ h => h) (fun _ _ h => h) (Bv5 hds (h _ _ (fun _ _ h => h) fun _ _ _ h => h)))
section
variable {ρ : Operand -> Value} {d : Option Tmp} {ty : TypeId} {pos : String} {af : Array Edge} {g : Option (Nat × Bool)} {K : Next -> Hp -> Prop} {E : Value -> Hp -> Prop}
theorem Bvt (x : Operand) : wpS P (execOp ρ ⟨d, .panic x, ty, pos, af, g⟩) H K E = wpS P (Instr.panic (ρ x)) H (fun v H' => K (.value v) H') E := Aqa _ _ _ _
end
theorem Ayz {t : TypeId} {v : Value} {K : Value -> Hp -> Prop} {E : Value -> Hp -> Prop} : wpS P (Instr.panic (.iface t v)) H K E = E (.iface t v) H := rfl
end
end Go.X
end
section
namespace Go.Proofs.YtnfnaehonkbknaaGreatDoor
open Go Go.X
def nxt (ts : List Int) (k : Nat) (p : Int) : Nat := k + (ts.drop k).findIdx (· == p)
def Dzs (ts : List Int) (k : Nat) : List Int := (List.range 6).map fun p : Nat => (nxt ts k (p : Int) : Int)
end Go.Proofs.YtnfnaehonkbknaaGreatDoor
end
section
namespace Go.X
open Go
theorem Awz {ops : List Oper} {tmps : Array Value} {j : Nat} : yielded ops.toArray tmps j = ylK (((ops[j]?).bind (·.dst)).bind (tmps[·]?)) := by
 unfold yielded ylK
 simp only [List.getElem?_toArray]
 rfl
end Go.X
namespace Go.Proofs.YtnfnaehonkbknaaGreatDoor
open Go Go.X
structure RS where
 m : Nat
 came : List Int
 asked : List Int
 later : List Int
 cl : List Int
 f : Nat
def Dyd (rk : Int -> Int) (l : List Int) : Int := l.foldl (fun c q => if c < 0 ∨ rk q < rk c then q else c) (-1)
def Dwl (pl : Int) (m : Nat) (t : Int) : Bool := !m.testBit t.toNat && decide (pl <= Dwc m)
def Dwf (pl r : Int) (ts : List Int) (i : Nat) (t : Int) (s : RS) : Int :=
 if Dwl pl s.m t then Dyd (Dye r s.came s.asked (if r = 3 then Dzs ts (i + 1) else s.later)) (Bq8 s.m) else -1
def rstep (pl r : Int) (ts : List Int) (i : Nat) (t : Int) (s : RS) : RS :=
 {m := Dyc s.m (Dwf pl r ts i t s) t
  came := if s.m.testBit t.toNat then s.came else s.came.set t.toNat i
  asked := s.asked.set t.toNat i
  later := if r = 3 /\ Dwl pl s.m t then Dzs ts (i + 1) else s.later
  cl := s.cl.set i (Dwf pl r ts i t s)
  f := s.f + if s.m.testBit t.toNat then 0 else 1 }
end Go.Proofs.YtnfnaehonkbknaaGreatDoor
end
section
namespace Go.X
open Go
section
variable {P : Program} {H : Hp} {κ : Type} [DecidableEq κ] {enc : κ -> Value} {ks : TypeId}
structure KeyT (P : Program) (ks : TypeId) (enc : κ -> Value) : Prop where
 eq : ∀ (a b : κ) (H : Hp) (K : Bool -> Hp -> Prop) (E : Value -> Hp -> Prop), wpS P (Op.equal ks (enc a) (enc b)) H K E = K (decide (a = b)) H
 ck : ∀ (em : Bool) (a : κ) (H : Hp) (K : Unit -> Hp -> Prop) (E : Value -> Hp -> Prop), wpS P (Instr.checkKey em 10000 ks (enc a)) H K E = K () H
 un : ∃ d, P.underlying ks = some d /\ ∀ a b, Instr.sameNow d (enc a) (enc b) = none
 bits : ∀ a, Instr.sameBits 10000 (enc a) (enc a) = true
def MapG (enc : κ -> Value) (ok : κ -> Prop) (F : κ -> Value) (clock : Nat) (es : List MapEntry) : Prop := ∀ e ∈ es, ∃ k, ok k /\ e.key = enc k /\ e.val = F k /\ e.born < clock
theorem Bzw (h : KeyT P ks enc) {ok : κ -> Prop} {F : κ -> Value} {clock : Nat} (a : κ) (H : Hp) :
  ∀ (es : List MapEntry) (i : Nat), MapG enc ok F clock es -> ∃ r : Option (Nat × Value), (∀ j v, r = some (j, v) -> i <= j /\ v = F a /\ ∃ e, es[j - i]? = some e /\ e.key = enc a) /\
   ∀ (K : Option (Nat × Value) -> Hp -> Prop) (E : Value -> Hp -> Prop), K r H -> wpS P (Instr.findAsking ks (enc a) es i) H K E
 | [], i, _ => ⟨none, fun j v h => (by cases h), fun K E hk => hk⟩
 | e :: es, i, hm => by
  obtain ⟨c, _, hke, hve, _⟩ := hm e List.mem_cons_self
  unfold Instr.findAsking
  by_cases hq : a = c
  ·subst hq
   refine ⟨some (i, e.val), fun j v hj => ?_, fun K E hK => ?_⟩
   ·cases hj
    exact ⟨Nat.le_refl _, hve, e, by simp, hke⟩
   ·rw [Aqa, hke, h.eq]
    simp only [decide_true, if_true, Aqe]
    exact hK
  ·obtain ⟨r, hr, hk⟩ := Bzw h a H es (i + 1) (fun e he => hm e (List.mem_cons_of_mem _ he))
   refine ⟨r, fun j v hj => ?_, fun K E hK => ?_⟩
   ·obtain ⟨h1, h2, e', h3, h4⟩ := hr j v hj
    refine ⟨by omega, h2, e', ?_, h4⟩
    rw [show j - i = (j - (i + 1)) + 1 by omega, List.getElem?_cons_succ]
    exact h3
   ·rw [Aqa, hke, h.eq]
    simp only [hq, decide_false, Bool.false_eq_true, if_false]
    exact hk K E hK
theorem Dxh (h : KeyT P ks enc) {ok : κ -> Prop} {F : κ -> Value} {clock : Nat} (a : κ) (H : Hp)
  (es : List MapEntry) (hm : MapG enc ok F clock es) : ∃ r : Option (Nat × Value), (∀ j v, r = some (j, v) -> v = F a /\ ∃ e, es[j]? = some e /\ e.key = enc a) /\
   ∀ (K : Option (Nat × Value) -> Hp -> Prop) (E : Value -> Hp -> Prop), K r H -> wpS P (Instr.findKey ks (enc a) es) H K E := by
 obtain ⟨d, hu, hd⟩ := h.un
 cases es with
 | nil =>
  refine ⟨none, fun j v h => (by cases h), fun K E hK => ?_⟩
  unfold Instr.findKey
  rw [Aqa, Aqj hu]
  exact hK
 | cons e es =>
  obtain ⟨c, _, hke, hve, _⟩ := hm e List.mem_cons_self
  obtain ⟨r, hr, hk⟩ := Bzw h a H (e :: es) 0 hm
  refine ⟨r, fun j v hj => ?_, fun K E hK => ?_⟩
  ·obtain ⟨_, h2, e', h3, h4⟩ := hr j v hj
   exact ⟨h2, e', by simpa using h3, h4⟩
  ·unfold Instr.findKey
   rw [Aqa, Aqj hu]
   simp only [Instr.findNow, hke, hd]
   exact hk K E hK
theorem Dva {mt vt : TypeId} (hu : P.underlying mt = some (.map ks vt)) (h : KeyT P ks enc) {ok : κ -> Prop} {F : κ -> Value} (a : κ) (hok : ok a)
  {mb : Nat} {es : Array MapEntry} {clock : Nat} (hb : H mb = some (true, .map es clock)) (hm : MapG enc ok F clock es.toList) (K : Unit -> Hp -> Prop) (E : Value -> Hp -> Prop)
  (hk : ∀ es' clock', MapG enc ok F clock' es'.toList -> K () (H.set mb (.map es' clock'))) : wpS P (Instr.mapUpdate mt (.map (some mb)) (enc a) (F a)) H K E := by
 unfold Instr.mapUpdate
 simp only [Aqa, Aqj hu]
 refine ⟨true, _, hb, rfl, rfl, ?_⟩
 simp only [Ak0, Aqe, Aqa, h.ck]
 obtain ⟨r, hr, hk'⟩ := Dxh h a H es.toList hm
 refine hk' _ _ ?_
 cases r with
 | none =>
  refine ⟨_, hb, rfl, rfl, hk _ _ fun e he => ?_⟩
  simp only [Array.toList_push, List.mem_append, List.mem_singleton] at he
  rcases he with he | rfl
  ·obtain ⟨k, h1, h2, h3, h4⟩ := hm e he
   exact ⟨k, h1, h2, h3, by omega⟩
  ·exact ⟨a, hok, rfl, rfl, Nat.lt_succ_self _⟩
 | some q =>
  obtain ⟨j, v⟩ := q
  obtain ⟨hv, e, he, hke⟩ := hr j v rfl
  have he' : es[j]? = some e := by simpa using he
  simp only [he', Option.map_some, Option.getD_some, hke, Instr.keyThatStays, h.bits, if_true, Aqe]
  refine ⟨_, hb, rfl, rfl, hk _ _ fun x hx => ?_⟩
  simp only [Array.toList_modify] at hx
  obtain ⟨i, hi, rfl⟩ := List.getElem_of_mem hx
  rw [List.getElem_modify]
  split
  ·obtain ⟨k, h1, h2, h3, h4⟩ := hm _ (List.getElem_mem (l := es.toList) (n := i) (by simpa using hi))
   exact ⟨a, hok, rfl, rfl, h4⟩
  ·exact hm _ (List.getElem_mem _)
end
section ex
variable {P : Program} {H : Hp} (ρ : Operand -> Value) (d : Option Tmp) (ty : TypeId) (pos : String) (af : Array Edge) (g : Option (Nat × Bool)) (K : Next -> Hp -> Prop) (E : Value -> Hp -> Prop)
end ex
section
variable {P : Program} {ks : TypeId}
def K5 : Type := { l : List Int // l.length = 5 }
instance : DecidableEq K5 := fun a b => decidable_of_iff (a.1 = b.1) ⟨Subtype.ext, fun h => congrArg _ h⟩
end
end Go.X
end
section
namespace Go.X
open Go
end Go.X
namespace Go.Proofs.YtnfnaehonkbknaaGreatDoor
open Go Go.X
theorem Bqp {l vs : List Value} (h : vs.length = l.length) : over l.toArray 0 vs = vs.toArray := by
 rw [Bz8 _ _ _ (by omega), List.take_zero, List.nil_append, List.drop_of_length_le (by omega), List.append_nil]
def rowB : Value -> Option Nat
 | .slice (some a) _ _ => some a.block
 | _ => none
theorem append_row2 {P : Program} {tt e : TypeId} {z : Value} {inf : TypeInfo} (hu : P.underlying tt = some (.slice e)) (hs : ∀ w, (sizeOf e).run P w = .ok 1 w) (hz : ∀ w, (zeroValue e).run P w = .ok z w) (hzc : z.cells.size = 1)
  (hi : ∀ w, (typeInfo e).run P w = .ok inf w) (hby : inf.bytes <= 1024) (hby0 : 0 < inf.bytes)
  {t : Option Nat} {H₀ H : Hp} {v : Value} {cs : List Value} (h : RowX t H₀ H v e cs) {g : Nat} {w : Value} (hg : H g = none) (hw : one w = true) (hn : cs.length <= 1000000) (ty : TypeId) (cb : Array Bool) (K : Next -> Hp -> Prop) (E : Value -> Hp -> Prop)
  (h' : ∀ v' H', RowX t H₀ H' v' e (cs ++ [w]) -> (∀ x u, H x = some u -> rowB v ≠ some x -> H' x = some u) -> (∀ x, rowB v' = some x -> rowB v = some x ∨ H x = none) -> K (.value v') H') :
  wpS P (builtin .append #[tt, tt] ty cb #[v, .slice (some ⟨g, 0, none⟩) 1 1]) (H.set g (.cells #[w] e (0, 0))) K E := by
 obtain ⟨hlex, hrow⟩ := h
 have hws : ∀ (j : Nat) (u : Value), [w][j]? = some u -> (H.set g (.cells #[w] e (0, 0))).cell ⟨g, 0 + j, none⟩ = some u := by
  intro j u hj
  rw [Nat.zero_add, cell_of (b := g) (p := true) (c := #[w]) (e := e) (f := (0, 0)) (by rw [Axo, if_pos rfl])]
  simpa using hj
 have h1w : ∀ u ∈ [w], one u = true := by simp [hw]
 rcases hrow with ⟨rfl, rfl⟩ | ⟨b, c, cap, hb0, hb, rfl, hcs, hcap, hget⟩
 ·refine Ajt (P := P) hu hs hz hzc hi hby hby0 (Aj9.nil H e 1) (Hp.le_set hg) (by simp) id hws h1w (by omega) ty cb K E (fun v' H1 H2 hr hl => ?_)
  have hle : H.le H2 := fun x u hx => hl _ _ (hr.le _ _ hx)
  refine h' v' H2 ⟨hlex.le hle, ?_⟩ (fun x u hx _ => hle _ _ hx) ?_
  ·rcases hr with ⟨_, hn0, _⟩ | ⟨b', c', cap', hb', rfl, rfl, hs', hl', hn', hg'⟩
   ·simp at hn0
   ·refine .inr ⟨b', c', cap', hlex.gone hb', hl _ _ (by rw [Axo, if_pos rfl]), by simp, by omega, by simpa using hn', fun i u hi => hg' i u hi⟩
  ·intro x hx
   rcases hr with ⟨_, hn0, _⟩ | ⟨b', c', cap', hb', rfl, rfl, hs', hl', hn', hg'⟩
   ·simp at hn0
   ·simp only [rowB, Option.some.injEq] at hx
    subst hx
    exact .inr hb'
 ·have hgb : g ≠ b := fun e => by rw [e, hb] at hg; cases hg
  have hD : (fun x => if x = b then none else H x : Hp) b = none := by simp
  have hH : H = Hp.set (fun x => if x = b then none else H x) b (.cells c e (0, 0)) := by
   funext x
   unfold Hp.set
   by_cases e : x = b
   ·subst e; simp [hb]
   ·simp [e]
  refine Ajt (P := P) hu hs hz hzc hi hby hby0 (H₀ := fun x => if x = b then none else H x) (H := H) (n := cs.length) (cs := cs) (.inr ⟨b, c, cap, hD, hH, rfl, by omega, by omega, hcap, hget⟩) (Hp.le_set hg) (by simp) (fun _ => hg) hws h1w (by omega) ty cb K E (fun v' H1 H2 hr hl => ?_)
  have hkeep : ∀ x u, x ≠ b -> H x = some u -> H2 x = some u := fun x u hn hx => hl _ _ (hr.le _ _ (by simp only [hn, if_false]; exact hx))
  rcases hr with ⟨_, hn0, _⟩ | ⟨b', c', cap', hb', rfl, rfl, hs', hl', hn', hg'⟩
  ·simp at hn0
  ·have hb2 : H2 b' = some (true, .cells c' e (0, 0)) := hl _ _ (by rw [Axo, if_pos rfl])
   have hb'0 : H₀ b' = none := by
    by_cases e : b' = b
    ·rw [e]; exact hb0
    ·simp only [e, if_false] at hb'; exact hlex.gone hb'
   refine h' _ H2 ⟨fun x u hx => ?_, .inr ⟨b', c', cap', hb'0, hb2, by simp, by omega, by simpa using hn', hg'⟩⟩ (fun x u hx ho => hkeep x _ (fun e => ho (by rw [e]; rfl)) hx) (fun x hx => ?_)
   ·obtain ⟨u', hu', e'⟩ := hlex x u hx
    exact ⟨u', hkeep x u' (fun e => by rw [e, hb0] at hx; cases hx) hu', e'⟩
   ·simp only [rowB, Option.some.injEq] at hx
    subst hx
    by_cases e : b' = b
    ·exact .inl (by rw [e]; rfl)
    ·simp only [e, if_false] at hb'; exact .inr hb'
end Go.Proofs.YtnfnaehonkbknaaGreatDoor
end
section
namespace Go.X
open Go
inductive PT where
 | nil
 | take (i : Nat) (p : PT)
 | one (i : Nat) (p : PT)
 | two (i : Nat) (p : PT) (j : Nat) (q : PT)
section
variable {P : Program} {main : Md} {lp : Option Nat} {Q : Exit -> Act -> Hp -> Prop} {ops : Array Oper} {S : Hp -> Prop}
def Ckq (P : Program) (main : Md) (lp : Option Nat) (ops : Array Oper) (Q : Exit -> Act -> Hp -> Prop) (S : Hp -> Prop) : PT -> Act -> Hp -> Prop
 | .nil, a, H => Q .normal a H
 | .take i p, a, H => S H /\ ∃ o, ops[i]? = some o /\ ∃ v, Azc P main lp ops S o v a /\ Ckq P main lp ops Q S p (a.put o.dst v) H
 | .one i p, a, H => numX P main lp ops i Q (fun a' H' => S H' /\ Ckq P main lp ops Q S p a' H') a H
 | .two i p j q, a, H => numX P main lp ops i Q (fun a' H' => S H' /\ Ckq P main lp ops Q S p a' H') a H /\ numX P main lp ops j Q (fun a' H' => S H' /\ Ckq P main lp ops Q S q a' H') a H
@[congr] theorem planT_congr {S : Hp -> Prop} {ops : Array Oper} {p : PT} {a a' : Act} {H H' : Hp} (ha : a = a') (hH : H = H') : Ckq P main lp ops Q S p a H = Ckq P main lp ops Q S p a' H' := by subst ha hH; rfl
end
end Go.X
end
section
namespace Go.X
open Go
section
variable {P : Program} {main : Md} {lp : Option Nat} {Q : Exit -> Act -> Hp -> Prop} {ops : Array Oper} {S : Hp -> Prop}
def waitsFor (ops : Array Oper) (t : Nat) : Array Bool := marked ops (List.range ops.size).reverse ((Array.replicate ops.size false).setIfInBounds t true)
theorem Bxz {t x : Nat} (h : (waitsFor ops t).getD x false = true) : x = t ∨ Dep ops t x := by
 refine Avk _ _ (fun y hy => ?_) x h
 by_cases hyt : t = y
 ·exact .inl hyt.symm
 ·rw [getD_set_ne false hyt] at hy
  by_cases hlt : y < ops.size <;> simp [Array.getD, hlt] at hy
def Ckr (P : Program) (main : Md) (lp : Option Nat) (ops : Array Oper) (Q : Exit -> Act -> Hp -> Prop) (S : Hp -> Prop) (ts : List Nat) : PT -> Act -> Hp -> Prop
 | .nil, a, H => Q .normal a H
 | .take i p, a, H => S H /\ ∃ o, ops[i]? = some o /\ ∃ v, Azc P main lp ops S o v a /\ Ckr P main lp ops Q S ts p (a.put o.dst v) H
 | .one i p, a, H => numX P main lp ops i Q (fun a' H' => (i ∈ ts ∨ S H') /\ Ckr P main lp ops Q S ts p a' H') a H
 | .two i p j q, a, H => numX P main lp ops i Q (fun a' H' => (i ∈ ts ∨ S H') /\ Ckr P main lp ops Q S ts p a' H') a H /\ numX P main lp ops j Q (fun a' H' => (j ∈ ts ∨ S H') /\ Ckr P main lp ops Q S ts q a' H') a H
@[congr] theorem planU_congr {S : Hp -> Prop} {ts : List Nat} {ops : Array Oper} {p : PT} {a a' : Act} {H H' : Hp} (ha : a = a') (hH : H = H') : Ckr P main lp ops Q S ts p a H = Ckr P main lp ops Q S ts p a' H' := by subst ha hH; rfl
end
end Go.X
end
section
namespace Go.X
open Go
section
variable {P : Program} {main : Md} {lp : Option Nat} {Q : Exit -> Act -> Hp -> Prop} {ops : Array Oper} {S : Hp -> Prop}
def anyV (P : Program) (main : Md) (lp : Option Nat) (ops : Array Oper) (Q : Exit -> Act -> Hp -> Prop) (S : Hp -> Prop) (ts : List Nat) : Nat -> Array Bool -> Act -> Hp -> Prop
 | 0, listed, a, H => Region.ready .any ops listed = [] /\ Q .normal a H
 | fuel + 1, listed, a, H =>
  (Region.ready .any ops listed = [] -> Q .normal a H) /\
  ∀ i ∈ Region.ready .any ops listed, numX P main lp ops i Q (fun a' H' => (i ∈ ts ∨ (S H -> S H')) /\ anyV P main lp ops Q S ts fuel (listed.setIfInBounds i true) a' H') a H
theorem Awd {ts : List Nat} : ∀ (fuel : Nat) (listed : Array Bool) (a : Act) (H : Hp), anyV P main lp ops Q S ts fuel listed a H -> anyX P main lp ops Q (fun _ => True) fuel listed a H
 | 0, _, _, _, h => h
 | fuel + 1, _, _, _, h => ⟨h.1, fun i hi => Axx (fun a' H' h' => ⟨trivial, Awd fuel _ a' H' h'.2⟩) (h.2 i hi)⟩
theorem Bka {ts : List Nat} {i : Nat} {oi : Oper} {v : Value} (hi : ops[i]? = some oi) (hsel : ∀ (j : Nat) (o : Oper) cs b, ops[j]? = some o -> o.op ≠ .select cs b)
  (hdep : ∀ t ∈ ts, t < ops.size -> Dep ops t i)
  (hQ : ∀ c a H, Q (.panic c) (a.put oi.dst v) H -> Q (.panic c) a H) :
  ∀ (fuel : Nat) (listed : Array Bool) (a : Act) (H : Hp), Closed ops listed ->
   (∀ j oj, ops[j]? = some oj -> j ≠ i -> listed.getD j true = false -> (∀ e ∈ oj.after, Region.binds .any e = true -> e.on ≠ i) -> oi.apart ops oj = true) ->
   i ∈ Region.ready .any ops listed -> Azc P main lp ops S oi v a -> S H ->
   anyV P main lp ops Q S ts fuel (listed.setIfInBounds i true) (a.put oi.dst v) H -> anyV P main lp ops Q S ts (fuel + 1) listed a H := by
 intro fuel
 induction fuel with
 | zero =>
  intro listed a H _ _ hr hy hS h
  refine ⟨fun h0 => (by rw [h0] at hr; cases hr), fun j hj => ?_⟩
  by_cases hji : j = i
  ·subst hji; exact hy.num hi hS ⟨.inr id, h⟩
  ·have := ready_mono hj hji
   rw [h.1] at this
   cases this
 | succ fuel ih =>
  intro listed a H hcl hfree hr hy hS h
  refine ⟨fun h0 => (by rw [h0] at hr; cases hr), fun j hj => ?_⟩
  by_cases hji : j = i
  ·subst hji; exact hy.num hi hS ⟨.inr id, h⟩
  ·have h1 := h.2 j (ready_mono hj hji)
   obtain ⟨hjun, oj, hoj, hall⟩ := mem_ready.1 hj
   have hiun : listed.getD i false = false := by
    have h0 := (mem_ready.1 hr).1
    rcases Nat.lt_or_ge i listed.size with h' | h'
    ·simpa [h'] using h0
    ·simp [Array.getElem?_eq_none h']
   have hjt : j ∉ ts := fun e => by
    have := (hdep j e (Array.getElem?_eq_some_iff.1 hoj).1).listed hcl hj
    rw [hiun] at this; cases this
   have hnot : ∀ e ∈ oj.after, Region.binds .any e = true -> e.on ≠ i := fun e he hb heq => by
    have h1 := hall e he hb
    rw [heq, hiun] at h1
    cases h1
   have h2 := Bvx hoj (hfree j oj hoj hji hjun hnot) (fun cs b => hsel i oi cs b hi) (fun cs b => hsel j oj cs b hoj) hQ hy h1
   have hfree' : ∀ k ok, ops[k]? = some ok -> k ≠ i -> (listed.setIfInBounds j true).getD k true = false ->
     (∀ e ∈ ok.after, Region.binds .any e = true -> e.on ≠ i) -> oi.apart ops ok = true := fun k ok hk hki hun hno => by
    refine hfree k ok hk hki ?_ hno
    by_cases hjk : j = k
    ·subst hjk; exact hjun
    ·rw [getD_set_ne true hjk] at hun; exact hun
   refine Axx (fun a' H' h3 => ?_) h2
   obtain ⟨hy', hd, h4⟩ := h3
   have hS' : S H' := hd.resolve_left hjt hS
   exact ⟨.inr fun _ => hS', ih (listed.setIfInBounds j true) a' H' (hcl.set hj) hfree' (ready_mono hr (Ne.symm hji)) hy' hS' (by rw [Array.setIfInBounds_comm _ _ hji]; exact h4)⟩
theorem Bwq {ts : List Nat} {i : Nat} {oi : Oper} {v : Value} (hi : ops[i]? = some oi) (hsel : ∀ (j : Nat) (o : Oper) cs b, ops[j]? = some o -> o.op ≠ .select cs b)
  (hQ : ∀ c a H, Q (.panic c) (a.put oi.dst v) H -> Q (.panic c) a H) :
  ∀ (fuel : Nat) (listed : Array Bool) (a : Act) (H : Hp), Closed ops listed ->
   (∀ j oj, ops[j]? = some oj -> j ≠ i -> listed.getD j true = false -> (∀ e ∈ oj.after, Region.binds .any e = true -> e.on ≠ i) -> oi.apart ops oj = true) ->
   i ∈ Region.ready .any ops listed -> Azc P main lp ops (fun _ => True) oi v a ->
   anyV P main lp ops Q S ts fuel (listed.setIfInBounds i true) (a.put oi.dst v) H -> anyV P main lp ops Q S ts (fuel + 1) listed a H := by
 intro fuel
 induction fuel with
 | zero =>
  intro listed a H _ _ hr hy h
  refine ⟨fun h0 => (by rw [h0] at hr; cases hr), fun j hj => ?_⟩
  by_cases hji : j = i
  ·subst hji; exact hy.num hi trivial ⟨.inr id, h⟩
  ·have := ready_mono hj hji
   rw [h.1] at this
   cases this
 | succ fuel ih =>
  intro listed a H hcl hfree hr hy h
  refine ⟨fun h0 => (by rw [h0] at hr; cases hr), fun j hj => ?_⟩
  by_cases hji : j = i
  ·subst hji; exact hy.num hi trivial ⟨.inr id, h⟩
  ·have h1 := h.2 j (ready_mono hj hji)
   obtain ⟨hjun, oj, hoj, hall⟩ := mem_ready.1 hj
   have hiun : listed.getD i false = false := by
    have h0 := (mem_ready.1 hr).1
    rcases Nat.lt_or_ge i listed.size with h' | h'
    ·simpa [h'] using h0
    ·simp [Array.getElem?_eq_none h']
   have hnot : ∀ e ∈ oj.after, Region.binds .any e = true -> e.on ≠ i := fun e he hb heq => by
    have h1 := hall e he hb
    rw [heq, hiun] at h1
    cases h1
   have h2 := Bvx hoj (hfree j oj hoj hji hjun hnot) (fun cs b => hsel i oi cs b hi) (fun cs b => hsel j oj cs b hoj) hQ hy h1
   have hfree' : ∀ k ok, ops[k]? = some ok -> k ≠ i -> (listed.setIfInBounds j true).getD k true = false ->
     (∀ e ∈ ok.after, Region.binds .any e = true -> e.on ≠ i) -> oi.apart ops ok = true := fun k ok hk hki hun hno => by
    refine hfree k ok hk hki ?_ hno
    by_cases hjk : j = k
    ·subst hjk; exact hjun
    ·rw [getD_set_ne true hjk] at hun; exact hun
   refine Axx (fun a' H' h3 => ?_) h2
   obtain ⟨hy', hd, h4⟩ := h3
   exact ⟨hd, ih (listed.setIfInBounds j true) a' H' (hcl.set hj) hfree' (ready_mono hr (Ne.symm hji)) hy' (by rw [Array.setIfInBounds_comm _ _ hji]; exact h4)⟩
inductive PV where
 | nil
 | take (i : Nat) (p : PV)
 | free (i : Nat) (p : PV)
 | one (i : Nat) (p : PV)
 | two (i : Nat) (p : PV) (j : Nat) (q : PV)
def PV.depth : PV -> Nat
 | .nil => 0
 | .take _ p => p.depth + 1
 | .free _ p => p.depth + 1
 | .one _ p => p.depth + 1
 | .two _ p _ q => max p.depth q.depth + 1
def Azu (P : Program) (main : Md) (lp : Option Nat) (ops : Array Oper) (Q : Exit -> Act -> Hp -> Prop) (S : Hp -> Prop) (ts : List Nat) : PV -> Act -> Hp -> Prop
 | .nil, a, H => Q .normal a H
 | .take i p, a, H => S H /\ ∃ o, ops[i]? = some o /\ ∃ v, Azc P main lp ops S o v a /\ Azu P main lp ops Q S ts p (a.put o.dst v) H
 | .free i p, a, H => ∃ o, ops[i]? = some o /\ ∃ v, Azc P main lp ops (fun _ => True) o v a /\ Azu P main lp ops Q S ts p (a.put o.dst v) H
 | .one i p, a, H => numX P main lp ops i Q (fun a' H' => (i ∈ ts ∨ (S H -> S H')) /\ Azu P main lp ops Q S ts p a' H') a H
 | .two i p j q, a, H => numX P main lp ops i Q (fun a' H' => (i ∈ ts ∨ (S H -> S H')) /\ Azu P main lp ops Q S ts p a' H') a H /\ numX P main lp ops j Q (fun a' H' => (j ∈ ts ∨ (S H -> S H')) /\ Azu P main lp ops Q S ts q a' H') a H
def Ajo (ops : Array Oper) (ts : List Nat) : PV -> Array Bool -> Bool
 | .nil, listed => (Region.ready .any ops listed).isEmpty
 | .take i p, listed => (ts.all fun t => i != t && (waitsFor ops t).getD i false) && Region.free .any ops listed i && (Region.ready .any ops listed).contains i && Ajo ops ts p (listed.setIfInBounds i true)
 | .free i p, listed => Region.free .any ops listed i && (Region.ready .any ops listed).contains i && Ajo ops ts p (listed.setIfInBounds i true)
 | .one i p, listed => (Region.ready .any ops listed == [i]) && Ajo ops ts p (listed.setIfInBounds i true)
 | .two i p j q, listed => (Region.ready .any ops listed == [i, j]) && Ajo ops ts p (listed.setIfInBounds i true) && Ajo ops ts q (listed.setIfInBounds j true)
theorem Ajw {ts : List Nat} (hsel : Region.noSelect ops = true) (hQ : ∀ c a H d v, Q (.panic c) (a.put d v) H -> Q (.panic c) a H) :
  ∀ (plan : PV) (fuel : Nat) (listed : Array Bool) (a : Act) (H : Hp), plan.depth <= fuel -> Closed ops listed -> Ajo ops ts plan listed = true ->
   Azu P main lp ops Q S ts plan a H -> anyV P main lp ops Q S ts fuel listed a H
 | .nil, fuel, listed, a, H, _, _, hok, h => by
  have hr : Region.ready .any ops listed = [] := by simpa [Ajo] using hok
  cases fuel with
  | zero => exact ⟨hr, h⟩
  | succ n => exact ⟨fun _ => h, by rw [hr]; simp⟩
 | .take i p, 0, _, _, _, hl, _, _, _ => by simp [PV.depth] at hl
 | .free i p, 0, _, _, _, hl, _, _, _ => by simp [PV.depth] at hl
 | .free i p, fuel + 1, listed, a, H, hl, hcl, hok, h => by
  simp only [Ajo, Bool.and_eq_true] at hok
  obtain ⟨⟨hf, hr⟩, hok⟩ := hok
  obtain ⟨o, ho, v, hy, h⟩ := h
  have hr' : i ∈ Region.ready .any ops listed := by simpa using hr
  exact Bwq ho (Region.noSelect_spec hsel) (fun c a H => hQ c a H _ _) fuel listed a H hcl (Region.free_spec ho hf) hr' hy
   (Ajw hsel hQ p fuel _ _ _ (by simp [PV.depth] at hl; omega) (hcl.set hr') hok h)
 | .one i p, 0, _, _, _, hl, _, _, _ => by simp [PV.depth] at hl
 | .two i p j q, 0, _, _, _, hl, _, _, _ => by simp [PV.depth] at hl
 | .take i p, fuel + 1, listed, a, H, hl, hcl, hok, h => by
  simp only [Ajo, Bool.and_eq_true] at hok
  obtain ⟨⟨⟨hd, hf⟩, hr⟩, hok⟩ := hok
  obtain ⟨hS, o, ho, v, hy, h⟩ := h
  have hr' : i ∈ Region.ready .any ops listed := by simpa using hr
  refine Bka ho (Region.noSelect_spec hsel) (fun t ht hlt => ?_) (fun c a H => hQ c a H _ _) fuel listed a H hcl (Region.free_spec ho hf) hr' hy hS
   (Ajw hsel hQ p fuel _ _ _ (by simp [PV.depth] at hl; omega) (hcl.set hr') hok h)
  have := List.all_eq_true.1 hd t ht
  simp only [Bool.and_eq_true, bne_iff_ne, ne_eq] at this
  exact (Bxz this.2).resolve_left this.1
 | .one i p, fuel + 1, listed, a, H, hl, hcl, hok, h => by
  simp only [Ajo, Bool.and_eq_true, beq_iff_eq] at hok
  obtain ⟨hr, hok⟩ := hok
  refine ⟨fun h0 => (by rw [hr] at h0; cases h0), fun j hj => ?_⟩
  have hji : j = i := by rw [hr] at hj; simpa using hj
  subst hji
  exact Axx (fun a' H' h' => ⟨h'.1, Ajw hsel hQ p fuel _ _ _ (by simp [PV.depth] at hl; omega) (hcl.set hj) hok h'.2⟩) h
 | .two i p j q, fuel + 1, listed, a, H, hl, hcl, hok, h => by
  simp only [Ajo, Bool.and_eq_true, beq_iff_eq] at hok
  obtain ⟨⟨hr, hok1⟩, hok2⟩ := hok
  refine ⟨fun h0 => (by rw [hr] at h0; cases h0), fun k hk => ?_⟩
  have hkk : k = i ∨ k = j := by rw [hr] at hk; simpa using hk
  rcases hkk with rfl | rfl
  ·exact Axx (fun a' H' h' => ⟨h'.1, Ajw hsel hQ p fuel _ _ _ (by simp [PV.depth] at hl; omega) (hcl.set hk) hok1 h'.2⟩) h.1
  ·exact Axx (fun a' H' h' => ⟨h'.1, Ajw hsel hQ q fuel _ _ _ (by simp [PV.depth] at hl; omega) (hcl.set hk) hok2 h'.2⟩) h.2
theorem By5 {id : Nat} {a : Act} {H : Hp} (S : Hp -> Prop) (ts : List Nat) (plan : PV) (hm : P.follows .mixedOrders = true) (hsel : Region.noSelect ops = true) (hlen : plan.depth <= ops.size)
  (hok : Ajo ops ts plan (Array.replicate ops.size false) = true)
  (hQ : ∀ c a H d v, Q (.panic c) (a.put d v) H -> Q (.panic c) a H) (h : Azu P main lp ops Q S ts plan a H) : wpX P main lp (.region id ops true) Q a H :=
 Bwd (fun _ => True) hm (Awd _ _ _ _ (Ajw hsel hQ plan _ _ _ _ hlen .start hok h))
theorem Axn {id : Nat} {ops : Array Oper} {a : Act} {H : Hp} (S : Hp -> Prop) (ts : List Nat) (plan : PV) (hm : P.follows .mixedOrders = true) (hsel : Region.noSelect ops = true) (hlen : plan.depth <= ops.size)
  (hok : Ajo ops ts plan (Array.replicate ops.size false) = true)
  (h : ∀ K : Act -> Hp -> Prop, (∀ a' H', Q .normal a' H' -> K a' H') -> Azu P main lp ops (only K) S ts plan a H) :
  wpX P main lp (.region id ops true) Q a H := by
 refine Az7 (Q := only fun a' H' => Q .normal a' H') (By5 S ts plan hm hsel hlen hok (fun c a H d v h => h) (h _ fun _ _ h => h)) fun e a H q => ?_
 cases e <;> first | exact q | exact q.elim
theorem Bjv {id : Nat} {ops : Array Oper} {y : Code} {a : Act} {H : Hp} (S : Hp -> Prop) (ts : List Nat) (plan : PV) (hm : P.follows .mixedOrders = true) (hsel : Region.noSelect ops = true) (hlen : plan.depth <= ops.size)
  (hok : Ajo ops ts plan (Array.replicate ops.size false) = true)
  (h : ∀ K : Act -> Hp -> Prop, (∀ a' H', wpX P main lp y Q a' H' -> K a' H') -> Azu P main lp ops (only K) S ts plan a H) :
  wpX P main lp (.seq (.region id ops true) y) Q a H := by
 refine Axp ?_
 refine Az7 (Q := only fun a' H' => wpX P main lp y Q a' H') (By5 S ts plan hm hsel hlen hok (fun c a H d v h => h) (h _ fun _ _ h => h)) fun e a H q => ?_
 cases e <;> first | exact q | exact q.elim
theorem Axe {S : Hp -> Prop} {ts : List Nat} {a : Act} {H : Hp} {i : Nat} {ops : List Oper} {o : Oper} {p : PV} {v : Value} (ho : ops[i]? = some o) (hw : Region.wanted o (yielded ops.toArray a.tmps) = true) (hf : fine lp o = true)
  (hS : S H) (h : ∀ H', S H' -> wpS P (execOp a.eval o) H' (YN P main v H') fun _ _ => False) (hk : Azu P main lp ops.toArray Q S ts p (a.put o.dst v) H) : Azu P main lp ops.toArray Q S ts (.take i p) a H :=
 ⟨hS, o, by simpa using ho, v, .inl ⟨hw, hf, h⟩, hk⟩
theorem Aqv {S : Hp -> Prop} {ts : List Nat} {a : Act} {H : Hp} {i : Nat} {ops : Array Oper} {p : PV} (h : numX P main lp ops i Q (fun a' H' => (i ∈ ts ∨ (S H -> S H')) /\ Azu P main lp ops Q S ts p a' H') a H) : Azu P main lp ops Q S ts (.one i p) a H := h
theorem Axr {S : Hp -> Prop} {ts : List Nat} {a : Act} {H : Hp} {ops : Array Oper} (h : Q .normal a H) : Azu P main lp ops Q S ts .nil a H := h
@[congr] theorem planV_congr {S : Hp -> Prop} {ts : List Nat} {ops : Array Oper} {p : PV} {a a' : Act} {H H' : Hp} (ha : a = a') (hH : H = H') : Azu P main lp ops Q S ts p a H = Azu P main lp ops Q S ts p a' H' := by subst ha hH; rfl
theorem Bq9 {S : Hp -> Prop} {ts : List Nat} {a : Act} {H : Hp} {i : Nat} {ops : List Oper} {o : Oper} {p : PV} {v : Value} (ho : ops[i]? = some o) (hw : Region.wanted o (yielded ops.toArray a.tmps) = true) (hf : fine lp o = true)
  (h : ∀ H' : Hp, wpS P (execOp a.eval o) H' (YN P main v H') fun _ _ => False) (hk : Azu P main lp ops.toArray Q S ts p (a.put o.dst v) H) : Azu P main lp ops.toArray Q S ts (.free i p) a H :=
 ⟨o, by simpa using ho, v, .inl ⟨hw, hf, fun H' _ => h H'⟩, hk⟩
theorem Awn {S : Hp -> Prop} {ts : List Nat} {a : Act} {H : Hp} {i j : Nat} {ops : Array Oper} {p q : PV} (h : numX P main lp ops i Q (fun a' H' => (i ∈ ts ∨ (S H -> S H')) /\ Azu P main lp ops Q S ts p a' H') a H)
 (h' : numX P main lp ops j Q (fun a' H' => (j ∈ ts ∨ (S H -> S H')) /\ Azu P main lp ops Q S ts q a' H') a H) : Azu P main lp ops Q S ts (.two i p j q) a H := ⟨h, h'⟩
end
end Go.X
end
section
namespace Go.X
open Go
section
variable {P : Program} {H : Hp}
theorem Awe {t e : TypeId} {sz : Nat} {z : Value} (hu : P.underlying t = some (.slice e)) (hs : ∀ w, (sizeOf e).run P w = .ok sz w) (hz : ∀ w, (zeroValue e).run P w = .ok z w) (hzc : z.cells.size = sz) (h0 : 0 < sz) (h1 : sz <= 1000)
    (vs : List Value) (hvs : vs.length = sz) (K : Value -> Hp -> Prop) (E : Value -> Hp -> Prop) :
    wpS P (Instr.buildSlice t 1 #[(0, .agg vs.toArray)]) H K E = ∀ b, H b = none -> K (.slice (some ⟨b, 0, none⟩) 1 1) (H.set b (.cells vs.toArray e (0, 0))) := by
  unfold Instr.buildSlice
  have hn1 : ¬ 1 * sz > 2 ^ 24 := by have : (2 : Nat) ^ 24 = 16777216 := by decide
                                     omega
  have hn2 : ¬ 1 * sz = 0 := by omega
  simp only [Aqa, Aqj hu, Aq0 hs, hn1, hn2, if_false, Axg hz, Aqe]
  have hf : Instr.fill (fun i => some (i * sz, sz)) ((Array.range (1 * sz)).map (z.cells[· % z.cells.size]!)) [(0, .agg vs.toArray)] = some vs.toArray := by
    unfold Instr.fill
    simp only [Nat.zero_mul, Bw0, List.size_toArray, hvs, Nat.zero_add, Array.size_map, Array.size_range, Nat.one_mul, ne_eq, not_true, gt_iff_lt, Nat.lt_irrefl, decide_false, Bool.or_self, Bool.false_eq_true, if_false]
    simp only [Instr.fill]
    congr 1
    rw [<- Array.foldl_toList, Array.toList_zipIdx]
    have hfo := Bq4 0 vs 0 ((Array.range sz).map (z.cells[· % z.cells.size]!)) (by simp [hvs])
    simp only [Nat.zero_add] at hfo
    rw [hfo]
    apply Array.ext_getElem?
    intro i
    by_cases hi : i < sz
    · rw [Aj0 i (by simpa using hi), if_pos ⟨by omega, by omega⟩]
      simp [List.getD, List.getElem?_eq_getElem (show i < vs.length by omega)]
    · rw [Array.getElem?_eq_none (by rw [Azt]; simp; omega), Array.getElem?_eq_none (by simp; omega)]
  have hl : (#[(0, Value.agg vs.toArray)] : Array (Nat × Value)).toList = [(0, .agg vs.toArray)] := rfl
  simp only [hl, hf, newRow, newObj, Aqa, wpS, Aqe]
end
def RowZ (Lx : Hp -> Hp -> Prop) (H₀ H : Hp) (v : Value) (e : TypeId) (sz n : Nat) (cs : List Value) : Prop :=
 Lx H₀ H /\ ((v = .slice none 0 0 /\ n = 0 /\ cs = []) ∨
 ∃ (b : Nat) (c : Array Value) (cap : Nat), H₀ b = none /\ H b = some (true, .cells c e (0, 0)) /\ v = .slice (some ⟨b, 0, none⟩) n cap /\ c.size = cap * sz /\ n <= cap /\ cs.length = n * sz /\ ∀ (i : Nat) (u : Value), cs[i]? = some u -> c[i]? = some u)
end Go.X
namespace Go.Proofs.YtnfnaehonkbknaaGreatDoor
open Go Go.X
theorem Cqa {P : Program} {tt e : TypeId} {sz : Nat} {z : Value} {inf : TypeInfo} (hu : P.underlying tt = some (.slice e)) (hs : ∀ w, (sizeOf e).run P w = .ok sz w) (hz : ∀ w, (zeroValue e).run P w = .ok z w) (hzc : z.cells.size = sz)
  (hi : ∀ w, (typeInfo e).run P w = .ok inf w) (hby : inf.bytes <= 1024) (hby0 : 0 < inf.bytes)
  {t : Option Nat} {H₀ H : Hp} {v : Value} {n : Nat} {cs : List Value} (h : RowZ (Lex t) H₀ H v e sz n cs) {g : Nat} {ws : List Value} (hws : ws.length = sz) (hg : H g = none) (hw : ∀ w ∈ ws, one w = true) (hn : n <= 1000000) (ty : TypeId) (cb : Array Bool) (K : Next -> Hp -> Prop) (E : Value -> Hp -> Prop)
  (h' : ∀ v' H', RowZ (Lex t) H₀ H' v' e sz (n + 1) (cs ++ ws) -> (∀ x u, H x = some u -> rowB v ≠ some x -> H' x = some u) -> (∀ x, rowB v' = some x -> rowB v = some x ∨ H x = none) -> K (.value v') H') :
  wpS P (builtin .append #[tt, tt] ty cb #[v, .slice (some ⟨g, 0, none⟩) 1 1]) (H.set g (.cells ws.toArray e (0, 0))) K E := by
 obtain ⟨hlex, hrow⟩ := h
 have hcell : ∀ (j : Nat) (u : Value), ws[j]? = some u -> (H.set g (.cells ws.toArray e (0, 0))).cell ⟨g, 0 + j, none⟩ = some u := by
  intro j u hj
  rw [Nat.zero_add, cell_of (b := g) (p := true) (c := ws.toArray) (e := e) (f := (0, 0)) (by rw [Axo, if_pos rfl])]
  simpa using hj
 rcases hrow with ⟨rfl, rfl, rfl⟩ | ⟨b, c, cap, hb0, hb, rfl, hcs, hcap, hlen, hget⟩
 ·refine Ajt (P := P) hu hs hz hzc hi hby hby0 (Aj9.nil H e sz) (Hp.le_set hg) (m := 1) (by omega) id hcell hw (by omega) ty cb K E (fun v' H1 H2 hr hl => ?_)
  have hle : H.le H2 := fun x u hx => hl _ _ (hr.le _ _ hx)
  refine h' v' H2 ⟨hlex.le hle, ?_⟩ (fun x u hx _ => hle _ _ hx) ?_
  ·rcases hr with ⟨_, hn0, _⟩ | ⟨b', c', cap', hb', rfl, rfl, hs', hl', hn', hg'⟩
   ·simp at hn0
   ·exact .inr ⟨b', c', cap', hlex.gone hb', hl _ _ (by rw [Axo, if_pos rfl]), rfl, hs', hn', hl', fun i u hi => hg' i u hi⟩
  ·intro x hx
   rcases hr with ⟨_, hn0, _⟩ | ⟨b', c', cap', hb', rfl, rfl, hs', hl', hn', hg'⟩
   ·simp at hn0
   ·simp only [rowB, Option.some.injEq] at hx
    subst hx
    exact .inr hb'
 ·have hgb : g ≠ b := fun e => by rw [e, hb] at hg; cases hg
  have hD : (fun x => if x = b then none else H x : Hp) b = none := by simp
  have hH : H = Hp.set (fun x => if x = b then none else H x) b (.cells c e (0, 0)) := by
   funext x
   unfold Hp.set
   by_cases e : x = b
   ·subst e; simp [hb]
   ·simp [e]
  refine Ajt (P := P) hu hs hz hzc hi hby hby0 (H₀ := fun x => if x = b then none else H x) (H := H) (n := n) (cs := cs) (.inr ⟨b, c, cap, hD, hH, rfl, hcs, hlen, hcap, hget⟩) (Hp.le_set hg) (m := 1) (by omega) (fun _ => hg) hcell hw (by omega) ty cb K E (fun v' H1 H2 hr hl => ?_)
  have hkeep : ∀ x u, x ≠ b -> H x = some u -> H2 x = some u := fun x u hn hx => hl _ _ (hr.le _ _ (by simp only [hn, if_false]; exact hx))
  rcases hr with ⟨_, hn0, _⟩ | ⟨b', c', cap', hb', rfl, rfl, hs', hl', hn', hg'⟩
  ·simp at hn0
  ·have hb2 : H2 b' = some (true, .cells c' e (0, 0)) := hl _ _ (by rw [Axo, if_pos rfl])
   have hb'0 : H₀ b' = none := by
    by_cases e : b' = b
    ·rw [e]; exact hb0
    ·simp only [e, if_false] at hb'; exact hlex.gone hb'
   refine h' _ H2 ⟨fun x u hx => ?_, .inr ⟨b', c', cap', hb'0, hb2, rfl, hs', hn', hl', hg'⟩⟩ (fun x u hx ho => hkeep x _ (fun e => ho (by rw [e]; rfl)) hx) (fun x hx => ?_)
   ·obtain ⟨u', hu', e'⟩ := hlex x u hx
    exact ⟨u', hkeep x u' (fun e => by rw [e, hb0] at hx; cases hx) hu', e'⟩
   ·simp only [rowB, Option.some.injEq] at hx
    subst hx
    by_cases e : b' = b
    ·exact .inl (by rw [e]; rfl)
    ·simp only [e, if_false] at hb'; exact .inr hb'
end Go.Proofs.YtnfnaehonkbknaaGreatDoor
end
section
namespace Go.X
open Go
open Go.Conc (G base)
section
variable {P : Program} {main : Md} {Q : Exit -> Act -> Hp -> Prop} {a : Act} {H : Hp}
def Cjl (q : Option (Bool × Obj)) (l : Nat) (args : Array Value) (H : Hp) (K : Next -> Hp -> Prop) : Prop := match q with
 | some (_, .loop r) => args.size = r.params.size /\ K (.round l r.fn ((r.params.zip args).foldl (fun tmps (x : Tmp × Value) => tmps.setIfInBounds x.1 x.2) r.tmps) r.assign r.body) H
 | _ => False
theorem Czf {p : Bool} {r : Loop} {l : Nat} {args : Array Value} {K : Next -> Hp -> Prop} : Cjl (some (p, .loop r)) l args H K = (args.size = r.params.size /\ K (.round l r.fn ((r.params.zip args).foldl (fun tmps (x : Tmp × Value) => tmps.setIfInBounds x.1 x.2) r.tmps) r.assign r.body) H) := rfl
theorem Cy3 {l : Nat} {args : Array Value} {K : Next -> Hp -> Prop} {E : Value -> Hp -> Prop} (h : Cjl (H l) l args H K) : wpS P (Instr.yield l args) H K E := by
 unfold Cjl at h
 split at h
 ·rename_i p r hl
  unfold Instr.yield Instr.getLoop
  rw [Aqa, Aqa]
  refine ⟨p, _, hl, rfl, rfl, ?_⟩
  rw [Ak0]
  simp only [Aqe, ne_eq, h.1, not_true, if_false]
  exact h.2
 ·exact h.elim
theorem Cqq {l : Nat} {args : Array Value} {K : Next -> Hp -> Prop} {E : Value -> Hp -> Prop} (h : Cjl (H l) l args H K) : Bvl P (.func (.yield l) #[] #[]) args H K E := by
 unfold Bvl
 rw [Aqa]
 simp only [Deferred.ofValue, Aqe, invoke, Array.empty_append]
 exact Cy3 h
def rnd (l : Nat) (R : Ending -> Hp -> Prop) : Exit -> Act -> Hp -> Prop
 | .normal, a, H => a.defers = [] /\ ∃ r, H l = some (true, .loop r) /\ R (.returned (.bool true)) (H.set l (.loop { r with state := .ready, pending := none }))
 | .exit id, a, H => a.defers = [] /\ ∃ r, H l = some (true, .loop r) /\ R (.returned (.bool false)) (H.set l (.loop { r with state := .done, pending := some (.exit id) }))
 | .ret, a, H => a.defers = [] /\ ∃ r, H l = some (true, .loop r) /\ R (.returned (.bool false)) (H.set l (.loop { r with state := .done, pending := some .ret }))
 | _, _, _ => False
theorem By4 {l : Nat} {r : Loop} (h : H l = some (true, .loop r)) (jump : Option Code) (K : Value -> Hp -> Prop) (E : Value -> Hp -> Prop) (hk : K (.bool jump.isNone) (H.set l (.loop { r with state := if jump.isNone then .ready else .done, pending := jump }))) :
  wpS P (Instr.endRound l jump) H K E := by
 unfold Instr.endRound Instr.getLoop
 rw [Aqa, Aqa]
 refine ⟨true, _, h, rfl, rfl, ?_⟩
 rw [Ak0]
 simp only [Aqe, Aqa]
 exact ⟨_, h, rfl, rfl, hk⟩
theorem Bj8 {l : Nat} {r : Loop} (h : H l = some (true, .loop r)) (hr : r.state = .ready) (K : Unit -> Hp -> Prop) (E : Value -> Hp -> Prop) (hk : K () (H.set l (.loop { r with state := .busy }))) :
  wpS P (Instr.beginRound l) H K E := by
 unfold Instr.beginRound Instr.getLoop
 rw [Aqa, Aqa]
 refine ⟨true, _, h, rfl, rfl, ?_⟩
 rw [Ak0]
 simp only [Aqe, Aqa]
 refine ⟨_, h, rfl, rfl, ?_⟩
 rw [hr]
 exact hk
theorem Ayw {b c : Frame} {cs : List Frame} {Stop : Goroutine -> Hp -> Prop} {l : Nat} {r : Loop} {jump : Option Code} {a : Act} {todo : List Item} (hb : b.kind = .normal) (hl : b.roundOf = some l) (h : H l = some (true, .loop r))
  (hs : ∀ w, stepG P main (G (fat b a todo) (c :: cs)) w = (let (x, es) := (Instr.endRound l jump).runT P w #[]
   GStep.after (seen P b.fn es) <| match x with
   | .ok v w => doReturn P main (fat b a todo) (c :: cs) none v w
   | .halt _ w => .ended (.stuck "range over a function: no such loop" ((fat b a todo).pos P)) w))
  (hk : WPG P main Stop (G (c.finish (.bool jump.isNone)) cs) (H.set l (.loop { r with state := if jump.isNone then .ready else .done, pending := jump }))) : WPG P main Stop (G (fat b a todo) (c :: cs)) H := by
 refine WPG.tree (s := Instr.endRound l jump) (K := fun v H' => v = .bool jump.isNone /\ H' = H.set l (.loop { r with state := if jump.isNone then .ready else .done, pending := jump })) (E := fun _ _ => False) rfl (By4 h jump _ _ ⟨rfl, rfl⟩)
  (fun g' H' => g' = G (c.finish (.bool jump.isNone)) cs /\ H' = H.set l (.loop { r with state := if jump.isNone then .ready else .done, pending := jump })) (fun w w' H' es v hr hm hk' => ?_) (fun _ _ _ _ _ _ _ he => he.elim) ?_
 ·obtain ⟨rfl, rfl⟩ := hk'
  refine ⟨_, seen P b.fn es, ?_, fun e => mem_seen, rfl, rfl⟩
  rw [hs, hr]
  simp [doReturn, fat, hb, GStep.after, G]
 ·rintro g' H' ⟨rfl, rfl⟩
  exact hk
theorem Ckx {l : Nat} {fn : FuncId} {tmps : Array Value} {asg body : Code} {R : Ending -> Hp -> Prop}
  (h : wpX P main (some l) asg (thn (fun a H1 => ∃ r, H1 l = some (true, .loop r) /\ r.state = .ready /\ wpX P main (some l) body (rnd l R) a (H1.set l (.loop { r with state := .busy }))) fun _ _ _ => False) { tmps := tmps, defers := [] } H) :
  Runs P main (Frame.round l fn tmps asg body .normal) H R := by
 intro c cs Stop hv hp
 have he : Frame.round l fn tmps asg body .normal = fat { base fn with roundOf := some l } { tmps := tmps, defers := [] } [.code asg, .beginRound, .code body] := by
  simp [Frame.round, fat, base]
 rw [he]
 refine h { base fn with roundOf := some l } [.beginRound, .code body] (c :: cs) Stop (by simp [base]) rfl fun e a1 H1 q => ?_
 cases e with
 | normal =>
  obtain ⟨r, hl, hr, q⟩ := q
  refine WPG.tree (s := (do Instr.beginRound l; pure .skip : Sem Next)) (K := fun v H' => v = .skip /\ H' = H1.set l (.loop { r with state := .busy })) (E := fun _ _ => False) rfl (by rw [Aqa]; exact Bj8 hl hr _ _ ⟨rfl, rfl⟩)
   (fun g' H' => g' = G (fat { base fn with roundOf := some l } a1 [.code body]) (c :: cs) /\ H' = H1.set l (.loop { r with state := .busy })) (fun w w' H' es v hr' hm hk' => ?_) (fun _ _ _ _ _ _ _ he => he.elim) ?_
  ·obtain ⟨rfl, rfl⟩ := hk'
   refine ⟨_, seen P fn es, ?_, fun e => mem_seen, rfl, rfl⟩
   simp [stepG, stepG.exec, stepG.apply, fat, G, base, hr', GStep.after, Frame.finish, -Sem.runT_eq, -bind_pure_comp]
  ·rintro g' H' ⟨rfl, rfl⟩
   refine q { base fn with roundOf := some l } [] (c :: cs) Stop (by simp [base]) rfl fun e a2 H2 q2 => ?_
   cases e with
   | normal =>
    obtain ⟨_, r2, hl2, q2⟩ := q2
    refine Ayw (jump := none) rfl rfl hl2 (fun w => ?_) (hv _ _ q2)
    simp [stepG, stepG.exec, fat, G, base]
    rfl
   | exit id =>
    obtain ⟨_, r2, hl2, q2⟩ := q2
    intro k' hk'
    refine Ayw (jump := some (.exit id)) rfl rfl hl2 (fun w => ?_) (hv _ _ q2)
    simp [exitTo] at hk'
    simp [stepG, stepG.exec, fat, G, base, hk']
    rfl
   | ret =>
    obtain ⟨_, r2, hl2, q2⟩ := q2
    intro k'
    refine Ayw (jump := some .ret) rfl rfl hl2 (fun w => ?_) (hv _ _ q2)
    simp [stepG, stepG.exec, fat, G, base]
    rfl
   | goto l => exact q2.elim
   | panic ch => exact q2.elim
   | outgrown => exact q2.elim
 | exit id => exact q.elim
 | goto l => exact q.elim
 | ret => exact q.elim
 | panic ch => exact q.elim
 | outgrown => exact q.elim
def coll (r : Nat) : Deferred := { target := .collected r, args := #[] }
def behind (l r : Nat) (a : Act) (Q : Exit -> Act -> Hp -> Prop) : Ending -> Hp -> Prop
 | .returned _, H => ∃ q, H l = some (true, .loop q) /\ q.state ≠ .busy /\ (match q.pending with
  | none => Q .normal { a with defers := coll r :: a.defers } (H.set l (.loop { q with state := .exhausted }))
  | some (.exit id) => Q (.exit id) { a with defers := coll r :: a.defers } (H.set l (.loop { q with state := .exhausted }))
  | some .ret => Q .ret { a with defers := coll r :: a.defers } (H.set l (.loop { q with state := .exhausted }))
  | _ => False)
 | .panicked ch, H => Q (.panic ch) { a with defers := coll r :: a.defers } H
 | .outgrown, _ => False
theorem Cx5 {l : Nat} {r : Loop} (h : H l = some (true, .loop r)) (hr : r.state ≠ .busy) (K : Option Code -> Hp -> Prop) (E : Value -> Hp -> Prop) (hk : K r.pending (H.set l (.loop { r with state := .exhausted }))) :
  wpS P (Instr.endLoop l) H K E := by
 unfold Instr.endLoop Instr.getLoop
 rw [Aqa, Aqa]
 refine ⟨true, _, h, rfl, rfl, ?_⟩
 rw [Ak0]
 have hb : (r.state == .busy) = false := by cases hs : r.state <;> first | rfl | exact absurd hs hr
 simp only [Aqe, hb, Bool.false_eq_true, if_false, Aqa]
 exact ⟨_, h, rfl, rfl, hk⟩
theorem Bwe {f : Operand} {params : Array Tmp} {asg body : Code} {g : FuncId} {fi cap : Array Value} (hf : a.eval f = .func (.func g) fi cap)
  (hcall : ∀ (args : Array Value) (H : Hp) (K : Next -> Hp -> Prop) (E : Value -> Hp -> Prop), wpS P (callFunc g args) H K E = K (.enter g args) H)
  (h : ∀ fn r l, H r = none -> (H.set r (.deferred (some []))) l = none -> Runs P main (Frame.enter P g (fi ++ #[.func (.yield l) #[] #[]] ++ cap) .normal)
   ((H.set r (.deferred (some []))).set l (.loop { state := .ready, pending := none, fn := fn, tmps := a.tmps, params := params, assign := asg, body := body, defers := r })) (behind l r a Q)) :
  wpX P main none (.rangeFunc f params asg body) Q a H := by
 intro b k cs Stop hk hl hc
 refine .step (fun g' H' => WPG P main Stop g' H') rfl (fun w hw => ?_) fun _ _ h => h
 have h1 : wpS P (Instr.enterLoop b.fn a.tmps params asg body none) H (fun x H' => ∃ r l, x = (l, [coll r]) /\ H r = none /\ (H.set r (.deferred (some []))) l = none /\
   H' = (H.set r (.deferred (some []))).set l (.loop { state := .ready, pending := none, fn := b.fn, tmps := a.tmps, params := params, assign := asg, body := body, defers := r })) (fun _ _ => False) := by
  unfold Instr.enterLoop
  simp only [Aqa, newObj, wpS, Aqe]
  intro r hr l hl
  exact ⟨r, l, rfl, hr, hl, rfl⟩
 obtain ⟨es, w', H', hm, x, hx, hd⟩ := Ak1 _ w hw h1
 rcases hd with ⟨x, rfl, r, l, rfl, hr, hlr, rfl⟩ | ⟨v, _, hv⟩
 ·have hx0 : (Instr.enterLoop b.fn a.tmps params asg body none).runT P w #[] = (.ok (l, [coll r]) w', es) := by rw [hx #[]]; simp
  have h2 : wpS P (do let d <- resolve a.eval { callee := .value f, args := #[.const (.func (.yield l) #[] #[])], argTypes := #[] } 0; invoke d.target d.args) ((H.set r (.deferred (some []))).set l (.loop { state := .ready, pending := none, fn := b.fn, tmps := a.tmps, params := params, assign := asg, body := body, defers := r }))
    (fun x H' => x = .enter g (fi ++ #[.func (.yield l) #[] #[]] ++ cap) /\ H' = (H.set r (.deferred (some []))).set l (.loop { state := .ready, pending := none, fn := b.fn, tmps := a.tmps, params := params, assign := asg, body := body, defers := r })) (fun _ _ => False) := by
   rw [Aqa]
   simp only [resolve, hf, Deferred.ofValue, Aqe, invoke, List.map_toArray, List.map_cons, List.map_nil, eval_const]
   rw [hcall]
   exact ⟨rfl, rfl⟩
  obtain ⟨es2, w2, H2, hm2, x2, hx2, hd2⟩ := Ak1 _ w' hm.sat h2
  rcases hd2 with ⟨x2, rfl, rfl, rfl⟩ | ⟨v, _, hv⟩
  ·have hx20 : (do let d <- resolve a.eval { callee := .value f, args := #[.const (.func (.yield l) #[] #[])], argTypes := #[] } 0; invoke d.target d.args : Sem Next).runT P w' #[] = (.ok (.enter g (fi ++ #[.func (.yield l) #[] #[]] ++ cap)) w2, es2) := by rw [hx2 #[]]; simp
   refine ⟨G (Frame.enter P g (fi ++ #[.func (.yield l) #[] #[]] ++ cap) .normal) (fat b { a with defers := coll r :: a.defers } (.inRangeFunc l :: k) :: cs), w2, seen P b.fn es ++ (if b.kind == .early then #[] else seen P b.fn es2), ((H.set r (.deferred (some []))).set l (.loop { state := .ready, pending := none, fn := b.fn, tmps := a.tmps, params := params, assign := asg, body := body, defers := r })), ?_, (hm.seen b.fn).trans ?_, ?_⟩
   ·have hk' : (b.kind == CallKind.early) = false := by simpa using hk
    have hev : ∀ fr : Frame, fr.tmps = a.tmps -> fr.eval = a.eval := fun fr h9 => by
     funext x
     cases x <;> simp [Frame.eval, Act.eval, h9]
    simp [stepG, stepG.exec, stepG.apply, fat, G, hl, hx0, hev, hx20, hk', GStep.after, -Sem.runT_eq, -bind_pure_comp]
   ·have hk' : (b.kind == CallKind.early) = false := by simpa using hk
    rw [hk']
    exact hm2.seen b.fn
   ·refine h b.fn r l hr hlr _ cs Stop (fun v H3 hq => ?_) (fun ch H3 hq => ?_)
    ·obtain ⟨q, hq1, hq2, hq3⟩ := hq
     have hfin : (fat b { a with defers := coll r :: a.defers } (.inRangeFunc l :: k)).finish v = fat b { a with defers := coll r :: a.defers } (.endRangeFunc l :: k) := rfl
     rw [hfin]
     refine WPG.tree (s := Instr.endLoop l) (K := fun x H' => x = q.pending /\ H' = H3.set l (.loop { q with state := .exhausted })) (E := fun _ _ => False) rfl (Cx5 hq1 hq2 _ _ ⟨rfl, rfl⟩)
      (fun g' H' => g' = G (fat b { a with defers := coll r :: a.defers } ((q.pending.map Item.code).toList ++ k)) cs /\ H' = H3.set l (.loop { q with state := .exhausted })) (fun w w' H' es v hr' hm hk' => ?_) (fun _ _ _ _ _ _ _ he => he.elim) ?_
     ·obtain ⟨rfl, rfl⟩ := hk'
      refine ⟨_, seen P b.fn es, ?_, fun e => mem_seen, rfl, rfl⟩
      simp [stepG, stepG.exec, fat, G, hr', GStep.after, -Sem.runT_eq]
     ·rintro g' H' ⟨rfl, rfl⟩
      cases hp : q.pending with
      | none =>
       rw [hp] at hq3
       exact hc _ _ _ hq3
      | some j =>
       rw [hp] at hq3
       cases j with
       | exit id => exact hc _ _ _ hq3 k rfl
       | ret => exact hc _ _ _ hq3 k
       | _ => exact hq3.elim
    ·exact hc (.panic ch) _ _ hq _
  ·exact hv.elim
 ·exact hv.elim
theorem Dzn {r : Nat} {ds : List Deferred} (h : H r = some (true, .deferred (some ds))) (K : List Deferred -> Hp -> Prop) (E : Value -> Hp -> Prop) (hk : K ds (H.set r (.deferred none))) : wpS P (Instr.takeDeferred r) H K E := by
 unfold Instr.takeDeferred
 rw [Aqa]
 refine ⟨true, _, h, rfl, rfl, ?_⟩
 rw [Ak0]
 simp only [Aqa, Aqe]
 exact ⟨_, h, rfl, rfl, hk⟩
theorem Cve {r : Nat} {R : FrameMode -> Hp -> Prop} (h : H r = some (true, .deferred (some []))) (hk : R .returning (H.set r (.deferred none))) : DefX P main .returning (coll r) H R := by
 intro c cs Stop hm hR
 refine WPG.tree (s := Instr.takeDeferred r) (K := fun x H' => x = [] /\ H' = H.set r (.deferred none)) (E := fun _ _ => False) rfl (Dzn h _ _ ⟨rfl, rfl⟩)
  (fun g' H' => g' = G c cs /\ H' = H.set r (.deferred none)) (fun w w' H' es v hr' hm' hk' => ?_) (fun _ _ _ _ _ _ _ he => he.elim) ?_
 ·obtain ⟨rfl, rfl⟩ := hk'
  refine ⟨_, seen P c.fn es, ?_, fun e => mem_seen, rfl, rfl⟩
  simp [stepG, unwind, G, hm, coll, hr', GStep.after, -Sem.runT_eq]
  cases c; simp_all
 ·rintro g' H' ⟨rfl, rfl⟩
  have := hR _ _ hk
  rwa [<- hm] at this
theorem Cju {fn : Func} {R : Ending -> Hp -> Prop} {n : Nat} {e : Nat -> Value} {r : Nat} (h : H r = some (true, .deferred (some [])))
  (hk : wpS P (results fn (act n e [coll r]).tmps) (H.set r (.deferred none)) (fun v H' => R (.returned v) H') fun _ _ => False) : Bwy P main fn R .ret (act n e [coll r]) H :=
 Cve h hk
def Dvs (P : Program) (fn : Func) (R : Hp -> Prop) : Exit -> Act -> Hp -> Prop
 | .normal, a, H | .ret, a, H => a.defers = [] /\ wpS P (results fn a.tmps) H (fun _ H' => R H') fun _ _ => False
 | _, _, _ => False
end
end Go.X
end
