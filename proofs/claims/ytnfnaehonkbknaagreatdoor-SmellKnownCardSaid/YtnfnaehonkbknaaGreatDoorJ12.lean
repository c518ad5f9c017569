/- Texts Range Recov Iter Count Like Fork Work Flow Chan Lend WFork. -/
import Derived.Test.YtnfnaehonkbknaaGreatDoorJ05
import Derived.Test.YtnfnaehonkbknaaGreatDoorJ07
import Derived.Test.YtnfnaehonkbknaaGreatDoorJ11
import Derived.Conc.Own2
import Derived.Conc.DeferLaws
set_option linter.defProp false
set_option linter.unusedSimpArgs false
set_option linter.unusedVariables false
set_option maxRecDepth 100000
set_option maxHeartbeats 2000000
section
namespace Go.X
open Go
open Go.Conc (G base)
section
variable {P : Program} {main : Md} {Q : Exit -> Act -> Hp -> Prop} {a : Act} {H : Hp}
def Cx0 (q : Option (Bool × Obj)) (l : Nat) (args : Array Value) (H : Hp) (K : Next -> Hp -> Prop) : Prop := match q with
 | some (_, .loop r) => args.size = r.params.size /\ K (.round l r.fn ((r.params.zip args).foldl (fun tmps (x : Tmp × Value) => tmps.setIfInBounds x.1 x.2) r.tmps) r.assign r.body) H
 | _ => False
theorem Cqx {p : Bool} {r : Loop} {l : Nat} {args : Array Value} {K : Next -> Hp -> Prop} : Cx0 (some (p, .loop r)) l args H K = (args.size = r.params.size /\ K (.round l r.fn ((r.params.zip args).foldl (fun tmps (x : Tmp × Value) => tmps.setIfInBounds x.1 x.2) r.tmps) r.assign r.body) H) := rfl
theorem Cv3 {l : Nat} {args : Array Value} {K : Next -> Hp -> Prop} {E : Value -> Hp -> Prop} (h : Cx0 (H l) l args H K) : wpS P (Instr.yield l args) H K E := by
 unfold Cx0 at h
 split at h
 ·rename_i p r hl
  unfold Instr.yield Instr.getLoop
  rw [Aqa, Aqa]
  refine ⟨p, _, hl, rfl, rfl, ?_⟩
  rw [Akg]
  simp only [Aqd, ne_eq, h.1, not_true, if_false]
  exact h.2
 ·exact h.elim
theorem Bw9 {l : Nat} {args : Array Value} {K : Next -> Hp -> Prop} {E : Value -> Hp -> Prop} (h : Cx0 (H l) l args H K) : Bj0 P (.func (.yield l) #[] #[]) args H K E := by
 unfold Bj0
 rw [Aqa]
 simp only [Deferred.ofValue, Aqd, invoke, Array.empty_append]
 exact Cv3 h
def rnd (l : Nat) (R : Ending -> Hp -> Prop) : Exit -> Act -> Hp -> Prop
 | .normal, a, H => a.defers = [] /\ ∃ r, H l = some (true, .loop r) /\ R (.returned (.bool true)) (H.set l (.loop { r with state := .ready, pending := none }))
 | .exit id, a, H => a.defers = [] /\ ∃ r, H l = some (true, .loop r) /\ R (.returned (.bool false)) (H.set l (.loop { r with state := .done, pending := some (.exit id) }))
 | .ret, a, H => a.defers = [] /\ ∃ r, H l = some (true, .loop r) /\ R (.returned (.bool false)) (H.set l (.loop { r with state := .done, pending := some .ret }))
 | _, _, _ => False
theorem Bwi {l : Nat} {r : Loop} (h : H l = some (true, .loop r)) (jump : Option Code) (K : Value -> Hp -> Prop) (E : Value -> Hp -> Prop) (hk : K (.bool jump.isNone) (H.set l (.loop { r with state := if jump.isNone then .ready else .done, pending := jump }))) :
  wpS P (Instr.endRound l jump) H K E := by
 unfold Instr.endRound Instr.getLoop
 rw [Aqa, Aqa]
 refine ⟨true, _, h, rfl, rfl, ?_⟩
 rw [Akg]
 simp only [Aqd, Aqa]
 exact ⟨_, h, rfl, rfl, hk⟩
theorem Bzs {l : Nat} {r : Loop} (h : H l = some (true, .loop r)) (hr : r.state = .ready) (K : Unit -> Hp -> Prop) (E : Value -> Hp -> Prop) (hk : K () (H.set l (.loop { r with state := .busy }))) :
  wpS P (Instr.beginRound l) H K E := by
 unfold Instr.beginRound Instr.getLoop
 rw [Aqa, Aqa]
 refine ⟨true, _, h, rfl, rfl, ?_⟩
 rw [Akg]
 simp only [Aqd, Aqa]
 refine ⟨_, h, rfl, rfl, ?_⟩
 rw [hr]
 exact hk
theorem Awr {b c : Frame} {cs : List Frame} {Stop : Goroutine -> Hp -> Prop} {l : Nat} {r : Loop} {jump : Option Code} {a : Act} {todo : List Item} (hb : b.kind = .normal) (hl : b.roundOf = some l) (h : H l = some (true, .loop r))
  (hs : ∀ w, stepG P main (G (fat b a todo) (c :: cs)) w = (let (x, es) := (Instr.endRound l jump).runT P w #[]
   GStep.after (seen P b.fn es) <| match x with
   | .ok v w => doReturn P main (fat b a todo) (c :: cs) none v w
   | .halt _ w => .ended (.stuck "range over a function: no such loop" ((fat b a todo).pos P)) w))
  (hk : WPG P main Stop (G (c.finish (.bool jump.isNone)) cs) (H.set l (.loop { r with state := if jump.isNone then .ready else .done, pending := jump }))) : WPG P main Stop (G (fat b a todo) (c :: cs)) H := by
 refine WPG.tree (s := Instr.endRound l jump) (K := fun v H' => v = .bool jump.isNone /\ H' = H.set l (.loop { r with state := if jump.isNone then .ready else .done, pending := jump })) (E := fun _ _ => False) rfl (Bwi h jump _ _ ⟨rfl, rfl⟩)
  (fun g' H' => g' = G (c.finish (.bool jump.isNone)) cs /\ H' = H.set l (.loop { r with state := if jump.isNone then .ready else .done, pending := jump })) (fun w w' H' es v hr hm hk' => ?_) (fun _ _ _ _ _ _ _ he => he.elim) ?_
 ·obtain ⟨rfl, rfl⟩ := hk'
  refine ⟨_, seen P b.fn es, ?_, fun e => mem_seen, rfl, rfl⟩
  rw [hs, hr]
  simp [doReturn, fat, hb, GStep.after, G]
 ·rintro g' H' ⟨rfl, rfl⟩
  exact hk
theorem Cz5 {l : Nat} {fn : FuncId} {tmps : Array Value} {asg body : Code} {R : Ending -> Hp -> Prop}
  (h : wpX P main (some l) asg (thn (fun a H1 => ∃ r, H1 l = some (true, .loop r) /\ r.state = .ready /\ wpX P main (some l) body (rnd l R) a (H1.set l (.loop { r with state := .busy }))) fun _ _ _ => False) { tmps := tmps, defers := [] } H) :
  Runs P main (Frame.round l fn tmps asg body .normal) H R := by
 intro c cs Stop hv hp
 have he : Frame.round l fn tmps asg body .normal = fat { base fn with roundOf := some l } { tmps := tmps, defers := [] } [.code asg, .beginRound, .code body] := by
  simp [Frame.round, fat, base]
 rw [he]
 refine h { base fn with roundOf := some l } [.beginRound, .code body] (c :: cs) Stop (by simp [base]) rfl fun e a1 H1 q => ?_
 cases e with
 | normal =>
  obtain ⟨r, hl, hr, q⟩ := q
  refine WPG.tree (s := (do Instr.beginRound l; pure .skip : Sem Next)) (K := fun v H' => v = .skip /\ H' = H1.set l (.loop { r with state := .busy })) (E := fun _ _ => False) rfl (by rw [Aqa]; exact Bzs hl hr _ _ ⟨rfl, rfl⟩)
   (fun g' H' => g' = G (fat { base fn with roundOf := some l } a1 [.code body]) (c :: cs) /\ H' = H1.set l (.loop { r with state := .busy })) (fun w w' H' es v hr' hm hk' => ?_) (fun _ _ _ _ _ _ _ he => he.elim) ?_
  ·obtain ⟨rfl, rfl⟩ := hk'
   refine ⟨_, seen P fn es, ?_, fun e => mem_seen, rfl, rfl⟩
   simp [stepG, stepG.exec, stepG.apply, fat, G, base, hr', GStep.after, Frame.finish, -Sem.runT_eq, -bind_pure_comp]
  ·rintro g' H' ⟨rfl, rfl⟩
   refine q { base fn with roundOf := some l } [] (c :: cs) Stop (by simp [base]) rfl fun e a2 H2 q2 => ?_
   cases e with
   | normal =>
    obtain ⟨_, r2, hl2, q2⟩ := q2
    refine Awr (jump := none) rfl rfl hl2 (fun w => ?_) (hv _ _ q2)
    simp [stepG, stepG.exec, fat, G, base]
    rfl
   | exit id =>
    obtain ⟨_, r2, hl2, q2⟩ := q2
    intro k' hk'
    refine Awr (jump := some (.exit id)) rfl rfl hl2 (fun w => ?_) (hv _ _ q2)
    simp [exitTo] at hk'
    simp [stepG, stepG.exec, fat, G, base, hk']
    rfl
   | ret =>
    obtain ⟨_, r2, hl2, q2⟩ := q2
    intro k'
    refine Awr (jump := some .ret) rfl rfl hl2 (fun w => ?_) (hv _ _ q2)
    simp [stepG, stepG.exec, fat, G, base]
    rfl
   | goto l => exact q2.elim
   | panic ch => exact q2.elim
   | outgrown => exact q2.elim
 | exit id => exact q.elim
 | goto l => exact q.elim
 | ret => exact q.elim
 | panic ch => exact q.elim
 | outgrown => exact q.elim
def coll (r : Nat) : Deferred := { target := .collected r, args := #[] }
def behind (l r : Nat) (a : Act) (Q : Exit -> Act -> Hp -> Prop) : Ending -> Hp -> Prop
 | .returned _, H => ∃ q, H l = some (true, .loop q) /\ q.state ≠ .busy /\ (match q.pending with
  | none => Q .normal { a with defers := coll r :: a.defers } (H.set l (.loop { q with state := .exhausted }))
  | some (.exit id) => Q (.exit id) { a with defers := coll r :: a.defers } (H.set l (.loop { q with state := .exhausted }))
  | some .ret => Q .ret { a with defers := coll r :: a.defers } (H.set l (.loop { q with state := .exhausted }))
  | _ => False)
 | .panicked ch, H => Q (.panic ch) { a with defers := coll r :: a.defers } H
 | .outgrown, _ => False
theorem Cqm {l : Nat} {r : Loop} (h : H l = some (true, .loop r)) (hr : r.state ≠ .busy) (K : Option Code -> Hp -> Prop) (E : Value -> Hp -> Prop) (hk : K r.pending (H.set l (.loop { r with state := .exhausted }))) :
  wpS P (Instr.endLoop l) H K E := by
 unfold Instr.endLoop Instr.getLoop
 rw [Aqa, Aqa]
 refine ⟨true, _, h, rfl, rfl, ?_⟩
 rw [Akg]
 have hb : (r.state == .busy) = false := by cases hs : r.state <;> first | rfl | exact absurd hs hr
 simp only [Aqd, hb, Bool.false_eq_true, if_false, Aqa]
 exact ⟨_, h, rfl, rfl, hk⟩
theorem Bks {f : Operand} {params : Array Tmp} {asg body : Code} {g : FuncId} {fi cap : Array Value} (hf : a.eval f = .func (.func g) fi cap)
  (hcall : ∀ (args : Array Value) (H : Hp) (K : Next -> Hp -> Prop) (E : Value -> Hp -> Prop), wpS P (callFunc g args) H K E = K (.enter g args) H)
  (h : ∀ fn r l, H r = none -> (H.set r (.deferred (some []))) l = none -> Runs P main (Frame.enter P g (fi ++ #[.func (.yield l) #[] #[]] ++ cap) .normal)
   ((H.set r (.deferred (some []))).set l (.loop { state := .ready, pending := none, fn := fn, tmps := a.tmps, params := params, assign := asg, body := body, defers := r })) (behind l r a Q)) :
  wpX P main none (.rangeFunc f params asg body) Q a H := by
 intro b k cs Stop hk hl hc
 refine .step (fun g' H' => WPG P main Stop g' H') rfl (fun w hw => ?_) fun _ _ h => h
 have h1 : wpS P (Instr.enterLoop b.fn a.tmps params asg body none) H (fun x H' => ∃ r l, x = (l, [coll r]) /\ H r = none /\ (H.set r (.deferred (some []))) l = none /\
   H' = (H.set r (.deferred (some []))).set l (.loop { state := .ready, pending := none, fn := b.fn, tmps := a.tmps, params := params, assign := asg, body := body, defers := r })) (fun _ _ => False) := by
  unfold Instr.enterLoop
  simp only [Aqa, newObj, wpS, Aqd]
  intro r hr l hl
  exact ⟨r, l, rfl, hr, hl, rfl⟩
 obtain ⟨es, w', H', hm, x, hx, hd⟩ := Akh _ w hw h1
 rcases hd with ⟨x, rfl, r, l, rfl, hr, hlr, rfl⟩ | ⟨v, _, hv⟩
 ·have hx0 : (Instr.enterLoop b.fn a.tmps params asg body none).runT P w #[] = (.ok (l, [coll r]) w', es) := by rw [hx #[]]; simp
  have h2 : wpS P (do let d <- resolve a.eval { callee := .value f, args := #[.const (.func (.yield l) #[] #[])], argTypes := #[] } 0; invoke d.target d.args) ((H.set r (.deferred (some []))).set l (.loop { state := .ready, pending := none, fn := b.fn, tmps := a.tmps, params := params, assign := asg, body := body, defers := r }))
    (fun x H' => x = .enter g (fi ++ #[.func (.yield l) #[] #[]] ++ cap) /\ H' = (H.set r (.deferred (some []))).set l (.loop { state := .ready, pending := none, fn := b.fn, tmps := a.tmps, params := params, assign := asg, body := body, defers := r })) (fun _ _ => False) := by
   rw [Aqa]
   simp only [resolve, hf, Deferred.ofValue, Aqd, invoke, List.map_toArray, List.map_cons, List.map_nil, eval_const]
   rw [hcall]
   exact ⟨rfl, rfl⟩
  obtain ⟨es2, w2, H2, hm2, x2, hx2, hd2⟩ := Akh _ w' hm.sat h2
  rcases hd2 with ⟨x2, rfl, rfl, rfl⟩ | ⟨v, _, hv⟩
  ·have hx20 : (do let d <- resolve a.eval { callee := .value f, args := #[.const (.func (.yield l) #[] #[])], argTypes := #[] } 0; invoke d.target d.args : Sem Next).runT P w' #[] = (.ok (.enter g (fi ++ #[.func (.yield l) #[] #[]] ++ cap)) w2, es2) := by rw [hx2 #[]]; simp
   refine ⟨G (Frame.enter P g (fi ++ #[.func (.yield l) #[] #[]] ++ cap) .normal) (fat b { a with defers := coll r :: a.defers } (.inRangeFunc l :: k) :: cs), w2, seen P b.fn es ++ (if b.kind == .early then #[] else seen P b.fn es2), ((H.set r (.deferred (some []))).set l (.loop { state := .ready, pending := none, fn := b.fn, tmps := a.tmps, params := params, assign := asg, body := body, defers := r })), ?_, (hm.seen b.fn).trans ?_, ?_⟩
   ·have hk' : (b.kind == CallKind.early) = false := by simpa using hk
    have hev : ∀ fr : Frame, fr.tmps = a.tmps -> fr.eval = a.eval := fun fr h9 => by
     funext x
     cases x <;> simp [Frame.eval, Act.eval, h9]
    simp [stepG, stepG.exec, stepG.apply, fat, G, hl, hx0, hev, hx20, hk', GStep.after, -Sem.runT_eq, -bind_pure_comp]
   ·have hk' : (b.kind == CallKind.early) = false := by simpa using hk
    rw [hk']
    exact hm2.seen b.fn
   ·refine h b.fn r l hr hlr _ cs Stop (fun v H3 hq => ?_) (fun ch H3 hq => ?_)
    ·obtain ⟨q, hq1, hq2, hq3⟩ := hq
     have hfin : (fat b { a with defers := coll r :: a.defers } (.inRangeFunc l :: k)).finish v = fat b { a with defers := coll r :: a.defers } (.endRangeFunc l :: k) := rfl
     rw [hfin]
     refine WPG.tree (s := Instr.endLoop l) (K := fun x H' => x = q.pending /\ H' = H3.set l (.loop { q with state := .exhausted })) (E := fun _ _ => False) rfl (Cqm hq1 hq2 _ _ ⟨rfl, rfl⟩)
      (fun g' H' => g' = G (fat b { a with defers := coll r :: a.defers } ((q.pending.map Item.code).toList ++ k)) cs /\ H' = H3.set l (.loop { q with state := .exhausted })) (fun w w' H' es v hr' hm hk' => ?_) (fun _ _ _ _ _ _ _ he => he.elim) ?_
     ·obtain ⟨rfl, rfl⟩ := hk'
      refine ⟨_, seen P b.fn es, ?_, fun e => mem_seen, rfl, rfl⟩
      simp [stepG, stepG.exec, fat, G, hr', GStep.after, -Sem.runT_eq]
     ·rintro g' H' ⟨rfl, rfl⟩
      cases hp : q.pending with
      | none =>
       rw [hp] at hq3
       exact hc _ _ _ hq3
      | some j =>
       rw [hp] at hq3
       cases j with
       | exit id => exact hc _ _ _ hq3 k rfl
       | ret => exact hc _ _ _ hq3 k
       | _ => exact hq3.elim
    ·exact hc (.panic ch) _ _ hq _
  ·exact hv.elim
 ·exact hv.elim
theorem Dqg {r : Nat} {ds : List Deferred} (h : H r = some (true, .deferred (some ds))) (K : List Deferred -> Hp -> Prop) (E : Value -> Hp -> Prop) (hk : K ds (H.set r (.deferred none))) : wpS P (Instr.takeDeferred r) H K E := by
 unfold Instr.takeDeferred
 rw [Aqa]
 refine ⟨true, _, h, rfl, rfl, ?_⟩
 rw [Akg]
 simp only [Aqa, Aqd]
 exact ⟨_, h, rfl, rfl, hk⟩
theorem Cjk {r : Nat} {R : FrameMode -> Hp -> Prop} (h : H r = some (true, .deferred (some []))) (hk : R .returning (H.set r (.deferred none))) : DefX P main .returning (coll r) H R := by
 intro c cs Stop hm hR
 refine WPG.tree (s := Instr.takeDeferred r) (K := fun x H' => x = [] /\ H' = H.set r (.deferred none)) (E := fun _ _ => False) rfl (Dqg h _ _ ⟨rfl, rfl⟩)
  (fun g' H' => g' = G c cs /\ H' = H.set r (.deferred none)) (fun w w' H' es v hr' hm' hk' => ?_) (fun _ _ _ _ _ _ _ he => he.elim) ?_
 ·obtain ⟨rfl, rfl⟩ := hk'
  refine ⟨_, seen P c.fn es, ?_, fun e => mem_seen, rfl, rfl⟩
  simp [stepG, unwind, G, hm, coll, hr', GStep.after, -Sem.runT_eq]
  cases c; simp_all
 ·rintro g' H' ⟨rfl, rfl⟩
  have := hR _ _ hk
  rwa [<- hm] at this
theorem Cx7 {fn : Func} {R : Ending -> Hp -> Prop} {n : Nat} {e : Nat -> Value} {r : Nat} (h : H r = some (true, .deferred (some [])))
  (hk : wpS P (results fn (act n e [coll r]).tmps) (H.set r (.deferred none)) (fun v H' => R (.returned v) H') fun _ _ => False) : Bva P main fn R .ret (act n e [coll r]) H :=
 Cjk h hk
def Djc (P : Program) (fn : Func) (R : Hp -> Prop) : Exit -> Act -> Hp -> Prop
 | .normal, a, H | .ret, a, H => a.defers = [] /\ wpS P (results fn a.tmps) H (fun _ H' => R H') fun _ _ => False
 | _, _, _ => False
end
end Go.X
end
section
namespace Go.X
open Go
open Go.Conc (G base)
section
variable {P : Program} {main : Md} {lp : Option Nat} {Q : Exit -> Act -> Hp -> Prop} {a : Act} {H : Hp}
theorem Bk0 {f : FuncId} {fn : Func} {id : Nat} {rest : List Oper} {dst : Option Tmp} {ats : Array TypeId} {ty : TypeId} {pos : String} {af : Array Edge} {y : Code} {args cap : Array Value} {R : FrameMode -> Hp -> Prop} {m : FrameMode} {v : Value}
  (hf : P.funcs[f]? = some fn) (hb : fn.body = some (.seq (.region id (⟨dst, .call ⟨.builtin .recover, #[], ats⟩, ty, pos, af, none⟩ :: rest).toArray false) y))
  (hcall : ∀ (args : Array Value) (H : Hp) (K : Next -> Hp -> Prop) (E : Value -> Hp -> Prop), wpS P (callFunc f args) H K E = K (.enter f args) H)
  (hm : m = .returning /\ v = .nilIface ∨ m = .panicking [{ v := v, recovered := false }])
  (h : ∀ K : Act -> Hp -> Prop, (∀ a' H', wpX P main none y (Djc P fn (R .returning)) a' H' -> K a' H') ->
   runL P main none (dst :: rest.map (·.dst)) (only K) rest (Act.put { tmps := (args ++ cap) ++ Array.replicate (fn.ntmps - (args ++ cap).size) undef, defers := [] } dst v) H) :
  DefX P main m { target := .fn (.func f) cap, args := args } H R := by
 intro fr cs Stop hmode hR
 have h2 : wpS P (invoke (.fn (.func f) cap) args) H (fun x H' => x = .enter f (args ++ cap) /\ H' = H) (fun _ _ => False) := by
  simp only [invoke]
  rw [hcall]
  exact ⟨rfl, rfl⟩
 refine WPG.tree (s := invoke (.fn (.func f) cap) args) rfl h2 (fun g' H' => g' = G (Frame.enter P f (args ++ cap) .deferred) (fr :: cs) /\ H' = H) (fun w w' H' es v hr' hm' hk' => ?_) (fun _ _ _ _ _ _ _ he => he.elim) ?_
 ·obtain ⟨rfl, rfl⟩ := hk'
  refine ⟨_, seen P fr.fn es, ?_, fun e => mem_seen, rfl, rfl⟩
  rcases hm with ⟨hm, _⟩ | hm
  ·rw [hm] at hmode
   simp [stepG, unwind, callDeferred, G, hmode, hr', GStep.after, -Sem.runT_eq]
   cases fr; simp_all
  ·rw [hm] at hmode
   simp [stepG, unwind, callDeferred, G, hmode, hr', GStep.after, -Sem.runT_eq]
   cases fr; simp_all
 ·rintro g' H' ⟨rfl, rfl⟩
  have he : Frame.enter P f (args ++ cap) .deferred = fat { base f with kind := .deferred } { tmps := (args ++ cap) ++ Array.replicate (fn.ntmps - (args ++ cap).size) undef, defers := [] } [.code (.seq (.region id (⟨dst, .call ⟨.builtin .recover, #[], ats⟩, ty, pos, af, none⟩ :: rest).toArray false) y)] := by
   simp [Frame.enter, fat, hf, hb, base]; rfl
  rw [he]
  generalize ({ tmps := (args ++ cap) ++ Array.replicate (fn.ntmps - (args ++ cap).size) undef, defers := [] } : Act) = a0 at h ⊢
  clear he h2
  generalize ho : (⟨dst, .call ⟨.builtin .recover, #[], ats⟩, ty, pos, af, none⟩ : Oper) = o at *
  have hrun := h _ (fun _ _ h => h)
  have hX : runX P main none (o :: rest).toArray (only fun a' H' => wpX P main none y (Djc P fn (R .returning)) a' H') (List.range' 1 rest.length) (a0.put dst v) H' := by
   refine Awc (ops := (o :: rest).toArray) rest 1 _ _ (by simp) ?_
   have : (o :: rest).toArray.toList.map (·.dst) = dst :: rest.map (·.dst) := by simp [<- ho]
   rw [this]
   exact hrun
  clear hrun h
  have key : ∀ fr' : Frame, (fr' = fr /\ fr.mode = .returning ∨ fr' = { fr with mode := .panicking [{ v := v, recovered := true }] }) ->
    WPG P main Stop (G (fat { base f with kind := .deferred } (a0.put dst v) (.inRegion (o :: rest).toArray (List.range' 1 rest.length) :: [.code y])) (fr' :: cs)) H' := by
   intro fr' hfr
   have hret : ∀ (a' : Act) (H' : Hp) (k' : List Item), a'.defers = [] -> wpS P (results fn a'.tmps) H' (fun _ H' => R .returning H') (fun _ _ => False) -> WPG P main Stop (G { fat { base f with kind := .deferred } a' k' with mode := .returning } (fr' :: cs)) H' := fun a' H' k' hd hq => by
    refine WPG.tree rfl hq (fun g' H' => g' = G { fr with mode := .returning } cs /\ R .returning H') (fun w w' H' es v hr' hm' hk' => ?_) (fun _ _ _ _ _ _ _ he => he.elim) ?_
    ·refine ⟨_, seen P f es, ?_, fun e => mem_seen, rfl, hk'⟩
     rcases hfr with ⟨rfl, hfm⟩ | rfl
     ·simp [stepG, unwind, doReturn, fat, G, base, hd, hf, hr', hfm, GStep.after, -Sem.runT_eq]
      cases fr'; simp_all
     ·simp [stepG, unwind, doReturn, fat, G, base, hd, hf, hr', GStep.after, -Sem.runT_eq]
    ·rintro g' H' ⟨rfl, hq⟩
     exact hR _ _ hq
   refine Ak3 hX { base f with kind := .deferred } [.code y] (fr' :: cs) Stop (by simp [base]) rfl fun e a' H' q => ?_
   cases e with
   | normal =>
    refine q { base f with kind := .deferred } [] (fr' :: cs) Stop (by simp [base]) rfl fun e a' H' q => ?_
    cases e with
    | normal => exact .ctl (g' := G { fat { base f with kind := .deferred } a' [] with mode := .returning } (fr' :: cs)) rfl (fun w => by simp [G, stepG, stepG.exec, fat, base]; rfl) (hret a' H' _ q.1 q.2)
    | ret => exact fun k' => .ctl (g' := G { fat { base f with kind := .deferred } a' (.code .ret :: k') with mode := .returning } (fr' :: cs)) rfl (fun w => by simp [G, stepG, stepG.exec, fat, base]; rfl) (hret a' H' _ q.1 q.2)
    | panic ch => exact q.elim
    | exit id => exact q.elim
    | goto l => exact q.elim
    | outgrown => exact q.elim
   | ret => exact q.elim
   | panic ch => exact q.elim
   | exit id => exact q.elim
   | goto l => exact q.elim
   | outgrown => exact q.elim
  refine .ctl (g' := G (fat { base f with kind := .deferred } a0 (.code (.region id (o :: rest).toArray false) :: .code y :: [])) (fr :: cs)) rfl (fun w => by simp [G, stepG, stepG.exec, fat]) ?_
  refine .ctl (g' := G (fat { base f with kind := .deferred } a0 (.inRegion (o :: rest).toArray (List.range (o :: rest).toArray.size) :: .code y :: [])) (fr :: cs)) rfl (fun w => by simp [G, stepG, stepG.exec, fat]) ?_
  have hrange : List.range (o :: rest).toArray.size = 0 :: List.range' 1 rest.length := by
   rw [List.range_eq_range']
   simp [List.range'_succ]
  rw [hrange]
  have ho0 : (o :: rest).toArray[0]? = some o := by simp
  have hwant : Region.wanted o (yielded (o :: rest).toArray a0.tmps) = true := by rw [<- ho]; rfl
  have hex : ∀ ρ, execOp ρ o = pure .recover := fun ρ => by rw [<- ho]; rfl
  have hfin : ∀ u, (fat { base f with kind := .deferred } a0 (.inRegion (o :: rest).toArray (0 :: List.range' 1 rest.length) :: [.code y])).finish u = fat { base f with kind := .deferred } (a0.put dst u) (.inRegion (o :: rest).toArray (List.range' 1 rest.length) :: [.code y]) := fun u => by
   rw [Axx, ho0, <- ho]; rfl
  have hdr : (default : Frame).roundOf = none := rfl
  rcases hm with ⟨hm, hv⟩ | hm
  ·rw [hm] at hmode
   refine .step (fun g' H'' => g' = G (fat { base f with kind := .deferred } (a0.put dst v) (.inRegion (o :: rest).toArray (List.range' 1 rest.length) :: [.code y])) (fr :: cs) /\ H'' = H') rfl (fun w hw => ⟨_, w, seen P f #[], H', ?_, (Moves.refl hw).seen f, rfl, rfl⟩) ?_
   ·rw [stepG_op ho0 hwant (.inl rfl), hex, hv, <- hfin]
    simp [stepG.apply, G, fat, base, tryRecover, hmode, hdr, GStep.after]
   ·rintro _ _ ⟨rfl, rfl⟩
    exact key fr (.inl ⟨rfl, hmode⟩)
  ·rw [hm] at hmode
   refine .step (fun g' H'' => g' = G (fat { base f with kind := .deferred } (a0.put dst v) (.inRegion (o :: rest).toArray (List.range' 1 rest.length) :: [.code y])) ({ fr with mode := .panicking [{ v := v, recovered := true }] } :: cs) /\ H'' = H') rfl (fun w hw => ⟨_, w, seen P f #[], H', ?_, (Moves.refl hw).seen f, rfl, rfl⟩) ?_
   ·rw [stepG_op ho0 hwant (.inl rfl), hex, <- hfin]
    simp [stepG.apply, G, fat, base, tryRecover, hmode, hdr, GStep.after]
   ·rintro _ _ ⟨rfl, rfl⟩
    exact key _ (.inr rfl)
end
end Go.X
end
section
namespace Go.X
open Go
theorem Aj1 : Value.nilFunc.cells = #[.nilFunc] := rfl
theorem cells_func (f : Fn) (a b : Array Value) : (Value.func f a b).cells = #[.func f a b] := rfl
def Ajd (P : Program) (main : Md) (v : Value) (args : Array Value) (H : Hp) (R : Ending -> Hp -> Prop) : Prop :=
 ∀ (K : Next -> Hp -> Prop) (E : Value -> Hp -> Prop), (∀ f ar H', Runs P main (Frame.enter P f ar .normal) H' R -> K (.enter f ar) H') ->
  (∀ l f tmps ar body H', Runs P main (Frame.round l f tmps ar body .normal) H' R -> K (.round l f tmps ar body) H') -> Bj0 P v args H K E
theorem Ajd.mono {P : Program} {main : Md} {v : Value} {args : Array Value} {H : Hp} {R R' : Ending -> Hp -> Prop} (h : Ajd P main v args H R) (hr : ∀ e H', R e H' -> R' e H') : Ajd P main v args H R' :=
 fun K E h1 h2 => h K E (fun f ar H' x => h1 f ar H' (x.mono hr)) fun l f tmps ar body H' x => h2 l f tmps ar body H' (x.mono hr)
theorem Ajd.use {P : Program} {main : Md} {lp : Option Nat} {v : Value} {args : Array Value} {H : Hp} {R : Ending -> Hp -> Prop} {o : Oper} {a : Act} {next : Act -> Hp -> Prop} {Q : Exit -> Act -> Hp -> Prop} {E : Value -> Hp -> Prop}
  (h : Ajd P main v args H R) (hk : ∀ e H', R e H' -> Cyz next Q o.dst a e H') : Bj0 P v args H (Avw P main lp o a next Q) E := by
 refine h _ _ (fun f ar H' hr => ?_) (fun l f tmps ar body H' hr => ?_)
 ·rw [Ajt]
  exact hr.mono hk
 ·have hx : Avw P main lp o a next Q (.round l f tmps ar body) H' = Runs P main (Frame.round l f tmps ar body .normal) H' (Cyz next Q o.dst a) := by
   unfold Avw
   congr 1
  rw [hx]
  exact hr.mono hk
def Bvg (P : Program) (v : Value) (args : Array Value) (H : Hp) (K : Next -> Hp -> Prop) (E : Value -> Hp -> Prop) : Prop := wpS P (Deferred.ofValue v args) H (fun x H' => K (.defer x) H') E
theorem Ckh {P : Program} {H : Hp} (a : Act) (d : Option Tmp) (ty : TypeId) (pos : String) (af : Array Edge) (g : Option (Nat × Bool)) (K : Next -> Hp -> Prop) (E : Value -> Hp -> Prop) {t : Tmp} {args : Array Operand} {ats : Array TypeId} :
 wpS P (execOp a.eval ⟨d, .defer ⟨.value (.tmp t), args, ats⟩, ty, pos, af, g⟩) H K E = Bvg P (a.eval (.tmp t)) (args.map a.eval) H K E := Cq6 _ _ _ _ _ _ _ _ _
theorem Byh {P : Program} {H : Hp} (f : FuncId) (cap args : Array Value) (K : Next -> Hp -> Prop) (E : Value -> Hp -> Prop) : Bvg P (.func (.func f) #[] cap) args H K E = K (.defer { target := .fn (.func f) cap, args := args }) H := by
 simp [Bvg, Deferred.ofValue, Aqd]
@[congr] theorem deferK_congr {P : Program} {c c' : Value} {args args' : Array Value} {K : Next -> Hp -> Prop} {E : Value -> Hp -> Prop} {H H' : Hp} (hc : c = c') (ha : args = args') (hH : H = H') : Bvg P c args H K E = Bvg P c' args' H' K E := by subst hc ha hH; rfl
theorem Bqn {P : Program} {main : Md} {o : Oper} {n : Nat} {e : Nat -> Value} {ds : List Deferred} {H : Hp} {K : Act -> Hp -> Prop} {Q : Exit -> Act -> Hp -> Prop} (d : Deferred) : Avw P main none o (act n e ds) K Q (.defer d) H = K ((act n e (d :: ds)).put o.dst undef) H := by
 simp [Avw]; rfl
structure Cjj (P : Program) (main : Md) (y : Value) (S : Nat -> Prop) (arg : Hp -> Value -> List Int -> Prop) (A : List Int -> Prop) (T : Bool -> List (List Int) -> Hp -> Prop) : Prop where
 keep : ∀ t L H H', T t L H -> (∀ b x, S b -> H b = some x -> H' b = some x) -> T t L H'
 ex : ∀ t L H b, T t L H -> S b -> H b ≠ none
 call : ∀ L H v l, T true L H -> arg H v l -> A l -> Ajd P main y #[v] H fun e H' => ∃ t, e = .returned (.bool t) /\ T t (L ++ [l]) H' /\ ∀ b x, ¬ S b -> H b = some x -> H' b = some x
end Go.X
namespace Go.Proofs.YtnfnaehonkbknaaGreatDoor
open Go Go.X
end Go.Proofs.YtnfnaehonkbknaaGreatDoor
end
section
namespace Go.Proofs.YtnfnaehonkbknaaGreatDoor
open Go Go.X
theorem Bjl {P : Program} {main : Md} {lp : Option Nat} {c : Code} {Q : Exit -> Act -> Hp -> Prop} {n : Nat} {e : Nat -> Value} {ds : List Deferred} {H : Hp} (p : (Nat -> Value) -> Prop) (hp : p e) (h : ∀ e, p e -> wpX P main lp c Q (act n e ds) H) : wpX P main lp c Q (act n e ds) H := h e hp
theorem Cjh {P : Program} {main : Md} {Q : Exit -> Act -> Hp -> Prop} {n : Nat} {e : Nat -> Value} {ds : List Deferred} {H : Hp} {f : Operand} {t : Nat} {asg body : Code} {g : FuncId} {fi cap : Array Value} (hf : (act n e ds).eval f = .func (.func g) fi cap) (ht : t < n)
  (hcall : ∀ (args : Array Value) (H : Hp) (K : Next -> Hp -> Prop) (E : Value -> Hp -> Prop), wpS P (callFunc g args) H K E = K (.enter g args) H)
  (h : ∀ r l lo, H r = none -> (H.set r (.deferred (some []))) l = none -> lo.state = .ready -> lo.pending = none ->
   (∀ H v R, H l = some (true, .loop lo) -> wpX P main (some l) asg (thn (fun a H1 => H1 l = some (true, .loop lo) /\ wpX P main (some l) body (rnd l R) a (H1.set l (.loop { lo with state := .busy }))) fun _ _ _ => False) (act n (upd e t v) []) H -> Ajd P main (.func (.yield l) #[] #[]) #[v] H R) ->
   Runs P main (Frame.enter P g (fi ++ #[.func (.yield l) #[] #[]] ++ cap) .normal) ((H.set r (.deferred (some []))).set l (.loop lo)) (behind l r (act n e ds) Q)) :
  wpX P main none (.rangeFunc f #[t] asg body) Q (act n e ds) H := by
 refine Bks hf hcall fun fn r l hr hl => ?_
 refine h r l _ hr hl rfl rfl fun H' v R hl' hw => ?_
 intro K E hK1 hK2
 refine Bw9 ?_
 rw [hl', Cqx]
 refine ⟨rfl, hK2 _ _ _ _ _ _ (Cz5 ?_)⟩
 have he : (((#[t] : Array Tmp).zip #[v]).foldl (fun tmps (x : Tmp × Value) => tmps.setIfInBounds x.1 x.2) (act n e ds).tmps) = (act n (upd e t v) []).tmps := by
  have := congrArg Act.tmps (Aq0 (n := n) (e := e) (ds := ds) (v := v) ht)
  simpa [Act.put, act] using this
 have he2 : ({ tmps := ((#[t] : Array Tmp).zip #[v]).foldl (fun tmps (x : Tmp × Value) => tmps.setIfInBounds x.1 x.2) (act n e ds).tmps, defers := [] } : Act) = act n (upd e t v) [] := by
  rw [he]; rfl
 rw [he2]
 refine Az1 hw fun e' a' H'' q => ?_
 cases e' with
 | normal => exact ⟨_, q.1, rfl, q.2⟩
 | _ => exact q
theorem Bwt {n : Nat} {e : Nat -> Value} {ds : List Deferred} {l r : Nat} {Q : Exit -> Act -> Hp -> Prop} {v : Value} {H : Hp} {q : Loop} (h : H l = some (true, .loop q)) (h1 : q.state = .ready) (h2 : q.pending = none)
  (hk : Q .normal (act n e (coll r :: ds)) (H.set l (.loop { q with state := .exhausted }))) : behind l r (act n e ds) Q (.returned v) H := by
 refine ⟨q, h, by rw [h1]; simp, ?_⟩
 cases q
 simp only [] at h1 h2
 subst h1 h2
 exact hk
end Go.Proofs.YtnfnaehonkbknaaGreatDoor
end
section
namespace Go.Proofs.YtnfnaehonkbknaaGreatDoor
open Go Go.X Go.Proofs.Tryz
def Ays := aN @Dyd (aN @Dw8 @Dwc)
theorem SlI.get {H : Hp} {a : Option Addr} {n cap : Nat} {xs : List Int} (h : SlI H (.slice a n cap) xs) {i : Nat} {x : Int} (hx : xs[i]? = some x) : ∃ (b o : Nat) (p : Bool) (c : Array Value) (fr : Nat × Nat), a = some ⟨b, o, none⟩ /\ H b = some (p, .cells c 3 fr) /\ c[o + i]? = some (.int .i64 x) := by
 obtain ⟨a', cap', he, _, hg⟩ := h
 cases he
 exact hg i x hx
theorem Ayd (m : Md) (H : Hp) (v w : Value) (xs ys : List Int) (hv : SlI H v xs) (hw : SlI H w ys) (hx : xs.length <= 1000000) (hy : ys.length <= 1000000) :
  FnX Tryz.prog m 23 #[v, w] H fun e H' => e = .returned (.bool (decide (xs = ys))) /\ H' = H := by
 have hv0 := hv
 have hw0 := hw
 obtain ⟨va, vc, rfl, hvc, _⟩ := id hv
 obtain ⟨wa, wc, rfl, hwc, _⟩ := id hw
 refine Aql func23 rfl ntmps23 (by simp) ?_
 by_cases hl : xs.length = ys.length
 ·have hll := hl
  replace hl : xs.length <= ys.length /\ ys.length <= xs.length := by omega
  clear hll
  (refine @unH _ (zA Ays ?_); (try clear hK K); intro K hK hc)
  refine Axh (fun w a' H' => ∃ e j, w = xs.length - j /\ j <= xs.length /\ a' = act 26 e [] /\ e 0 = .slice va xs.length vc /\ e 1 = .slice wa ys.length wc /\ e 5 = .int .i64 (j : Nat) /\ H' = H /\ (∀ i, i < j -> xs[i]? = ys[i]?)) (n := xs.length) ?_ ?_
  ·exact ⟨_, 0, by omega, by omega, rfl, rfl, rfl, rfl, by trivial, fun i h => by omega⟩
  ·rintro w' a' H' ⟨e, j, rfl, hj, rfl, e0, e1, e5, hH, hd⟩
   rw [hH]; clear hH H'
   by_cases hlt : j < xs.length
   ·obtain ⟨b, o, p, c, fr, hva, hb, hcx⟩ := SlI.get hv0 (List.getElem?_eq_getElem hlt)
    have hlt2 : j < ys.length := by omega
    obtain ⟨b2, o2, p2, c2, fr2, hwa, hb2, hcy⟩ := SlI.get hw0 (List.getElem?_eq_getElem hlt2)
    have hxj := List.getElem?_eq_getElem hlt
    have hyj := List.getElem?_eq_getElem hlt2
    generalize xs[j] = x at *
    generalize ys[j] = y at *
    subst hva hwa
    have hcx' : c[o + (j : Int).toNat * 1]? = some (.int .i64 x) := by simpa using hcx
    have hcy' : c2[o2 + (j : Int).toNat * 1]? = some (.int .i64 y) := by simpa using hcy
    clear hv hw hv0 hw0
    by_cases hxy : x = y
    ·replace hxy : x <= y /\ y <= x := by omega
     have hd2 : ∀ i, i < j + 1 -> xs[i]? = ys[i]? := fun i hi => by
      by_cases he : i = j
      ·rw [he, hxj, hyj]; congr 1; omega
      ·exact hd i (by omega)
     clear hd hxj hyj
     (refine @unH _ (zA Ays ?_); (try clear hK K); intro K hK hc)
     (refine Akn 9 [(true, 0), (true, 1), (true, 2), (true, 3), (true, 4), (true, 5), (true, 6), (true, 7), (true, 8)] (by kernel_rfl) (by kernel_rfl) (by simp) (by kernel_rfl) ?_; intro K hK; (iterate 9 (refine @unH _ ?_; refine z3 Ays ?_)); refine Awa (hK _ _ ?_); clear hK K; (try refine @unH _ (zQ ?_)))
     (refine @unH _ (zA Ays ?_); (try clear hK K); intro K hK hc)
     exact ⟨_, by omega, _, j + 1, rfl, by omega, rfl, e0, e1, rfl, by trivial, hd2⟩
    ·have hne : xs ≠ ys := fun e => by rw [e, hyj] at hxj; exact hxy (Option.some.inj hxj).symm
     clear hd hxj hyj
     (refine @unH _ (zA Ays ?_); (try clear hK K); intro K hK hc)
     (refine Akn 9 [(true, 0), (true, 1), (true, 2), (true, 3), (true, 4), (true, 5), (true, 6), (true, 7), (true, 8)] (by kernel_rfl) (by kernel_rfl) (by simp) (by kernel_rfl) ?_; intro K hK; (iterate 9 (refine @unH _ ?_; refine z3 Ays ?_)); refine Awa (hK _ _ ?_); clear hK K; (try refine @unH _ (zQ ?_)))
     (refine @unH _ (zA Ays ?_); (try clear hK K); intro K hK hc)
     (refine @unH _ ?_; refine z9 results23 ?_)
     rw [decide_eq_false hne]
     (refine ⟨?_, ?_⟩ <;> first | rfl | trivial | assumption)
   ·obtain rfl : j = xs.length := by omega
    (refine @unH _ (zA Ays ?_); (try clear hK K); intro K hK hc)
    (refine @unH _ ?_; refine z9 results23 ?_)
    refine ⟨?_, by trivial⟩
    rw [decide_eq_true]
    exact List.ext_getElem? fun i => by
     by_cases hi : i < xs.length
     ·exact hd i hi
     ·rw [List.getElem?_eq_none (by omega), List.getElem?_eq_none (by omega)]
 ·have hne : xs ≠ ys := fun e => hl (by rw [e])
  (refine @unH _ (zA Ays ?_); (try clear hK K); intro K hK hc)
  (refine @unH _ ?_; refine z9 results23 ?_)
  rw [decide_eq_false hne]
  (refine ⟨?_, ?_⟩ <;> first | rfl | trivial | assumption)
end Go.Proofs.YtnfnaehonkbknaaGreatDoor
end
section
namespace Go.X
open Go
open Go.Conc
section
variable {P : Program} {T : Goroutine -> Hp -> Prop} {γ : Gh}
end
abbrev Dkj := Gh -> Exit -> Act -> Hp -> Prop
section
variable {P : Program} {γ : Gh} {Q : Dkj} {a : Act} {H : Hp}
theorem Bx6 {main : Md} {b : Frame} {k : List Item} {cs : List Frame} {w : World} {ops : Array Oper} {i : Nat} {rest : List Nat} {o : Oper} {d : Deferred} {f : Fn} {c : Array Value} (ho : ops[i]? = some o) (hw : Region.wanted o (yielded ops a.tmps) = true)
  (hk : b.kind ≠ .early) (hl : b.roundOf = none) (hr : (execOp a.eval o).runT P w #[] = (.ok (.spawn d) w, #[])) (hd : d.target = .fn f c) :
  stepG P main (G (fat b a (.inRegion ops (i :: rest) :: k)) cs) w = .spawn (G (fat b (a.put o.dst undef) (.inRegion ops rest :: k)) cs) (born P d) w #[] := by
 have hk' : (b.kind == CallKind.early) = false := by simpa using hk
 have hfin : (fat b a (.inRegion ops (i :: rest) :: k)).finish undef = fat b (a.put o.dst undef) (.inRegion ops rest :: k) := by rw [Axx, ho]; rfl
 rw [stepG_op ho hw (.inl hl), <- hfin]
 simp [stepG.apply, hr, G, fat, hk', GStep.after, born, hd, seen_none, -Sem.runT_eq]
theorem Awe {main : Md} {b : Frame} {k : List Item} {cs : List Frame} {w : World} {ops : Array Oper} {i : Nat} {rest : List Nat} {o : Oper} {cases : Array CommCase} {bl : Bool} {shape : CommShape} (ho : ops[i]? = some o) (hw : Region.wanted o (yielded ops a.tmps) = true)
  (hk : b.kind ≠ .early) (hl : b.roundOf = none) (hr : (execOp a.eval o).runT P w #[] = (.ok (.comm cases bl shape) w, #[])) :
  stepG P main (G (fat b a (.inRegion ops (i :: rest) :: k)) cs) w = .comm (G (fat b a (.inRegion ops (i :: rest) :: k)) cs) cases bl shape w #[] := by
 have hk' : (b.kind == CallKind.early) = false := by simpa using hk
 rw [stepG_op ho hw (.inl hl)]
 simp [stepG.apply, hr, G, fat, hk', GStep.after, seen_none, -Sem.runT_eq]
theorem Ckn {b : Frame} {k : List Item} {cs : List Frame} {ops : Array Oper} {i : Nat} {rest : List Nat} {o : Oper} (ho : ops[i]? = some o) (cases : Array CommCase) (shape : CommShape) (j : Int) (v : Value) (ok : Bool) :
  (G (fat b a (.inRegion ops (i :: rest) :: k)) cs).finishComm P cases shape j v ok = G (fat b (a.put o.dst (commResult cases shape j v ok)) (.inRegion ops rest :: k)) cs := by
 have hfin : ∀ v, (fat b a (.inRegion ops (i :: rest) :: k)).finish v = fat b (a.put o.dst v) (.inRegion ops rest :: k) := fun v => by rw [Axx, ho]; rfl
 simp [Goroutine.finishComm, G, hfin]
end
end Go.X
end
section
namespace Go.X
open Go
open Go.Conc
def Akp (P : Program) : Frame := { (default : Frame) with fn := P.funcs.size, defers := [], mode := .panicking [goexitEntry] }
section
variable {P : Program} {md : Md} {Stop : Goroutine -> Hp -> Prop} {H : Hp} {a : Act}
theorem WPG.born {f : FuncId} {cap args : Array Value} (hcall : ∀ (args : Array Value) (H : Hp) (K : Next -> Hp -> Prop) (E : Value -> Hp -> Prop), wpS P (callFunc f args) H K E = K (.enter f args) H)
  (h : WPG P md Stop (G (Frame.enter P f (args ++ cap) .deferred) [Akp P]) H) : WPG P md Stop (Go.Conc.born P { target := .fn (.func f) cap, args := args }) H := by
 have h2 : wpS P (invoke (.fn (.func f) cap) args) H (fun x H' => x = .enter f (args ++ cap) /\ H' = H) (fun _ _ => False) := by
  simp only [invoke]
  rw [hcall]
  exact ⟨rfl, rfl⟩
 refine WPG.tree (s := invoke (.fn (.func f) cap) args) rfl h2 (fun g' H' => g' = G (Frame.enter P f (args ++ cap) .deferred) [Akp P] /\ H' = H) (fun w w' H' es v hr' hm' hk' => ?_) (fun _ _ _ _ _ _ _ he => he.elim) ?_
 ·obtain ⟨rfl, rfl⟩ := hk'
  refine ⟨_, seen P P.funcs.size es, ?_, fun e => mem_seen, rfl, rfl⟩
  simp [Go.Conc.born, stepG, unwind, callDeferred, G, hr', GStep.after, Akp, -Sem.runT_eq]
 ·rintro g' H' ⟨rfl, rfl⟩
  exact h
theorem Awl {f : FuncId} {fn : Func} {c : Code} (args : Array Value) (hf : P.funcs[f]? = some fn) (hb : fn.body = some c) :
  Frame.enter P f args .deferred = fat (baseD f) { tmps := args ++ Array.replicate (fn.ntmps - args.size) undef, defers := [] } [.code c] := by
 simp [Frame.enter, fat, hf, hb, baseD]
 rfl
theorem Cz4 {n : Nat} {g g' : Goroutine} (hs : g.status = .running) (h : ∀ w, stepG P false g w = .go g' w #[]) (hq : QuitsIn P n g') : QuitsIn P (n + 1) g := .inr ⟨hs, g', h, hq⟩
theorem WPG.op {b : Frame} {k : List Item} {cs : List Frame} {ops : Array Oper} {i : Nat} {rest : List Nat} {o : Oper} (ho : ops[i]? = some o) (hw : Region.wanted o (yielded ops a.tmps) = true) (hk : b.kind ≠ .early) (hl : b.roundOf = none)
  (h : opX P md none o a H (fun a' H' => WPG P md Stop (G (fat b a' (.inRegion ops rest :: k)) cs) H') fun _ _ _ => False) : WPG P md Stop (G (fat b a (.inRegion ops (i :: rest) :: k)) cs) H := by
 have hk' : (b.kind == CallKind.early) = false := by simpa using hk
 have hfin : ∀ v, (fat b a (.inRegion ops (i :: rest) :: k)).finish v = fat b (a.put o.dst v) (.inRegion ops rest :: k) := fun v => by rw [Axx, ho]; rfl
 refine .step (fun g' H' => WPG P md Stop g' H') rfl (fun w hs => ?_) fun _ _ h => h
 rw [stepG_op ho hw (.inl hl)]
 obtain ⟨es, w', H', hm, r, hr, hd'⟩ := Akh _ w hs h
 have hm' : Moves H w (seen P b.fn es) H' w' := hm.seen b.fn
 have hr0 : (execOp a.eval o).runT P w #[] = (r, es) := by rw [hr #[]]; simp
 rcases hd' with ⟨x, rfl, hx⟩ | ⟨v, rfl, hv⟩
 ·cases x with
  | value v =>
   refine ⟨G (fat b (a.put o.dst v) (.inRegion ops rest :: k)) cs, w', seen P b.fn es, H', ?_, hm', hx⟩
   rw [<- hfin]
   simp [stepG.apply, hr0, G, fat, hk', GStep.after, -Sem.runT_eq]
  | skip =>
   refine ⟨G (fat b (a.put o.dst undef) (.inRegion ops rest :: k)) cs, w', seen P b.fn es, H', ?_, hm', hx⟩
   rw [<- hfin]
   simp [stepG.apply, hr0, G, fat, hk', GStep.after, -Sem.runT_eq]
  | defer d =>
   refine ⟨G (fat b ({ a with defers := d :: a.defers }.put o.dst undef) (.inRegion ops rest :: k)) cs, w', seen P b.fn es, H', ?_, hm', hx.2⟩
   have : ({ fat b a (.inRegion ops (i :: rest) :: k) with defers := d :: a.defers } : Frame).finish undef = fat b ({ a with defers := d :: a.defers }.put o.dst undef) (.inRegion ops rest :: k) := by
    have := Axx b { a with defers := d :: a.defers } ops i rest k undef
    rw [ho] at this
    exact this
   rw [<- this]
   simp [stepG.apply, hr0, G, fat, hk', GStep.after, -Sem.runT_eq]
  | enter f args =>
   refine ⟨G (Frame.enter P f args .normal) (fat b a (.inRegion ops (i :: rest) :: k) :: cs), w', seen P b.fn es, H', ?_, hm', ?_⟩
   ·simp [stepG.apply, hr0, G, fat, hk', GStep.after, -Sem.runT_eq]
   ·refine hx _ _ Stop (fun v H₁ r => ?_) fun ch H₁ r => ?_
    ·rw [hfin]; exact r
    ·exact r.elim
  | round l f tmps ars body =>
   refine ⟨G (Frame.round l f tmps ars body .normal) (fat b a (.inRegion ops (i :: rest) :: k) :: cs), w', seen P b.fn es, H', ?_, hm', ?_⟩
   ·simp [stepG.apply, hr0, G, fat, hk', GStep.after, -Sem.runT_eq]
   ·refine hx _ _ Stop (fun v H₁ r => ?_) fun ch H₁ r => ?_
    ·rw [hfin]; exact r
    ·exact r.elim
  | _ => exact hx.elim
 ·exact hv.elim
end
end Go.X
end
section
namespace Go.X
open Go
open Go.Conc
section
variable {P : Program} {md : Md} {Stop : Goroutine -> Hp -> Prop} {ops : Array Oper} {s : Nat} {K : Act -> Hp -> Prop}
def runU (P : Program) (md : Md) (ops : Array Oper) (s : Nat) (K : Act -> Hp -> Prop) : List Nat -> Act -> Hp -> Prop
 | [], _, _ => False
 | i :: rest, a, H => if i = s then rest = [] /\ K a H else ∃ o, ops[i]? = some o /\ Region.wanted o (yielded ops a.tmps) = true /\ opX P md none o a H (runU P md ops s K rest) fun _ _ _ => False
theorem Bjg {b : Frame} {k : List Item} {cs : List Frame} (hk : b.kind ≠ .early) (hl : b.roundOf = none) (hK : ∀ a H, K a H -> WPG P md Stop (G (fat b a (.inRegion ops [s] :: k)) cs) H) :
  ∀ (todo : List Nat) (a : Act) (H : Hp), runU P md ops s K todo a H -> WPG P md Stop (G (fat b a (.inRegion ops todo :: k)) cs) H
 | [], _, _, h => h.elim
 | i :: rest, a, H, h => by
  unfold runU at h
  by_cases hi : i = s
  ·rw [if_pos hi] at h
   obtain ⟨rfl, h⟩ := h
   rw [hi]
   exact hK a H h
  ·rw [if_neg hi] at h
   obtain ⟨o, ho, hw, h⟩ := h
   exact WPG.op ho hw hk hl (Av9 h fun a' H' h' => Bjg hk hl hK rest a' H' h')
def Dji (ops : Array Oper) : Bool := (List.range ops.size).all fun i => match ops[i]? with
 | some o => o.after.all fun e => !Region.binds .any e || decide (e.on < i)
 | none => true
def dstB (ops : Array Oper) : Bool := (List.range ops.size).all fun i => (List.range ops.size).all fun j => i == j || ((ops[i]?).bind (·.dst)).isNone || ((ops[i]?).bind (·.dst)) != ((ops[j]?).bind (·.dst))
def lastB (ops : Array Oper) (s : Nat) : Bool := (List.range ops.size).all fun j => j == s || (marked ops (List.range ops.size).reverse ((Array.replicate ops.size false).setIfInBounds s true)).getD j false
def left (ops : Array Oper) (listed : Array Bool) : Nat := (List.range ops.size).countP fun i => !listed.getD i false
theorem Ayw {p q : Nat -> Bool} : ∀ {l : List Nat}, (∀ x ∈ l, p x = true -> q x = true) -> ∀ y ∈ l, q y = true -> p y = false -> l.countP p < l.countP q
 | [], _, y, hy, _, _ => by cases hy
 | x :: l, h, y, hy, h1, h2 => by
  rw [List.countP_cons, List.countP_cons]
  have hle : l.countP p <= l.countP q := List.countP_mono_left fun z hz => h z (by simp [hz])
  rcases List.mem_cons.1 hy with rfl | hy
  ·rw [h1, h2]; simp; omega
  ·have := Ayw (fun z hz => h z (by simp [hz])) y hy h1 h2
   have hx := h x (by simp)
   cases hp : p x
   ·simp; omega
   ·simp [hx hp]; omega
theorem Cyr {listed : Array Bool} {i : Nat} (hi : i < ops.size) (hs : listed.size = ops.size) (hl : listed.getD i false = false) : left ops (listed.setIfInBounds i true) < left ops listed := by
 unfold left
 refine Ayw (fun x _ hx => ?_) i (List.mem_range.2 hi) (by simp [hl]) (by simp [Array.getD, hs, hi])
 by_cases hxi : x = i
 ·subst hxi; simp [hl]
 ·rwa [getD_set_ne false (Ne.symm hxi)] at hx
theorem Djt {listed : Array Bool} (h : Region.ready .any ops listed = []) : ∀ fuel t, Region.linearise.go .any ops fuel t listed [] = []
 | 0, _ => rfl
 | fuel + 1, t => by
  simp only [Region.linearise.go]
  change (match (Region.ready .any ops listed)[t % (Region.ready .any ops listed).length]? with
   | some i => Region.linearise.go .any ops fuel (t / (Region.ready .any ops listed).length) (listed.setIfInBounds i true) [i]
   | none => [].reverse) = []
  rw [h]
  rfl
end
end Go.X
end
section
namespace Go.X
open Go
open Go.Conc
section
variable {P : Program} {main : Md} {lp : Option Nat} {Q : Exit -> Act -> Hp -> Prop} {a : Act} {H : Hp}
theorem Bxi (a : Act) (d : Option Tmp) (ty : TypeId) (pos : String) (af : Array Edge) (g : Option (Nat × Bool)) (K : Next -> Hp -> Prop) (E : Value -> Hp -> Prop) (t : TypeId) (x : Operand) :
 wpS P (execOp a.eval ⟨d, .makeChan t x, ty, pos, af, g⟩) H K E = wpS P (Instr.makeChan t (a.eval x)) H (fun v H' => K (.value v) H') E := Aqa _ _ _ _
theorem Cqb {t e : TypeId} (hu : P.underlying t = some (.slice e)) {n : Nat} (hs : ∀ w, (sizeOf e).run P w = .ok n w) (x : Option Addr) (len cap : Nat) (k k' : IntKind) (i j : Int) (h0 : 0 <= i) (h1 : i <= j) (h2 : j <= cap) (K : Value -> Hp -> Prop) (E : Value -> Hp -> Prop) :
  wpS P (Instr.sliceAt t (.slice x len cap) (none : Option Value) (some (.int k i)) (some (.int k' j))) H K E = K (.slice (if j.toNat = 0 then x else x.map (·.add 0)) i.toNat j.toNat) H := by
 unfold Instr.sliceAt Instr.slice Instr.sliceBounds
 simp [-bind_pure_comp, Aqa, Aqh hu, Aqd, Azy k' j cap _ (by omega) h2, Azy k i j.toNat _ h0 (by omega), Aqw hs]
theorem add_zero' (x : Option Addr) : x.map (·.add 0) = x := by
 cases x with
 | none => rfl
 | some a => obtain ⟨b, o, s⟩ := a; cases s <;> rfl
theorem Bqj {t e : TypeId} (hu : P.underlying t = some (.slice e)) {n : Nat} (hs : ∀ w, (sizeOf e).run P w = .ok n w) (x : Option Addr) (len cap : Nat) (k k' : IntKind) (i j : Int) (h0 : 0 <= i) (h1 : i <= j) (h2 : j <= cap) (K : Value -> Hp -> Prop) (E : Value -> Hp -> Prop) :
  wpS P (Instr.sliceAt t (.slice x len cap) (none : Option Value) (some (.int k i)) (some (.int k' j))) H K E = K (.slice x i.toNat j.toNat) H := by
 rw [Cqb hu hs x len cap k k' i j h0 h1 h2, add_zero']
 simp
theorem Bql {t : TypeId} (hs : ∀ w, (sizeOf t).run P w = .ok 1 w) (b o : Nat) (K : Unit -> Hp -> Prop) (E : Value -> Hp -> Prop) (x : Option Nat) : wpS P (Instr.storeAt t (.pointer (some ⟨b, o, none⟩)) (.chan x)) H K E = stor H b o (.chan x) (K ()) := Az3 hs rfl b o K E
theorem Ckr {d : Option Tmp} {ty : TypeId} {pos : String} {af : Array Edge} {g : Option (Nat × Bool)} {t : Tmp} {ats : Array TypeId} {f : Fn} {fi cap : Array Value} (h : a.eval (.tmp t) = .func f fi cap) (w : World) :
  (execOp a.eval ⟨d, .go ⟨.value (.tmp t), #[], ats⟩, ty, pos, af, g⟩).runT P w #[] = (.ok (.spawn { target := .fn f cap, args := fi }) w, #[]) := by
 simp [execOp, resolve, h, Deferred.ofValue]
theorem Cvm {d : Option Tmp} {ty : TypeId} {pos : String} {af : Array Edge} {g : Option (Nat × Bool)} {x y : Operand} {c : Nat} {v : Value} (hx : a.eval x = .chan (some c)) (hy : a.eval y = v) (w : World) :
  (execOp a.eval ⟨d, .send x y, ty, pos, af, g⟩).runT P w #[] = (.ok (.comm #[scase c v (.tuple #[])] true .send) w, #[]) := by
 simp [execOp, hx, hy, scase]
end
end Go.X
end
section
namespace Go.X
open Go
theorem cells_chan (x : Option Nat) : (Value.chan x).cells = #[.chan x] := rfl
def Hp.leS (H H' : Hp) : Prop := ∀ b p o, H b = some (p, o) -> ∃ p', H' b = some (p', o) /\ (p' = true -> p = true)
theorem Hp.leS.refl {H : Hp} : H.leS H := fun _ p _ h => ⟨p, h, id⟩
theorem Hp.leS.trans {H H' H'' : Hp} (h : H.leS H') (h' : H'.leS H'') : H.leS H'' := fun b p o hb => let ⟨p', h1, h2⟩ := h b p o hb; let ⟨p'', h3, h4⟩ := h' b p' o h1; ⟨p'', h3, fun e => h2 (h4 e)⟩
theorem Hp.leS.set {H H' : Hp} {b : Nat} {o : Obj} (h : H.leS H') (hb : H b = none) : H.leS (H'.set b o) := fun x p o' hx => by
 obtain ⟨p', h1, h2⟩ := h x p o' hx
 exact ⟨p', by unfold Hp.set; rw [if_neg (fun e => by rw [e, hb] at hx; cases hx)]; exact h1, h2⟩
def Hp.lend (H : Hp) (eb : Nat) : Hp := fun b => if b = eb then H b else (H b).map fun q => (false, q.2)
def Hp.hand (H : Hp) (eb : Nat) : Hp := fun b => if b = eb then none else (H b).map fun q => (false, q.2)
theorem Hp.lend_leS {H : Hp} {eb : Nat} : H.leS (H.lend eb) := fun b p o h => by
 unfold Hp.lend
 by_cases hb : b = eb
 ·rw [if_pos hb]; exact ⟨p, h, id⟩
 ·rw [if_neg hb, h]; exact ⟨false, rfl, fun e => by cases e⟩
theorem Hp.hand_some {H : Hp} {eb b : Nat} {p : Bool} {o : Obj} (h : H b = some (p, o)) (hb : b ≠ eb) : H.hand eb b = some (false, o) := by simp [Hp.hand, hb, h]
theorem Hp.hand_lend {H : Hp} {eb : Nat} : ∀ b p o, H.hand eb b = some (p, o) -> p = false /\ H.lend eb b = some (false, o) := fun b p o h => by
 unfold Hp.hand at h
 unfold Hp.lend
 by_cases hb : b = eb
 ·rw [if_pos hb] at h; cases h
 ·rw [if_neg hb] at h ⊢
  cases hq : H b with
  | none => rw [hq] at h; cases h
  | some q => rw [hq] at h; cases h; exact ⟨rfl, rfl⟩
theorem Hp.lend_own {H : Hp} {eb : Nat} : ∀ b p o, H.lend eb b = some (p, o) -> ∃ p', H b = some (p', o) /\ (p = true -> p' = true) := fun b p o h => by
 unfold Hp.lend at h
 by_cases hb : b = eb
 ·rw [if_pos hb] at h; exact ⟨p, h, id⟩
 ·rw [if_neg hb] at h
  cases hq : H b with
  | none => rw [hq] at h; cases h
  | some q => obtain ⟨p', o'⟩ := q; rw [hq] at h; cases h; exact ⟨p', rfl, fun e => by cases e⟩
end Go.X
namespace Go.Proofs.YtnfnaehonkbknaaGreatDoor
open Go Go.X
def Bwo (H H' : Hp) : Prop := ∀ b p c t fr, H b = some (p, .cells c t fr) -> ∃ p', H' b = some (p', .cells c t fr)
theorem SlI.cl {H H' : Hp} {w : Value} {xs : List Int} (hw : SlI H w xs) (hl : Bwo H H') : SlI H' w xs := by
 obtain ⟨a, cap, h1, h2, h3⟩ := hw
 refine ⟨a, cap, h1, h2, fun i x hx => ?_⟩
 obtain ⟨b, o, p, c, fr, h4, h5, h6⟩ := h3 i x hx
 obtain ⟨p', h7⟩ := hl _ _ _ _ _ h5
 exact ⟨b, o, p', c, fr, h4, h7, h6⟩
theorem Bj9 {H H' : Hp} (h : H.leS H') {b : Nat} (hb : H' b = none) : H b = none := by
 cases hx : H b with
 | none => rfl
 | some q => obtain ⟨p, o⟩ := q; obtain ⟨p', h1, _⟩ := h b p o hx; rw [hb] at h1; cases h1
end Go.Proofs.YtnfnaehonkbknaaGreatDoor
end
section
namespace Go.X
open Go
open Go.Conc Go.Conc.Lib
section
variable {P : Program} {T : Goroutine -> Hp -> Prop} {γ : GhW}
theorem FanW.ctl {g g' : Goroutine} {H : Hp} (hs : g.status = .running) (h : ∀ w, stepG P true g w = .go g' w #[]) (hg : FanW P T γ g' H) : FanW P T γ g H :=
 .step (fun x y => x = g' /\ y = H) hs (fun w hw => ⟨g', w, #[], H, h w, .refl hw, rfl, rfl⟩) fun x y e => by obtain ⟨rfl, rfl⟩ := e; exact hg
def Avl (P : Program) (T : Goroutine -> Hp -> Prop) (b : Frame) (k : List Item) (cs : List Frame) (γ : GhW) : Exit -> Act -> Hp -> Prop
 | .normal, a, H => FanW P T γ (G (fat b a k) cs) H
 | .exit id, a, H => ∀ k', exitTo id k' = exitTo id k -> FanW P T γ (G (fat b a (.code (.exit id) :: k')) cs) H
 | .goto l, a, H => ∀ k', gotoIn l k' = gotoIn l k -> FanW P T γ (G (fat b a (.code (.goto l) :: k')) cs) H
 | .ret, a, H => ∀ k', FanW P T γ (G (fat b a (.code .ret :: k')) cs) H
 | .panic ch, a, H => ∀ k', FanW P T γ (G { fat b a k' with mode := .panicking ch } cs) H
 | .outgrown, _, _ => False
theorem Avl.push {b : Frame} {x : Item} {k : List Item} {cs : List Frame} {e : Exit} {a : Act} {H : Hp} (hx : x.plain = true) (he : e ≠ .normal)
  (h : Avl P T b k cs γ e a H) : Avl P T b (x :: k) cs γ e a H := by
 cases e with
 | normal => exact absurd rfl he
 | exit id => exact fun k' hk => h k' (hk.trans (by cases x <;> simp_all [exitTo, Item.plain]))
 | goto l => exact fun k' hk => h k' (hk.trans (by cases x <;> simp_all [gotoIn, Item.plain]))
 | ret => exact h
 | panic ch => exact h
 | outgrown => exact h
theorem Avl.after {b : Frame} {k : List Item} {cs : List Frame} {e : Exit} {a : Act} {H : Hp} (h : Avl P T b k cs γ e a H) : After P (.own true) (fun g H => FanW P T γ g H) b k cs e a H := by
 cases e with
 | normal => exact .stop h (Hp.le_refl _)
 | exit id => exact fun k' hk => .stop (h k' hk) (Hp.le_refl _)
 | goto l => exact fun k' hk => .stop (h k' hk) (Hp.le_refl _)
 | ret => exact fun k' => .stop (h k') (Hp.le_refl _)
 | panic ch => exact fun k' => .stop (h k') (Hp.le_refl _)
 | outgrown => exact h
end
abbrev Cjn := GhW -> Exit -> Act -> Hp -> Prop
def wpV (P : Program) (c : Code) (Q : Cjn) (γ : GhW) (a : Act) (H : Hp) : Prop :=
 ∀ (b : Frame) (k : List Item) (cs : List Frame) (T : Goroutine -> Hp -> Prop), b.kind ≠ .early -> b.roundOf = none ->
  (∀ γ' e a' H', Q γ' e a' H' -> Avl P T b k cs γ' e a' H') -> FanW P T γ (G (fat b a (.code c :: k)) cs) H
def opsV (P : Program) (ops : Array Oper) (todo : List Nat) (Q : Cjn) (γ : GhW) (a : Act) (H : Hp) : Prop :=
 ∀ (b : Frame) (k : List Item) (cs : List Frame) (T : Goroutine -> Hp -> Prop), b.kind ≠ .early -> b.roundOf = none ->
  (∀ γ' e a' H', Q γ' e a' H' -> Avl P T b k cs γ' e a' H') -> FanW P T γ (G (fat b a (.inRegion ops todo :: k)) cs) H
section
variable {P : Program} {γ : GhW} {Q : Cjn} {a : Act} {H : Hp}
theorem Avy {c : Code} (h : wpX P (.own true) none c (Q γ) a H) : wpV P c Q γ a H := fun b k cs T hk hl hc =>
 WPG.walkW (h b k cs (fun g H => FanW P T γ g H) hk hl fun e a' H' q => (hc γ e a' H' q).after) fun _ _ h => h
theorem Cy1 {ops : Array Oper} {todo : List Nat} (h : opsX P (.own true) none ops todo (Q γ) a H) : opsV P ops todo Q γ a H := fun b k cs T hk hl hc =>
 WPG.walkW (h b k cs (fun g H => FanW P T γ g H) hk hl fun e a' H' q => (hc γ e a' H' q).after) fun _ _ h => h
theorem Bwm {c : Code} {R : Exit -> Act -> Hp -> Prop} (h : wpV P c (fun γ e a H => γ = .idle /\ R e a H) .idle a H) : wpX P (.wg P) none c R a H := fun b k cs Stop hk hl hc => by
 refine .phase (fun g H => WPG P (.wg P) Stop g H) (h b k cs _ hk hl fun γ' e a' H' ⟨hγ, q⟩ => ?_) fun _ _ h => h
 subst hγ
 have := hc e a' H' q
 cases e with
 | normal => exact .stop this (Hp.le_refl _)
 | exit id => exact fun k' hk => .stop (this k' hk) (Hp.le_refl _)
 | goto l => exact fun k' hk => .stop (this k' hk) (Hp.le_refl _)
 | ret => exact fun k' => .stop (this k') (Hp.le_refl _)
 | panic ch => exact fun k' => .stop (this k') (Hp.le_refl _)
 | outgrown => exact this
theorem Cjg {c : Code} {n : Nat} {e : Nat -> Value} {ds : List Deferred} (p : (Nat -> Value) -> Prop) (hp : p e) (h : ∀ e, p e -> wpV P c Q γ (act n e ds) H) : wpV P c Q γ (act n e ds) H := h e hp
theorem Az4 {x y : Code} (h : wpV P x (fun γ' => thn (fun a' H' => wpV P y Q γ' a' H') (Q γ')) γ a H) : wpV P (.seq x y) Q γ a H := by
 intro b k cs T hk hl hc
 refine .ctl (g' := G (fat b a (.code x :: .code y :: k)) cs) rfl (fun w => by simp [G, stepG, stepG.exec, fat]) ?_
 refine h b (.code y :: k) cs T hk hl fun γ' e a' H' q => ?_
 cases e with
 | normal => exact q b k cs T hk hl hc
 | exit id => exact (hc _ _ _ _ q).push rfl (by simp)
 | goto id => exact (hc _ _ _ _ q).push rfl (by simp)
 | ret => exact Avl.push (x := .code y) (e := .ret) rfl (by simp) (hc _ _ _ _ q)
 | panic ch => exact Avl.push (x := .code y) (e := .panic ch) rfl (by simp) (hc _ _ _ _ q)
 | outgrown => exact q.elim
theorem Dqh {c : Operand} {x y : Code} {t : Bool} (ht : a.eval c = .bool t) (h : wpV P (if t then x else y) Q γ a H) : wpV P (.cond c x y) Q γ a H := by
 intro b k cs T hk hl hc
 refine .ctl (g' := G (fat b a (.code (if t then x else y) :: k)) cs) rfl (fun w => ?_) (h b k cs T hk hl hc)
 have he : (fat b a (.code (.cond c x y) :: k)).eval c = .bool t := by rw [Bj4]; exact ht
 simp only [fat] at he
 simp [G, stepG, stepG.exec, fat, he]
theorem Cxx (h : Q γ .normal a H) : wpV P .skip Q γ a H := fun b k cs _ _ _ hc =>
 .ctl (g' := G (fat b a k) cs) rfl (fun w => by simp [G, stepG, stepG.exec, fat]) (hc _ _ _ _ h)
theorem Cxv {id : Nat} (h : Q γ (.exit id) a H) : wpV P (.exit id) Q γ a H := fun _ k _ _ _ _ hc => hc _ _ _ _ h k rfl
theorem Bze {id : Nat} {c : Code} (h : wpV P c (fun γ' => blk id (Q γ')) γ a H) : wpV P (.block id c) Q γ a H := by
 intro b k cs T hk hl hc
 refine .ctl (g' := G (fat b a (.code c :: .inBlock id :: k)) cs) rfl (fun w => by simp [G, stepG, stepG.exec, fat]) ?_
 refine h b (.inBlock id :: k) cs T hk hl fun γ' e a' H' q => ?_
 cases e with
 | normal => exact .ctl (g' := G (fat b a' k) cs) rfl (fun w => by simp [G, stepG, stepG.exec, fat]) (hc _ _ _ _ q)
 | exit id' =>
  by_cases hid : id' = id
  ·simp only [blk, hid, if_true] at q
   subst hid
   intro k' hk'
   have hx : exitTo id' k' = some k := hk'.trans (by simp [exitTo])
   exact .ctl (g' := G (fat b a' k) cs) rfl (fun w => by simp [G, stepG, stepG.exec, fat, hx]) (hc _ _ _ _ q)
  ·simp only [blk, hid, if_false] at q
   have hn : (id == id') = false := by simp; exact fun h => hid h.symm
   exact fun k' hk' => hc _ _ _ _ q k' (hk'.trans (by simp [exitTo, hn]))
 | goto l => exact fun k' hk' => hc _ _ _ _ q k' (hk'.trans (by simp [gotoIn]))
 | ret => exact hc _ _ _ _ q
 | panic ch => exact hc _ _ _ _ q
 | outgrown => exact q.elim
theorem Cxw {c : Code} (I : Nat -> GhW -> Act -> Hp -> Prop) {n : Nat} (h₀ : I n γ a H)
  (round : ∀ n γ a H, I n γ a H -> wpV P c (fun γ' => thn (fun a' H' => ∃ n', n' < n /\ I n' γ' a' H') (Q γ')) γ a H) : wpV P (.loop c) Q γ a H := by
 intro b k cs T hk hl hc
 have key : ∀ n γ a H, I n γ a H -> FanW P T γ (G (fat b a (.code c :: .inLoop c :: k)) cs) H := by
  intro n
  induction n using Nat.strongRecOn with
  | _ n ih =>
   intro γ a H hI
   refine round n γ a H hI b (.inLoop c :: k) cs T hk hl fun γ' e a' H' q => ?_
   cases e with
   | normal =>
    obtain ⟨n', hlt, hI'⟩ := q
    exact .ctl (g' := G (fat b a' (.code c :: .inLoop c :: k)) cs) rfl (fun w => by simp [G, stepG, stepG.exec, fat]) (ih n' hlt γ' a' H' hI')
   | exit id => exact (hc _ _ _ _ q).push rfl (by simp)
   | goto id => exact (hc _ _ _ _ q).push rfl (by simp)
   | ret => exact Avl.push (x := .inLoop c) (e := .ret) rfl (by simp) (hc _ _ _ _ q)
   | panic ch => exact Avl.push (x := .inLoop c) (e := .panic ch) rfl (by simp) (hc _ _ _ _ q)
   | outgrown => exact q.elim
 exact .ctl (g' := G (fat b a (.code c :: .inLoop c :: k)) cs) rfl (fun w => by simp [G, stepG, stepG.exec, fat]) (key n γ a H h₀)
theorem Ak6 {id : Nat} {ops : Array Oper} (h : opsV P ops (List.range ops.size) Q γ a H) : wpV P (.region id ops false) Q γ a H :=
 fun b k cs T hk hl hc => .ctl (g' := G (fat b a (.inRegion ops (List.range ops.size) :: k)) cs) rfl (fun w => by simp [G, stepG, stepG.exec, fat]) (h b k cs T hk hl hc)
theorem Bkf {ops : Array Oper} (h : Q γ .normal a H) : opsV P ops [] Q γ a H := fun b k cs _ _ _ hc =>
 .ctl (g' := G (fat b a k) cs) rfl (fun w => by simp [G, stepG, stepG.exec, fat]) (hc _ _ _ _ h)
theorem Bvv {ops : Array Oper} {i : Nat} {rest : List Nat} {o : Oper} (ho : ops[i]? = some o) (hw : Region.wanted o (yielded ops a.tmps) = true)
  (h : opX P (.own true) none o a H (fun a' H' => opsV P ops rest Q γ a' H') (Q γ)) : opsV P ops (i :: rest) Q γ a H := by
 intro b k cs T hk hl hc
 have hk' : (b.kind == CallKind.early) = false := by simpa using hk
 have hfin : ∀ v, (fat b a (.inRegion ops (i :: rest) :: k)).finish v = fat b (a.put o.dst v) (.inRegion ops rest :: k) := fun v => by rw [Axx, ho]; rfl
 refine .step (fun g' H' => FanW P T γ g' H') rfl (fun w hs => ?_) fun _ _ h => h
 have hst := stepG_op (main := .own true) (P := P) (b := b) (k := k) (cs := cs) (w := w) (a := a) (rest := rest) ho hw (.inl hl)
 rw [show stepG P true _ w = _ from hst]
 obtain ⟨es, w', H', hm, r, hr, hd'⟩ := Akh _ w hs h
 have hm' : Moves H w (seen P b.fn es) H' w' := hm.seen b.fn
 have hr0 : (execOp a.eval o).runT P w #[] = (r, es) := by rw [hr #[]]; simp
 rcases hd' with ⟨x, rfl, hx⟩ | ⟨v, rfl, hv⟩
 ·cases x with
  | value v =>
   refine ⟨G (fat b (a.put o.dst v) (.inRegion ops rest :: k)) cs, w', seen P b.fn es, H', ?_, hm', hx b k cs T hk hl hc⟩
   rw [<- hfin]
   simp [stepG.apply, hr0, G, fat, hk', GStep.after, -Sem.runT_eq]
  | skip =>
   refine ⟨G (fat b (a.put o.dst undef) (.inRegion ops rest :: k)) cs, w', seen P b.fn es, H', ?_, hm', hx b k cs T hk hl hc⟩
   rw [<- hfin]
   simp [stepG.apply, hr0, G, fat, hk', GStep.after, -Sem.runT_eq]
  | defer d =>
   refine ⟨G (fat b ({ a with defers := d :: a.defers }.put o.dst undef) (.inRegion ops rest :: k)) cs, w', seen P b.fn es, H', ?_, hm', hx.2 b k cs T hk hl hc⟩
   have : ({ fat b a (.inRegion ops (i :: rest) :: k) with defers := d :: a.defers } : Frame).finish undef = fat b ({ a with defers := d :: a.defers }.put o.dst undef) (.inRegion ops rest :: k) := by
    have := Axx b { a with defers := d :: a.defers } ops i rest k undef
    rw [ho] at this
    exact this
   rw [<- this]
   simp [stepG.apply, hr0, G, fat, hk', GStep.after, -Sem.runT_eq]
  | enter f args =>
   refine ⟨G (Frame.enter P f args .normal) (fat b a (.inRegion ops (i :: rest) :: k) :: cs), w', seen P b.fn es, H', ?_, hm', ?_⟩
   ·simp [stepG.apply, hr0, G, fat, hk', GStep.after, -Sem.runT_eq]
   ·refine WPG.walkW (hx _ _ (fun g H => FanW P T γ g H) (fun v H₁ r => ?_) fun ch H₁ r => ?_) fun _ _ h => h
    ·rw [hfin]; exact .stop (r b k cs T hk hl hc) (Hp.le_refl _)
    ·exact .stop ((hc _ (.panic ch) a H₁ r) _) (Hp.le_refl _)
  | round l f tmps ars body =>
   refine ⟨G (Frame.round l f tmps ars body .normal) (fat b a (.inRegion ops (i :: rest) :: k) :: cs), w', seen P b.fn es, H', ?_, hm', ?_⟩
   ·simp [stepG.apply, hr0, G, fat, hk', GStep.after, -Sem.runT_eq]
   ·refine WPG.walkW (hx _ _ (fun g H => FanW P T γ g H) (fun v H₁ r => ?_) fun ch H₁ r => ?_) fun _ _ h => h
    ·rw [hfin]; exact .stop (r b k cs T hk hl hc) (Hp.le_refl _)
    ·exact .stop ((hc _ (.panic ch) a H₁ r) _) (Hp.le_refl _)
  | _ => exact hx.elim
 ·refine ⟨G { fat b a (.inRegion ops (i :: rest) :: k) with mode := .panicking [{ v, recovered := false }] } cs, w', seen P b.fn es, H', ?_, hm', hc _ (.panic _) a H' hv _⟩
  simp [stepG.apply, hr0, G, fat, hk', GStep.after, Frame.raise, -Sem.runT_eq]
theorem Dz0 {c : Code} {ch wg : Nat} {ty : TypeId} (D : Nat -> Prop) (hc : H ch = some (true, .chan 0 #[] false 0 0 false)) (hb : H wg = some (true, wgO ty 0 0)) (hD : ∀ x, D x -> ∃ o, H x = some (true, o)) (h : wpV P c Q (.busy ch wg ty 0 0 [] false D) a ((H.del ch).del wg)) : wpV P c Q .idle a H :=
 fun b k cs T hk hl hq => .opn hc hb hD (h b k cs T hk hl hq)
theorem Djz (c : Nat) (z v : Value) (ok : Bool) : commResult #[rcase c z] (.recv true) 0 v ok = .tuple #[v, .bool ok] := by
 simp [commResult, rcase]
theorem Dzq {ops : Array Oper} {i : Nat} {rest : List Nat} {o : Oper} {d : Deferred} {f : Fn} {cap' : Array Value} {c wg n : Nat} {ty : TypeId} {D : Nat -> Prop} {L : List Value} {v : Value} {H' Hc : Hp} (ho : ops[i]? = some o) (hw : Region.wanted o (yielded ops a.tmps) = true)
  (hr : ∀ w, Sat H w -> (execOp a.eval o).runT P w #[] = (.ok (.spawn d) w, #[])) (hd : d.target = .fn f cap')
  (hc : ∀ b p o, Hc b = some (p, o) -> p = false /\ H' b = some (false, o)) (hH : ∀ b p o, H' b = some (p, o) -> ∃ p', H b = some (p', o) /\ (p = true -> p' = true))
  (hwk : WPG P (.own false) (Bxc P c wg ty v) (born P d) Hc) (hn : opsV P ops rest Q (.busy c wg ty n 0 (v :: L) false D) (a.put o.dst undef) H') : opsV P ops (i :: rest) Q (.busy c wg ty n 0 L false D) a H :=
 fun b k cs T hk hl' hq => .spawn rfl (fun w hs => Bx6 (main := .own true) ho hw hk hl' (hr w hs) hd) hc hH hwk.othW (hn b k cs T hk hl' hq)
theorem Cvb {ops : Array Oper} {i : Nat} {rest : List Nat} {o : Oper} {d : Deferred} {f : Fn} {cap' : Array Value} {c wg n : Nat} {ty : TypeId} {D : Nat -> Prop} {L : List Value} {H' Hc : Hp} (ho : ops[i]? = some o) (hw : Region.wanted o (yielded ops a.tmps) = true) (hl : n = L.length)
  (hr : ∀ w, Sat H w -> (execOp a.eval o).runT P w #[] = (.ok (.spawn d) w, #[])) (hd : d.target = .fn f cap')
  (hc : ∀ b p o, Hc b = some (p, o) -> p = false /\ H' b = some (false, o)) (hH : ∀ b p o, H' b = some (p, o) -> ∃ p', H b = some (p', o) /\ (p = true -> p' = true))
  (hwk : ∃ ρ, OthW P c wg ty ρ (born P d) (.wait Hc 0 n)) (hn : opsV P ops rest Q (.busy c wg ty n 0 L true D) (a.put o.dst undef) H') : opsV P ops (i :: rest) Q (.busy c wg ty n 0 L false D) a H :=
 fun b k cs T hk hl' hq => .hire rfl hl (fun w hs => Bx6 (main := .own true) ho hw hk hl' (hr w hs) hd) hc hH hwk (hn b k cs T hk hl' hq)
theorem Cvc {ops : Array Oper} {i : Nat} {rest : List Nat} {o : Oper} {c wg n : Nat} {ty : TypeId} {D : Nat -> Prop} {L : List Value} {z : Value} (ho : ops[i]? = some o) (hw : Region.wanted o (yielded ops a.tmps) = true) (hL : L ≠ [])
  (hr : ∀ w, Sat H w -> (execOp a.eval o).runT P w #[] = (.ok (.comm #[rcase c z] true (.recv true)) w, #[]))
  (hn : ∀ v L', L.Perm (v :: L') -> opsV P ops rest Q (.busy c wg ty n 0 L' true D) (a.put o.dst (.tuple #[v, .bool true])) H) : opsV P ops (i :: rest) Q (.busy c wg ty n 0 L true D) a H :=
 fun b k cs T hk hl' hq => .recv rfl hL (fun w hs => Awe (main := .own true) ho hw hk hl' (hr w hs)) fun v L' hp => by
  rw [Ckn ho, Djz]
  exact hn v L' hp b k cs T hk hl' hq
theorem Cvd {ops : Array Oper} {i : Nat} {rest : List Nat} {o : Oper} {c wg n : Nat} {ty : TypeId} {D : Nat -> Prop} {z : Value} (G' : Hp) (ho : ops[i]? = some o) (hw : Region.wanted o (yielded ops a.tmps) = true)
  (hr : ∀ w, Sat H w -> (execOp a.eval o).runT P w #[] = (.ok (.comm #[rcase c z] true (.recv true)) w, #[])) (hG : ∀ b p o, G' b = some (p, o) -> ∃ p', H b = some (p', o) /\ (p = true -> p' = true ∨ D b))
  (hn : opsV P ops rest Q .idle (a.put o.dst (.tuple #[z, .bool false])) G') : opsV P ops (i :: rest) Q (.busy c wg ty n 0 [] true D) a H :=
 fun b k cs T hk hl' hq => .shut rfl (fun w hs => Awe (main := .own true) ho hw hk hl' (hr w hs)) (fun w hs => Awe (main := .own true) ho hw hk hl' (hr w hs)) hG (by
  rw [Ckn ho, Djz]
  exact hn b k cs T hk hl' hq)
theorem Cy0 {Lk : WgLink} (HL : WgLib P Lk) {ops : Array Oper} {i : Nat} {rest : List Nat} {o : Oper} {x y : Operand} {ats : Array TypeId} {c wg n : Nat} {D : Nat -> Prop} {L : List Value} (ho : ops[i]? = some o) (hw : Region.wanted o (yielded ops a.tmps) = true)
  (hop : o.op = .call { callee := .value (.func Lk.add), args := #[x, y], argTypes := ats }) (hx : a.eval x = .pointer (some ⟨wg, 0, none⟩)) (hy : a.eval y = .int .i64 1) (hn1 : n < 99)
  (hn : opsV P ops rest Q (.busy c wg Lk.tWg (n + 1) 0 L false D) (a.put o.dst (.tuple #[])) H) : opsV P ops (i :: rest) Q (.busy c wg Lk.tWg n 0 L false D) a H := fun b k cs T hk hl' hq => by
 have hfat : ∀ (a : Act) (todo : List Item), fat b a todo = b.at a todo := fun a todo => by
  cases b
  simp only at hl'
  subst hl'
  rfl
 have hn' := hn b k cs T hk hl' hq
 simp only [hfat] at hn' ⊢
 refine (Quiet.fan (d := 0)).enter2 (b := b) ho hw hk hop HL.f_add (Go.ConcR.Gen.nm_add Lk) Aw7 #[.pointer (some ⟨wg, 0, none⟩), .int .i64 1] 115 (by simp [hx, hy]) rfl ?_
 refine Dqt HL hn1 ?_
 rw [ho]
 exact hn'
end
end Go.X
end
