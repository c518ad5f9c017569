/- Texts Recov Iter Count Like Fork Work Flow Chan Lend WFork WWork WLaw WLink Keep Ext. -/
import Derived.Test.YtnfnaehonkbknaaGreatDoorJ05
import Derived.Test.YtnfnaehonkbknaaGreatDoorJ07
import Derived.Test.YtnfnaehonkbknaaGreatDoorJ12
import Derived.Conc.Own2
import Derived.Conc.DeferLaws
import Derived.Test.YtnfnaehonkbknaaGreatDoorChecked
import Derived.Conc.WgLib
set_option linter.defProp false
set_option linter.unusedSimpArgs false
set_option linter.unusedVariables false
set_option maxRecDepth 100000
set_option maxHeartbeats 2000000
section
namespace Go.X
open Go
open Go.Conc (G base)
section
variable {P : Program} {main : Md} {lp : Option Nat} {Q : Exit -> Act -> Hp -> Prop} {a : Act} {H : Hp}
theorem Bwn {f : FuncId} {fn : Func} {id : Nat} {rest : List Oper} {dst : Option Tmp} {ats : Array TypeId} {ty : TypeId} {pos : String} {af : Array Edge} {y : Code} {args cap : Array Value} {R : FrameMode -> Hp -> Prop} {m : FrameMode} {v : Value}
  (hf : P.funcs[f]? = some fn) (hb : fn.body = some (.seq (.region id (⟨dst, .call ⟨.builtin .recover, #[], ats⟩, ty, pos, af, none⟩ :: rest).toArray false) y))
  (hcall : ∀ (args : Array Value) (H : Hp) (K : Next -> Hp -> Prop) (E : Value -> Hp -> Prop), wpS P (callFunc f args) H K E = K (.enter f args) H)
  (hm : m = .returning /\ v = .nilIface ∨ m = .panicking [{ v := v, recovered := false }])
  (h : ∀ K : Act -> Hp -> Prop, (∀ a' H', wpX P main none y (Dvs P fn (R .returning)) a' H' -> K a' H') ->
   runL P main none (dst :: rest.map (·.dst)) (only K) rest (Act.put { tmps := (args ++ cap) ++ Array.replicate (fn.ntmps - (args ++ cap).size) undef, defers := [] } dst v) H) :
  DefX P main m { target := .fn (.func f) cap, args := args } H R := by
 intro fr cs Stop hmode hR
 have h2 : wpS P (invoke (.fn (.func f) cap) args) H (fun x H' => x = .enter f (args ++ cap) /\ H' = H) (fun _ _ => False) := by
  simp only [invoke]
  rw [hcall]
  exact ⟨rfl, rfl⟩
 refine WPG.tree (s := invoke (.fn (.func f) cap) args) rfl h2 (fun g' H' => g' = G (Frame.enter P f (args ++ cap) .deferred) (fr :: cs) /\ H' = H) (fun w w' H' es v hr' hm' hk' => ?_) (fun _ _ _ _ _ _ _ he => he.elim) ?_
 ·obtain ⟨rfl, rfl⟩ := hk'
  refine ⟨_, seen P fr.fn es, ?_, fun e => mem_seen, rfl, rfl⟩
  rcases hm with ⟨hm, _⟩ | hm
  ·rw [hm] at hmode
   simp [stepG, unwind, callDeferred, G, hmode, hr', GStep.after, -Sem.runT_eq]
   cases fr; simp_all
  ·rw [hm] at hmode
   simp [stepG, unwind, callDeferred, G, hmode, hr', GStep.after, -Sem.runT_eq]
   cases fr; simp_all
 ·rintro g' H' ⟨rfl, rfl⟩
  have he : Frame.enter P f (args ++ cap) .deferred = fat { base f with kind := .deferred } { tmps := (args ++ cap) ++ Array.replicate (fn.ntmps - (args ++ cap).size) undef, defers := [] } [.code (.seq (.region id (⟨dst, .call ⟨.builtin .recover, #[], ats⟩, ty, pos, af, none⟩ :: rest).toArray false) y)] := by
   simp [Frame.enter, fat, hf, hb, base]; rfl
  rw [he]
  generalize ({ tmps := (args ++ cap) ++ Array.replicate (fn.ntmps - (args ++ cap).size) undef, defers := [] } : Act) = a0 at h ⊢
  clear he h2
  generalize ho : (⟨dst, .call ⟨.builtin .recover, #[], ats⟩, ty, pos, af, none⟩ : Oper) = o at *
  have hrun := h _ (fun _ _ h => h)
  have hX : runX P main none (o :: rest).toArray (only fun a' H' => wpX P main none y (Dvs P fn (R .returning)) a' H') (List.range' 1 rest.length) (a0.put dst v) H' := by
   refine Aya (ops := (o :: rest).toArray) rest 1 _ _ (by simp) ?_
   have : (o :: rest).toArray.toList.map (·.dst) = dst :: rest.map (·.dst) := by simp [<- ho]
   rw [this]
   exact hrun
  clear hrun h
  have key : ∀ fr' : Frame, (fr' = fr /\ fr.mode = .returning ∨ fr' = { fr with mode := .panicking [{ v := v, recovered := true }] }) ->
    WPG P main Stop (G (fat { base f with kind := .deferred } (a0.put dst v) (.inRegion (o :: rest).toArray (List.range' 1 rest.length) :: [.code y])) (fr' :: cs)) H' := by
   intro fr' hfr
   have hret : ∀ (a' : Act) (H' : Hp) (k' : List Item), a'.defers = [] -> wpS P (results fn a'.tmps) H' (fun _ H' => R .returning H') (fun _ _ => False) -> WPG P main Stop (G { fat { base f with kind := .deferred } a' k' with mode := .returning } (fr' :: cs)) H' := fun a' H' k' hd hq => by
    refine WPG.tree rfl hq (fun g' H' => g' = G { fr with mode := .returning } cs /\ R .returning H') (fun w w' H' es v hr' hm' hk' => ?_) (fun _ _ _ _ _ _ _ he => he.elim) ?_
    ·refine ⟨_, seen P f es, ?_, fun e => mem_seen, rfl, hk'⟩
     rcases hfr with ⟨rfl, hfm⟩ | rfl
     ·simp [stepG, unwind, doReturn, fat, G, base, hd, hf, hr', hfm, GStep.after, -Sem.runT_eq]
      cases fr'; simp_all
     ·simp [stepG, unwind, doReturn, fat, G, base, hd, hf, hr', GStep.after, -Sem.runT_eq]
    ·rintro g' H' ⟨rfl, hq⟩
     exact hR _ _ hq
   refine Avm hX { base f with kind := .deferred } [.code y] (fr' :: cs) Stop (by simp [base]) rfl fun e a' H' q => ?_
   cases e with
   | normal =>
    refine q { base f with kind := .deferred } [] (fr' :: cs) Stop (by simp [base]) rfl fun e a' H' q => ?_
    cases e with
    | normal => exact .ctl (g' := G { fat { base f with kind := .deferred } a' [] with mode := .returning } (fr' :: cs)) rfl (fun w => by simp [G, stepG, stepG.exec, fat, base]; rfl) (hret a' H' _ q.1 q.2)
    | ret => exact fun k' => .ctl (g' := G { fat { base f with kind := .deferred } a' (.code .ret :: k') with mode := .returning } (fr' :: cs)) rfl (fun w => by simp [G, stepG, stepG.exec, fat, base]; rfl) (hret a' H' _ q.1 q.2)
    | panic ch => exact q.elim
    | exit id => exact q.elim
    | goto l => exact q.elim
    | outgrown => exact q.elim
   | ret => exact q.elim
   | panic ch => exact q.elim
   | exit id => exact q.elim
   | goto l => exact q.elim
   | outgrown => exact q.elim
  refine .ctl (g' := G (fat { base f with kind := .deferred } a0 (.code (.region id (o :: rest).toArray false) :: .code y :: [])) (fr :: cs)) rfl (fun w => by simp [G, stepG, stepG.exec, fat]) ?_
  refine .ctl (g' := G (fat { base f with kind := .deferred } a0 (.inRegion (o :: rest).toArray (List.range (o :: rest).toArray.size) :: .code y :: [])) (fr :: cs)) rfl (fun w => by simp [G, stepG, stepG.exec, fat]) ?_
  have hrange : List.range (o :: rest).toArray.size = 0 :: List.range' 1 rest.length := by
   rw [List.range_eq_range']
   simp [List.range'_succ]
  rw [hrange]
  have ho0 : (o :: rest).toArray[0]? = some o := by simp
  have hwant : Region.wanted o (yielded (o :: rest).toArray a0.tmps) = true := by rw [<- ho]; rfl
  have hex : ∀ ρ, execOp ρ o = pure .recover := fun ρ => by rw [<- ho]; rfl
  have hfin : ∀ u, (fat { base f with kind := .deferred } a0 (.inRegion (o :: rest).toArray (0 :: List.range' 1 rest.length) :: [.code y])).finish u = fat { base f with kind := .deferred } (a0.put dst u) (.inRegion (o :: rest).toArray (List.range' 1 rest.length) :: [.code y]) := fun u => by
   rw [Ax4, ho0, <- ho]; rfl
  have hdr : (default : Frame).roundOf = none := rfl
  rcases hm with ⟨hm, hv⟩ | hm
  ·rw [hm] at hmode
   refine .step (fun g' H'' => g' = G (fat { base f with kind := .deferred } (a0.put dst v) (.inRegion (o :: rest).toArray (List.range' 1 rest.length) :: [.code y])) (fr :: cs) /\ H'' = H') rfl (fun w hw => ⟨_, w, seen P f #[], H', ?_, (Moves.refl hw).seen f, rfl, rfl⟩) ?_
   ·rw [stepG_op ho0 hwant (.inl rfl), hex, hv, <- hfin]
    simp [stepG.apply, G, fat, base, tryRecover, hmode, hdr, GStep.after]
   ·rintro _ _ ⟨rfl, rfl⟩
    exact key fr (.inl ⟨rfl, hmode⟩)
  ·rw [hm] at hmode
   refine .step (fun g' H'' => g' = G (fat { base f with kind := .deferred } (a0.put dst v) (.inRegion (o :: rest).toArray (List.range' 1 rest.length) :: [.code y])) ({ fr with mode := .panicking [{ v := v, recovered := true }] } :: cs) /\ H'' = H') rfl (fun w hw => ⟨_, w, seen P f #[], H', ?_, (Moves.refl hw).seen f, rfl, rfl⟩) ?_
   ·rw [stepG_op ho0 hwant (.inl rfl), hex, <- hfin]
    simp [stepG.apply, G, fat, base, tryRecover, hmode, hdr, GStep.after]
   ·rintro _ _ ⟨rfl, rfl⟩
    exact key _ (.inr rfl)
end
end Go.X
end
section
namespace Go.X
open Go
theorem Ake : Value.nilFunc.cells = #[.nilFunc] := rfl
theorem cells_func (f : Fn) (a b : Array Value) : (Value.func f a b).cells = #[.func f a b] := rfl
def Ajp (P : Program) (main : Md) (v : Value) (args : Array Value) (H : Hp) (R : Ending -> Hp -> Prop) : Prop :=
 ∀ (K : Next -> Hp -> Prop) (E : Value -> Hp -> Prop), (∀ f ar H', Runs P main (Frame.enter P f ar .normal) H' R -> K (.enter f ar) H') ->
  (∀ l f tmps ar body H', Runs P main (Frame.round l f tmps ar body .normal) H' R -> K (.round l f tmps ar body) H') -> Bvl P v args H K E
theorem Ajp.mono {P : Program} {main : Md} {v : Value} {args : Array Value} {H : Hp} {R R' : Ending -> Hp -> Prop} (h : Ajp P main v args H R) (hr : ∀ e H', R e H' -> R' e H') : Ajp P main v args H R' :=
 fun K E h1 h2 => h K E (fun f ar H' x => h1 f ar H' (x.mono hr)) fun l f tmps ar body H' x => h2 l f tmps ar body H' (x.mono hr)
theorem Ajp.use {P : Program} {main : Md} {lp : Option Nat} {v : Value} {args : Array Value} {H : Hp} {R : Ending -> Hp -> Prop} {o : Oper} {a : Act} {next : Act -> Hp -> Prop} {Q : Exit -> Act -> Hp -> Prop} {E : Value -> Hp -> Prop}
  (h : Ajp P main v args H R) (hk : ∀ e H', R e H' -> Dx4 next Q o.dst a e H') : Bvl P v args H (Awt P main lp o a next Q) E := by
 refine h _ _ (fun f ar H' hr => ?_) (fun l f tmps ar body H' hr => ?_)
 ·rw [Aj4]
  exact hr.mono hk
 ·have hx : Awt P main lp o a next Q (.round l f tmps ar body) H' = Runs P main (Frame.round l f tmps ar body .normal) H' (Dx4 next Q o.dst a) := by
   unfold Awt
   congr 1
  rw [hx]
  exact hr.mono hk
def Bw5 (P : Program) (v : Value) (args : Array Value) (H : Hp) (K : Next -> Hp -> Prop) (E : Value -> Hp -> Prop) : Prop := wpS P (Deferred.ofValue v args) H (fun x H' => K (.defer x) H') E
theorem Cwe {P : Program} {H : Hp} (a : Act) (d : Option Tmp) (ty : TypeId) (pos : String) (af : Array Edge) (g : Option (Nat × Bool)) (K : Next -> Hp -> Prop) (E : Value -> Hp -> Prop) {t : Tmp} {args : Array Operand} {ats : Array TypeId} :
 wpS P (execOp a.eval ⟨d, .defer ⟨.value (.tmp t), args, ats⟩, ty, pos, af, g⟩) H K E = Bw5 P (a.eval (.tmp t)) (args.map a.eval) H K E := Czr _ _ _ _ _ _ _ _ _
theorem Cqw {P : Program} {H : Hp} (f : FuncId) (cap args : Array Value) (K : Next -> Hp -> Prop) (E : Value -> Hp -> Prop) : Bw5 P (.func (.func f) #[] cap) args H K E = K (.defer { target := .fn (.func f) cap, args := args }) H := by
 simp [Bw5, Deferred.ofValue, Aqe]
@[congr] theorem deferK_congr {P : Program} {c c' : Value} {args args' : Array Value} {K : Next -> Hp -> Prop} {E : Value -> Hp -> Prop} {H H' : Hp} (hc : c = c') (ha : args = args') (hH : H = H') : Bw5 P c args H K E = Bw5 P c' args' H' K E := by subst hc ha hH; rfl
theorem Bxy {P : Program} {main : Md} {o : Oper} {n : Nat} {e : Nat -> Value} {ds : List Deferred} {H : Hp} {K : Act -> Hp -> Prop} {Q : Exit -> Act -> Hp -> Prop} (d : Deferred) : Awt P main none o (act n e ds) K Q (.defer d) H = K ((act n e (d :: ds)).put o.dst undef) H := by
 simp [Awt]; rfl
structure Cvd (P : Program) (main : Md) (y : Value) (S : Nat -> Prop) (arg : Hp -> Value -> List Int -> Prop) (A : List Int -> Prop) (T : Bool -> List (List Int) -> Hp -> Prop) : Prop where
 keep : ∀ t L H H', T t L H -> (∀ b x, S b -> H b = some x -> H' b = some x) -> T t L H'
 ex : ∀ t L H b, T t L H -> S b -> H b ≠ none
 call : ∀ L H v l, T true L H -> arg H v l -> A l -> Ajp P main y #[v] H fun e H' => ∃ t, e = .returned (.bool t) /\ T t (L ++ [l]) H' /\ ∀ b x, ¬ S b -> H b = some x -> H' b = some x
end Go.X
namespace Go.Proofs.YtnfnaehonkbknaaGreatDoor
open Go Go.X
def OwnR (e : TypeId) (H : Hp) (v : Value) (cs : List Value) : Prop :=
 (v = .slice none 0 0 /\ cs = []) ∨
 ∃ (b : Nat) (c : Array Value) (cap : Nat), H b = some (true, .cells c e (0, 0)) /\ v = .slice (some ⟨b, 0, none⟩) cs.length cap /\ c.size = cap /\ cs.length <= cap /\ ∀ (i : Nat) (u : Value), cs[i]? = some u -> c[i]? = some u
theorem ownR_of {t : Option Nat} {H₀ H : Hp} {v : Value} {e : TypeId} {cs : List Value} (h : RowX t H₀ H v e cs) : OwnR e H v cs := by
 rcases h.2 with h | ⟨b, c, cap, _, h1, h2, h3, h4, h5⟩
 ·exact .inl h
 ·exact .inr ⟨b, c, cap, h1, h2, h3, h4, h5⟩
theorem OwnR.at {H : Hp} {v : Value} {e : TypeId} {cs : List Value} (h : OwnR e H v cs) {b : Nat} (hb : rowB v = some b) : ∃ c, H b = some (true, .cells c e (0, 0)) := by
 rcases h with ⟨rfl, _⟩ | ⟨b', c, cap, h1, rfl, h3, h4, h5⟩
 ·cases hb
 ·cases hb
  exact ⟨c, h1⟩
end Go.Proofs.YtnfnaehonkbknaaGreatDoor
end
section
namespace Go.Proofs.YtnfnaehonkbknaaGreatDoor
open Go Go.X
theorem Bk6 {P : Program} {main : Md} {lp : Option Nat} {c : Code} {Q : Exit -> Act -> Hp -> Prop} {n : Nat} {e : Nat -> Value} {ds : List Deferred} {H : Hp} (p : (Nat -> Value) -> Prop) (hp : p e) (h : ∀ e, p e -> wpX P main lp c Q (act n e ds) H) : wpX P main lp c Q (act n e ds) H := h e hp
theorem Cvb {P : Program} {main : Md} {Q : Exit -> Act -> Hp -> Prop} {n : Nat} {e : Nat -> Value} {ds : List Deferred} {H : Hp} {f : Operand} {t : Nat} {asg body : Code} {g : FuncId} {fi cap : Array Value} (hf : (act n e ds).eval f = .func (.func g) fi cap) (ht : t < n)
  (hcall : ∀ (args : Array Value) (H : Hp) (K : Next -> Hp -> Prop) (E : Value -> Hp -> Prop), wpS P (callFunc g args) H K E = K (.enter g args) H)
  (h : ∀ r l lo, H r = none -> (H.set r (.deferred (some []))) l = none -> lo.state = .ready -> lo.pending = none ->
   (∀ H v R, H l = some (true, .loop lo) -> wpX P main (some l) asg (thn (fun a H1 => H1 l = some (true, .loop lo) /\ wpX P main (some l) body (rnd l R) a (H1.set l (.loop { lo with state := .busy }))) fun _ _ _ => False) (act n (upd e t v) []) H -> Ajp P main (.func (.yield l) #[] #[]) #[v] H R) ->
   Runs P main (Frame.enter P g (fi ++ #[.func (.yield l) #[] #[]] ++ cap) .normal) ((H.set r (.deferred (some []))).set l (.loop lo)) (behind l r (act n e ds) Q)) :
  wpX P main none (.rangeFunc f #[t] asg body) Q (act n e ds) H := by
 refine Bwe hf hcall fun fn r l hr hl => ?_
 refine h r l _ hr hl rfl rfl fun H' v R hl' hw => ?_
 intro K E hK1 hK2
 refine Cqq ?_
 rw [hl', Czf]
 refine ⟨rfl, hK2 _ _ _ _ _ _ (Ckx ?_)⟩
 have he : (((#[t] : Array Tmp).zip #[v]).foldl (fun tmps (x : Tmp × Value) => tmps.setIfInBounds x.1 x.2) (act n e ds).tmps) = (act n (upd e t v) []).tmps := by
  have := congrArg Act.tmps (Aq3 (n := n) (e := e) (ds := ds) (v := v) ht)
  simpa [Act.put, act] using this
 have he2 : ({ tmps := ((#[t] : Array Tmp).zip #[v]).foldl (fun tmps (x : Tmp × Value) => tmps.setIfInBounds x.1 x.2) (act n e ds).tmps, defers := [] } : Act) = act n (upd e t v) [] := by
  rw [he]; rfl
 rw [he2]
 refine Az7 hw fun e' a' H'' q => ?_
 cases e' with
 | normal => exact ⟨_, q.1, rfl, q.2⟩
 | _ => exact q
theorem Cqd {n : Nat} {e : Nat -> Value} {ds : List Deferred} {l r : Nat} {Q : Exit -> Act -> Hp -> Prop} {v : Value} {H : Hp} {q : Loop} (h : H l = some (true, .loop q)) (h1 : q.state = .ready) (h2 : q.pending = none)
  (hk : Q .normal (act n e (coll r :: ds)) (H.set l (.loop { q with state := .exhausted }))) : behind l r (act n e ds) Q (.returned v) H := by
 refine ⟨q, h, by rw [h1]; simp, ?_⟩
 cases q
 simp only [] at h1 h2
 subst h1 h2
 exact hk
end Go.Proofs.YtnfnaehonkbknaaGreatDoor
end
section
namespace Go.Proofs.YtnfnaehonkbknaaGreatDoor
open Go Go.X Go.Proofs.Tryz
def Bqx := aN @Dyv (aN @Exh @Eqy)
theorem SlI.get {H : Hp} {a : Option Addr} {n cap : Nat} {xs : List Int} (h : SlI H (.slice a n cap) xs) {i : Nat} {x : Int} (hx : xs[i]? = some x) : ∃ (b o : Nat) (p : Bool) (c : Array Value) (fr : Nat × Nat), a = some ⟨b, o, none⟩ /\ H b = some (p, .cells c 3 fr) /\ c[o + i]? = some (.int .i64 x) := by
 obtain ⟨a', cap', he, _, hg⟩ := h
 cases he
 exact hg i x hx
theorem Bql (m : Md) (H : Hp) (v w : Value) (xs ys : List Int) (hv : SlI H v xs) (hw : SlI H w ys) (hx : xs.length <= 1000000) (hy : ys.length <= 1000000) :
  FnX Tryz.prog m 23 #[v, w] H fun e H' => e = .returned (.bool (decide (xs = ys))) /\ H' = H := by
 have hv0 := hv
 have hw0 := hw
 obtain ⟨va, vc, rfl, hvc, _⟩ := id hv
 obtain ⟨wa, wc, rfl, hwc, _⟩ := id hw
 refine Aql func23 rfl ntmps23 (by simp) ?_
 by_cases hl : xs.length = ys.length
 ·have hll := hl
  replace hl : xs.length <= ys.length /\ ys.length <= xs.length := by omega
  clear hll
  (refine @unH _ (zA Bqx ?_); (try clear hK K); intro K hK hc)
  refine Axc (fun w a' H' => ∃ e j, w = xs.length - j /\ j <= xs.length /\ a' = act 26 e [] /\ e 0 = .slice va xs.length vc /\ e 1 = .slice wa ys.length wc /\ e 5 = .int .i64 (j : Nat) /\ H' = H /\ (∀ i, i < j -> xs[i]? = ys[i]?)) (n := xs.length) ?_ ?_
  ·exact ⟨_, 0, by omega, by omega, rfl, rfl, rfl, rfl, by trivial, fun i h => by omega⟩
  ·rintro w' a' H' ⟨e, j, rfl, hj, rfl, e0, e1, e5, hH, hd⟩
   rw [hH]; clear hH H'
   by_cases hlt : j < xs.length
   ·obtain ⟨b, o, p, c, fr, hva, hb, hcx⟩ := SlI.get hv0 (List.getElem?_eq_getElem hlt)
    have hlt2 : j < ys.length := by omega
    obtain ⟨b2, o2, p2, c2, fr2, hwa, hb2, hcy⟩ := SlI.get hw0 (List.getElem?_eq_getElem hlt2)
    have hxj := List.getElem?_eq_getElem hlt
    have hyj := List.getElem?_eq_getElem hlt2
    generalize xs[j] = x at *
    generalize ys[j] = y at *
    subst hva hwa
    have hcx' : c[o + (j : Int).toNat * 1]? = some (.int .i64 x) := by simpa using hcx
    have hcy' : c2[o2 + (j : Int).toNat * 1]? = some (.int .i64 y) := by simpa using hcy
    clear hv hw hv0 hw0
    by_cases hxy : x = y
    ·replace hxy : x <= y /\ y <= x := by omega
     have hd2 : ∀ i, i < j + 1 -> xs[i]? = ys[i]? := fun i hi => by
      by_cases he : i = j
      ·rw [he, hxj, hyj]; congr 1; omega
      ·exact hd i (by omega)
     clear hd hxj hyj
     (refine @unH _ (zA Bqx ?_); (try clear hK K); intro K hK hc)
     (refine Akm 9 [(true, 0), (true, 1), (true, 2), (true, 3), (true, 4), (true, 5), (true, 6), (true, 7), (true, 8)] (by kernel_rfl) (by kernel_rfl) (by simp) (by kernel_rfl) ?_; intro K hK; (iterate 9 (refine @unH _ ?_; refine z3 Bqx ?_)); refine Ak8 (hK _ _ ?_); clear hK K; (try refine @unH _ (zQ ?_)))
     (refine @unH _ (zA Bqx ?_); (try clear hK K); intro K hK hc)
     exact ⟨_, by omega, _, j + 1, rfl, by omega, rfl, e0, e1, rfl, by trivial, hd2⟩
    ·have hne : xs ≠ ys := fun e => by rw [e, hyj] at hxj; exact hxy (Option.some.inj hxj).symm
     clear hd hxj hyj
     (refine @unH _ (zA Bqx ?_); (try clear hK K); intro K hK hc)
     (refine Akm 9 [(true, 0), (true, 1), (true, 2), (true, 3), (true, 4), (true, 5), (true, 6), (true, 7), (true, 8)] (by kernel_rfl) (by kernel_rfl) (by simp) (by kernel_rfl) ?_; intro K hK; (iterate 9 (refine @unH _ ?_; refine z3 Bqx ?_)); refine Ak8 (hK _ _ ?_); clear hK K; (try refine @unH _ (zQ ?_)))
     (refine @unH _ (zA Bqx ?_); (try clear hK K); intro K hK hc)
     (refine @unH _ ?_; refine z9 results23 ?_)
     rw [decide_eq_false hne]
     (refine ⟨?_, ?_⟩ <;> first | rfl | trivial | assumption)
   ·obtain rfl : j = xs.length := by omega
    (refine @unH _ (zA Bqx ?_); (try clear hK K); intro K hK hc)
    (refine @unH _ ?_; refine z9 results23 ?_)
    refine ⟨?_, by trivial⟩
    rw [decide_eq_true]
    exact List.ext_getElem? fun i => by
     by_cases hi : i < xs.length
     ·exact hd i hi
     ·rw [List.getElem?_eq_none (by omega), List.getElem?_eq_none (by omega)]
 ·have hne : xs ≠ ys := fun e => hl (by rw [e])
  (refine @unH _ (zA Bqx ?_); (try clear hK K); intro K hK hc)
  (refine @unH _ ?_; refine z9 results23 ?_)
  rw [decide_eq_false hne]
  (refine ⟨?_, ?_⟩ <;> first | rfl | trivial | assumption)
end Go.Proofs.YtnfnaehonkbknaaGreatDoor
end
section
namespace Go.X
open Go
open Go.Conc
section
variable {P : Program} {T : Goroutine -> Hp -> Prop} {γ : Gh}
end
abbrev Dw2 := Gh -> Exit -> Act -> Hp -> Prop
section
variable {P : Program} {γ : Gh} {Q : Dw2} {a : Act} {H : Hp}
theorem Bjj {main : Md} {b : Frame} {k : List Item} {cs : List Frame} {w : World} {ops : Array Oper} {i : Nat} {rest : List Nat} {o : Oper} {d : Deferred} {f : Fn} {c : Array Value} (ho : ops[i]? = some o) (hw : Region.wanted o (yielded ops a.tmps) = true)
  (hk : b.kind ≠ .early) (hl : b.roundOf = none) (hr : (execOp a.eval o).runT P w #[] = (.ok (.spawn d) w, #[])) (hd : d.target = .fn f c) :
  stepG P main (G (fat b a (.inRegion ops (i :: rest) :: k)) cs) w = .spawn (G (fat b (a.put o.dst undef) (.inRegion ops rest :: k)) cs) (born P d) w #[] := by
 have hk' : (b.kind == CallKind.early) = false := by simpa using hk
 have hfin : (fat b a (.inRegion ops (i :: rest) :: k)).finish undef = fat b (a.put o.dst undef) (.inRegion ops rest :: k) := by rw [Ax4, ho]; rfl
 rw [stepG_op ho hw (.inl hl), <- hfin]
 simp [stepG.apply, hr, G, fat, hk', GStep.after, born, hd, seen_none, -Sem.runT_eq]
theorem Ayc {main : Md} {b : Frame} {k : List Item} {cs : List Frame} {w : World} {ops : Array Oper} {i : Nat} {rest : List Nat} {o : Oper} {cases : Array CommCase} {bl : Bool} {shape : CommShape} (ho : ops[i]? = some o) (hw : Region.wanted o (yielded ops a.tmps) = true)
  (hk : b.kind ≠ .early) (hl : b.roundOf = none) (hr : (execOp a.eval o).runT P w #[] = (.ok (.comm cases bl shape) w, #[])) :
  stepG P main (G (fat b a (.inRegion ops (i :: rest) :: k)) cs) w = .comm (G (fat b a (.inRegion ops (i :: rest) :: k)) cs) cases bl shape w #[] := by
 have hk' : (b.kind == CallKind.early) = false := by simpa using hk
 rw [stepG_op ho hw (.inl hl)]
 simp [stepG.apply, hr, G, fat, hk', GStep.after, seen_none, -Sem.runT_eq]
theorem Cwk {b : Frame} {k : List Item} {cs : List Frame} {ops : Array Oper} {i : Nat} {rest : List Nat} {o : Oper} (ho : ops[i]? = some o) (cases : Array CommCase) (shape : CommShape) (j : Int) (v : Value) (ok : Bool) :
  (G (fat b a (.inRegion ops (i :: rest) :: k)) cs).finishComm P cases shape j v ok = G (fat b (a.put o.dst (commResult cases shape j v ok)) (.inRegion ops rest :: k)) cs := by
 have hfin : ∀ v, (fat b a (.inRegion ops (i :: rest) :: k)).finish v = fat b (a.put o.dst v) (.inRegion ops rest :: k) := fun v => by rw [Ax4, ho]; rfl
 simp [Goroutine.finishComm, G, hfin]
end
end Go.X
end
section
namespace Go.X
open Go
open Go.Conc
def Avb (P : Program) : Frame := { (default : Frame) with fn := P.funcs.size, defers := [], mode := .panicking [goexitEntry] }
section
variable {P : Program} {md : Md} {Stop : Goroutine -> Hp -> Prop} {H : Hp} {a : Act}
theorem WPG.born {f : FuncId} {cap args : Array Value} (hcall : ∀ (args : Array Value) (H : Hp) (K : Next -> Hp -> Prop) (E : Value -> Hp -> Prop), wpS P (callFunc f args) H K E = K (.enter f args) H)
  (h : WPG P md Stop (G (Frame.enter P f (args ++ cap) .deferred) [Avb P]) H) : WPG P md Stop (Go.Conc.born P { target := .fn (.func f) cap, args := args }) H := by
 have h2 : wpS P (invoke (.fn (.func f) cap) args) H (fun x H' => x = .enter f (args ++ cap) /\ H' = H) (fun _ _ => False) := by
  simp only [invoke]
  rw [hcall]
  exact ⟨rfl, rfl⟩
 refine WPG.tree (s := invoke (.fn (.func f) cap) args) rfl h2 (fun g' H' => g' = G (Frame.enter P f (args ++ cap) .deferred) [Avb P] /\ H' = H) (fun w w' H' es v hr' hm' hk' => ?_) (fun _ _ _ _ _ _ _ he => he.elim) ?_
 ·obtain ⟨rfl, rfl⟩ := hk'
  refine ⟨_, seen P P.funcs.size es, ?_, fun e => mem_seen, rfl, rfl⟩
  simp [Go.Conc.born, stepG, unwind, callDeferred, G, hr', GStep.after, Avb, -Sem.runT_eq]
 ·rintro g' H' ⟨rfl, rfl⟩
  exact h
theorem Aym {f : FuncId} {fn : Func} {c : Code} (args : Array Value) (hf : P.funcs[f]? = some fn) (hb : fn.body = some c) :
  Frame.enter P f args .deferred = fat (baseD f) { tmps := args ++ Array.replicate (fn.ntmps - args.size) undef, defers := [] } [.code c] := by
 simp [Frame.enter, fat, hf, hb, baseD]
 rfl
theorem Ckw {n : Nat} {g g' : Goroutine} (hs : g.status = .running) (h : ∀ w, stepG P false g w = .go g' w #[]) (hq : QuitsIn P n g') : QuitsIn P (n + 1) g := .inr ⟨hs, g', h, hq⟩
theorem WPG.op {b : Frame} {k : List Item} {cs : List Frame} {ops : Array Oper} {i : Nat} {rest : List Nat} {o : Oper} (ho : ops[i]? = some o) (hw : Region.wanted o (yielded ops a.tmps) = true) (hk : b.kind ≠ .early) (hl : b.roundOf = none)
  (h : opX P md none o a H (fun a' H' => WPG P md Stop (G (fat b a' (.inRegion ops rest :: k)) cs) H') fun _ _ _ => False) : WPG P md Stop (G (fat b a (.inRegion ops (i :: rest) :: k)) cs) H := by
 have hk' : (b.kind == CallKind.early) = false := by simpa using hk
 have hfin : ∀ v, (fat b a (.inRegion ops (i :: rest) :: k)).finish v = fat b (a.put o.dst v) (.inRegion ops rest :: k) := fun v => by rw [Ax4, ho]; rfl
 refine .step (fun g' H' => WPG P md Stop g' H') rfl (fun w hs => ?_) fun _ _ h => h
 rw [stepG_op ho hw (.inl hl)]
 obtain ⟨es, w', H', hm, r, hr, hd'⟩ := Ak1 _ w hs h
 have hm' : Moves H w (seen P b.fn es) H' w' := hm.seen b.fn
 have hr0 : (execOp a.eval o).runT P w #[] = (r, es) := by rw [hr #[]]; simp
 rcases hd' with ⟨x, rfl, hx⟩ | ⟨v, rfl, hv⟩
 ·cases x with
  | value v =>
   refine ⟨G (fat b (a.put o.dst v) (.inRegion ops rest :: k)) cs, w', seen P b.fn es, H', ?_, hm', hx⟩
   rw [<- hfin]
   simp [stepG.apply, hr0, G, fat, hk', GStep.after, -Sem.runT_eq]
  | skip =>
   refine ⟨G (fat b (a.put o.dst undef) (.inRegion ops rest :: k)) cs, w', seen P b.fn es, H', ?_, hm', hx⟩
   rw [<- hfin]
   simp [stepG.apply, hr0, G, fat, hk', GStep.after, -Sem.runT_eq]
  | defer d =>
   refine ⟨G (fat b ({ a with defers := d :: a.defers }.put o.dst undef) (.inRegion ops rest :: k)) cs, w', seen P b.fn es, H', ?_, hm', hx.2⟩
   have : ({ fat b a (.inRegion ops (i :: rest) :: k) with defers := d :: a.defers } : Frame).finish undef = fat b ({ a with defers := d :: a.defers }.put o.dst undef) (.inRegion ops rest :: k) := by
    have := Ax4 b { a with defers := d :: a.defers } ops i rest k undef
    rw [ho] at this
    exact this
   rw [<- this]
   simp [stepG.apply, hr0, G, fat, hk', GStep.after, -Sem.runT_eq]
  | enter f args =>
   refine ⟨G (Frame.enter P f args .normal) (fat b a (.inRegion ops (i :: rest) :: k) :: cs), w', seen P b.fn es, H', ?_, hm', ?_⟩
   ·simp [stepG.apply, hr0, G, fat, hk', GStep.after, -Sem.runT_eq]
   ·refine hx _ _ Stop (fun v H₁ r => ?_) fun ch H₁ r => ?_
    ·rw [hfin]; exact r
    ·exact r.elim
  | round l f tmps ars body =>
   refine ⟨G (Frame.round l f tmps ars body .normal) (fat b a (.inRegion ops (i :: rest) :: k) :: cs), w', seen P b.fn es, H', ?_, hm', ?_⟩
   ·simp [stepG.apply, hr0, G, fat, hk', GStep.after, -Sem.runT_eq]
   ·refine hx _ _ Stop (fun v H₁ r => ?_) fun ch H₁ r => ?_
    ·rw [hfin]; exact r
    ·exact r.elim
  | _ => exact hx.elim
 ·exact hv.elim
end
end Go.X
end
section
namespace Go.X
open Go
open Go.Conc
section
variable {P : Program} {md : Md} {Stop : Goroutine -> Hp -> Prop} {ops : Array Oper} {s : Nat} {K : Act -> Hp -> Prop}
def runU (P : Program) (md : Md) (ops : Array Oper) (s : Nat) (K : Act -> Hp -> Prop) : List Nat -> Act -> Hp -> Prop
 | [], _, _ => False
 | i :: rest, a, H => if i = s then rest = [] /\ K a H else ∃ o, ops[i]? = some o /\ Region.wanted o (yielded ops a.tmps) = true /\ opX P md none o a H (runU P md ops s K rest) fun _ _ _ => False
theorem Bkz {b : Frame} {k : List Item} {cs : List Frame} (hk : b.kind ≠ .early) (hl : b.roundOf = none) (hK : ∀ a H, K a H -> WPG P md Stop (G (fat b a (.inRegion ops [s] :: k)) cs) H) :
  ∀ (todo : List Nat) (a : Act) (H : Hp), runU P md ops s K todo a H -> WPG P md Stop (G (fat b a (.inRegion ops todo :: k)) cs) H
 | [], _, _, h => h.elim
 | i :: rest, a, H, h => by
  unfold runU at h
  by_cases hi : i = s
  ·rw [if_pos hi] at h
   obtain ⟨rfl, h⟩ := h
   rw [hi]
   exact hK a H h
  ·rw [if_neg hi] at h
   obtain ⟨o, ho, hw, h⟩ := h
   exact WPG.op ho hw hk hl (Aw8 h fun a' H' h' => Bkz hk hl hK rest a' H' h')
def Dvy (ops : Array Oper) : Bool := (List.range ops.size).all fun i => match ops[i]? with
 | some o => o.after.all fun e => !Region.binds .any e || decide (e.on < i)
 | none => true
def dstB (ops : Array Oper) : Bool := (List.range ops.size).all fun i => (List.range ops.size).all fun j => i == j || ((ops[i]?).bind (·.dst)).isNone || ((ops[i]?).bind (·.dst)) != ((ops[j]?).bind (·.dst))
def lastB (ops : Array Oper) (s : Nat) : Bool := (List.range ops.size).all fun j => j == s || (marked ops (List.range ops.size).reverse ((Array.replicate ops.size false).setIfInBounds s true)).getD j false
def left (ops : Array Oper) (listed : Array Bool) : Nat := (List.range ops.size).countP fun i => !listed.getD i false
theorem Bq2 {p q : Nat -> Bool} : ∀ {l : List Nat}, (∀ x ∈ l, p x = true -> q x = true) -> ∀ y ∈ l, q y = true -> p y = false -> l.countP p < l.countP q
 | [], _, y, hy, _, _ => by cases hy
 | x :: l, h, y, hy, h1, h2 => by
  rw [List.countP_cons, List.countP_cons]
  have hle : l.countP p <= l.countP q := List.countP_mono_left fun z hz => h z (by simp [hz])
  rcases List.mem_cons.1 hy with rfl | hy
  ·rw [h1, h2]; simp; omega
  ·have := Bq2 (fun z hz => h z (by simp [hz])) y hy h1 h2
   have hx := h x (by simp)
   cases hp : p x
   ·simp; omega
   ·simp [hx hp]; omega
theorem Dxv {listed : Array Bool} {i : Nat} (hi : i < ops.size) (hs : listed.size = ops.size) (hl : listed.getD i false = false) : left ops (listed.setIfInBounds i true) < left ops listed := by
 unfold left
 refine Bq2 (fun x _ hx => ?_) i (List.mem_range.2 hi) (by simp [hl]) (by simp [Array.getD, hs, hi])
 by_cases hxi : x = i
 ·subst hxi; simp [hl]
 ·rwa [getD_set_ne false (Ne.symm hxi)] at hx
theorem Dv9 {listed : Array Bool} (h : Region.ready .any ops listed = []) : ∀ fuel t, Region.linearise.go .any ops fuel t listed [] = []
 | 0, _ => rfl
 | fuel + 1, t => by
  simp only [Region.linearise.go]
  change (match (Region.ready .any ops listed)[t % (Region.ready .any ops listed).length]? with
   | some i => Region.linearise.go .any ops fuel (t / (Region.ready .any ops listed).length) (listed.setIfInBounds i true) [i]
   | none => [].reverse) = []
  rw [h]
  rfl
end
end Go.X
end
section
namespace Go.X
open Go
open Go.Conc
section
variable {P : Program} {main : Md} {lp : Option Nat} {Q : Exit -> Act -> Hp -> Prop} {a : Act} {H : Hp}
theorem Bzv (a : Act) (d : Option Tmp) (ty : TypeId) (pos : String) (af : Array Edge) (g : Option (Nat × Bool)) (K : Next -> Hp -> Prop) (E : Value -> Hp -> Prop) (t : TypeId) (x : Operand) :
 wpS P (execOp a.eval ⟨d, .makeChan t x, ty, pos, af, g⟩) H K E = wpS P (Instr.makeChan t (a.eval x)) H (fun v H' => K (.value v) H') E := Aqa _ _ _ _
theorem Cxt {t e : TypeId} (hu : P.underlying t = some (.slice e)) {n : Nat} (hs : ∀ w, (sizeOf e).run P w = .ok n w) (x : Option Addr) (len cap : Nat) (k k' : IntKind) (i j : Int) (h0 : 0 <= i) (h1 : i <= j) (h2 : j <= cap) (K : Value -> Hp -> Prop) (E : Value -> Hp -> Prop) :
  wpS P (Instr.sliceAt t (.slice x len cap) (none : Option Value) (some (.int k i)) (some (.int k' j))) H K E = K (.slice (if j.toNat = 0 then x else x.map (·.add 0)) i.toNat j.toNat) H := by
 unfold Instr.sliceAt Instr.slice Instr.sliceBounds
 simp [-bind_pure_comp, Aqa, Aqj hu, Aqe, Az9 k' j cap _ (by omega) h2, Az9 k i j.toNat _ h0 (by omega), Aq0 hs]
theorem add_zero' (x : Option Addr) : x.map (·.add 0) = x := by
 cases x with
 | none => rfl
 | some a => obtain ⟨b, o, s⟩ := a; cases s <;> rfl
theorem Bxu {t e : TypeId} (hu : P.underlying t = some (.slice e)) {n : Nat} (hs : ∀ w, (sizeOf e).run P w = .ok n w) (x : Option Addr) (len cap : Nat) (k k' : IntKind) (i j : Int) (h0 : 0 <= i) (h1 : i <= j) (h2 : j <= cap) (K : Value -> Hp -> Prop) (E : Value -> Hp -> Prop) :
  wpS P (Instr.sliceAt t (.slice x len cap) (none : Option Value) (some (.int k i)) (some (.int k' j))) H K E = K (.slice x i.toNat j.toNat) H := by
 rw [Cxt hu hs x len cap k k' i j h0 h1 h2, add_zero']
 simp
theorem Bxw {t : TypeId} (hs : ∀ w, (sizeOf t).run P w = .ok 1 w) (b o : Nat) (K : Unit -> Hp -> Prop) (E : Value -> Hp -> Prop) (x : Option Nat) : wpS P (Instr.storeAt t (.pointer (some ⟨b, o, none⟩)) (.chan x)) H K E = stor H b o (.chan x) (K ()) := Azn hs rfl b o K E
theorem Cwn {d : Option Tmp} {ty : TypeId} {pos : String} {af : Array Edge} {g : Option (Nat × Bool)} {t : Tmp} {ats : Array TypeId} {f : Fn} {fi cap : Array Value} (h : a.eval (.tmp t) = .func f fi cap) (w : World) :
  (execOp a.eval ⟨d, .go ⟨.value (.tmp t), #[], ats⟩, ty, pos, af, g⟩).runT P w #[] = (.ok (.spawn { target := .fn f cap, args := fi }) w, #[]) := by
 simp [execOp, resolve, h, Deferred.ofValue]
theorem Cyh {d : Option Tmp} {ty : TypeId} {pos : String} {af : Array Edge} {g : Option (Nat × Bool)} {x y : Operand} {c : Nat} {v : Value} (hx : a.eval x = .chan (some c)) (hy : a.eval y = v) (w : World) :
  (execOp a.eval ⟨d, .send x y, ty, pos, af, g⟩).runT P w #[] = (.ok (.comm #[scase c v (.tuple #[])] true .send) w, #[]) := by
 simp [execOp, hx, hy, scase]
end
end Go.X
end
section
namespace Go.X
open Go
theorem cells_chan (x : Option Nat) : (Value.chan x).cells = #[.chan x] := rfl
def Hp.leS (H H' : Hp) : Prop := ∀ b p o, H b = some (p, o) -> ∃ p', H' b = some (p', o) /\ (p' = true -> p = true)
theorem Hp.leS.refl {H : Hp} : H.leS H := fun _ p _ h => ⟨p, h, id⟩
theorem Hp.leS.trans {H H' H'' : Hp} (h : H.leS H') (h' : H'.leS H'') : H.leS H'' := fun b p o hb => let ⟨p', h1, h2⟩ := h b p o hb; let ⟨p'', h3, h4⟩ := h' b p' o h1; ⟨p'', h3, fun e => h2 (h4 e)⟩
theorem Hp.leS.set {H H' : Hp} {b : Nat} {o : Obj} (h : H.leS H') (hb : H b = none) : H.leS (H'.set b o) := fun x p o' hx => by
 obtain ⟨p', h1, h2⟩ := h x p o' hx
 exact ⟨p', by unfold Hp.set; rw [if_neg (fun e => by rw [e, hb] at hx; cases hx)]; exact h1, h2⟩
def Hp.lend (H : Hp) (eb : Nat) : Hp := fun b => if b = eb then H b else (H b).map fun q => (false, q.2)
def Hp.hand (H : Hp) (eb : Nat) : Hp := fun b => if b = eb then none else (H b).map fun q => (false, q.2)
theorem Hp.lend_leS {H : Hp} {eb : Nat} : H.leS (H.lend eb) := fun b p o h => by
 unfold Hp.lend
 by_cases hb : b = eb
 ·rw [if_pos hb]; exact ⟨p, h, id⟩
 ·rw [if_neg hb, h]; exact ⟨false, rfl, fun e => by cases e⟩
theorem Hp.hand_some {H : Hp} {eb b : Nat} {p : Bool} {o : Obj} (h : H b = some (p, o)) (hb : b ≠ eb) : H.hand eb b = some (false, o) := by simp [Hp.hand, hb, h]
theorem Hp.hand_lend {H : Hp} {eb : Nat} : ∀ b p o, H.hand eb b = some (p, o) -> p = false /\ H.lend eb b = some (false, o) := fun b p o h => by
 unfold Hp.hand at h
 unfold Hp.lend
 by_cases hb : b = eb
 ·rw [if_pos hb] at h; cases h
 ·rw [if_neg hb] at h ⊢
  cases hq : H b with
  | none => rw [hq] at h; cases h
  | some q => rw [hq] at h; cases h; exact ⟨rfl, rfl⟩
theorem Hp.lend_own {H : Hp} {eb : Nat} : ∀ b p o, H.lend eb b = some (p, o) -> ∃ p', H b = some (p', o) /\ (p = true -> p' = true) := fun b p o h => by
 unfold Hp.lend at h
 by_cases hb : b = eb
 ·rw [if_pos hb] at h; exact ⟨p, h, id⟩
 ·rw [if_neg hb] at h
  cases hq : H b with
  | none => rw [hq] at h; cases h
  | some q => obtain ⟨p', o'⟩ := q; rw [hq] at h; cases h; exact ⟨p', rfl, fun e => by cases e⟩
end Go.X
namespace Go.Proofs.YtnfnaehonkbknaaGreatDoor
open Go Go.X
def By9 (H H' : Hp) : Prop := ∀ b p c t fr, H b = some (p, .cells c t fr) -> ∃ p', H' b = some (p', .cells c t fr)
theorem SlI.cl {H H' : Hp} {w : Value} {xs : List Int} (hw : SlI H w xs) (hl : By9 H H') : SlI H' w xs := by
 obtain ⟨a, cap, h1, h2, h3⟩ := hw
 refine ⟨a, cap, h1, h2, fun i x hx => ?_⟩
 obtain ⟨b, o, p, c, fr, h4, h5, h6⟩ := h3 i x hx
 obtain ⟨p', h7⟩ := hl _ _ _ _ _ h5
 exact ⟨b, o, p', c, fr, h4, h7, h6⟩
theorem Bvv {H H' : Hp} (h : H.leS H') {b : Nat} (hb : H' b = none) : H b = none := by
 cases hx : H b with
 | none => rfl
 | some q => obtain ⟨p, o⟩ := q; obtain ⟨p', h1, _⟩ := h b p o hx; rw [hb] at h1; cases h1
end Go.Proofs.YtnfnaehonkbknaaGreatDoor
end
section
namespace Go.X
open Go
open Go.Conc Go.Conc.Lib
section
variable {P : Program} {T : Goroutine -> Hp -> Prop} {γ : GhW}
theorem FanW.ctl {g g' : Goroutine} {H : Hp} (hs : g.status = .running) (h : ∀ w, stepG P true g w = .go g' w #[]) (hg : FanW P T γ g' H) : FanW P T γ g H :=
 .step (fun x y => x = g' /\ y = H) hs (fun w hw => ⟨g', w, #[], H, h w, .refl hw, rfl, rfl⟩) fun x y e => by obtain ⟨rfl, rfl⟩ := e; exact hg
def Awa (P : Program) (T : Goroutine -> Hp -> Prop) (b : Frame) (k : List Item) (cs : List Frame) (γ : GhW) : Exit -> Act -> Hp -> Prop
 | .normal, a, H => FanW P T γ (G (fat b a k) cs) H
 | .exit id, a, H => ∀ k', exitTo id k' = exitTo id k -> FanW P T γ (G (fat b a (.code (.exit id) :: k')) cs) H
 | .goto l, a, H => ∀ k', gotoIn l k' = gotoIn l k -> FanW P T γ (G (fat b a (.code (.goto l) :: k')) cs) H
 | .ret, a, H => ∀ k', FanW P T γ (G (fat b a (.code .ret :: k')) cs) H
 | .panic ch, a, H => ∀ k', FanW P T γ (G { fat b a k' with mode := .panicking ch } cs) H
 | .outgrown, _, _ => False
theorem Awa.push {b : Frame} {x : Item} {k : List Item} {cs : List Frame} {e : Exit} {a : Act} {H : Hp} (hx : x.plain = true) (he : e ≠ .normal)
  (h : Awa P T b k cs γ e a H) : Awa P T b (x :: k) cs γ e a H := by
 cases e with
 | normal => exact absurd rfl he
 | exit id => exact fun k' hk => h k' (hk.trans (by cases x <;> simp_all [exitTo, Item.plain]))
 | goto l => exact fun k' hk => h k' (hk.trans (by cases x <;> simp_all [gotoIn, Item.plain]))
 | ret => exact h
 | panic ch => exact h
 | outgrown => exact h
theorem Awa.after {b : Frame} {k : List Item} {cs : List Frame} {e : Exit} {a : Act} {H : Hp} (h : Awa P T b k cs γ e a H) : After P (.own true) (fun g H => FanW P T γ g H) b k cs e a H := by
 cases e with
 | normal => exact .stop h (Hp.le_refl _)
 | exit id => exact fun k' hk => .stop (h k' hk) (Hp.le_refl _)
 | goto l => exact fun k' hk => .stop (h k' hk) (Hp.le_refl _)
 | ret => exact fun k' => .stop (h k') (Hp.le_refl _)
 | panic ch => exact fun k' => .stop (h k') (Hp.le_refl _)
 | outgrown => exact h
end
abbrev Cvi := GhW -> Exit -> Act -> Hp -> Prop
def wpV (P : Program) (c : Code) (Q : Cvi) (γ : GhW) (a : Act) (H : Hp) : Prop :=
 ∀ (b : Frame) (k : List Item) (cs : List Frame) (T : Goroutine -> Hp -> Prop), b.kind ≠ .early -> b.roundOf = none ->
  (∀ γ' e a' H', Q γ' e a' H' -> Awa P T b k cs γ' e a' H') -> FanW P T γ (G (fat b a (.code c :: k)) cs) H
def opsV (P : Program) (ops : Array Oper) (todo : List Nat) (Q : Cvi) (γ : GhW) (a : Act) (H : Hp) : Prop :=
 ∀ (b : Frame) (k : List Item) (cs : List Frame) (T : Goroutine -> Hp -> Prop), b.kind ≠ .early -> b.roundOf = none ->
  (∀ γ' e a' H', Q γ' e a' H' -> Awa P T b k cs γ' e a' H') -> FanW P T γ (G (fat b a (.inRegion ops todo :: k)) cs) H
section
variable {P : Program} {γ : GhW} {Q : Cvi} {a : Act} {H : Hp}
theorem Aww {c : Code} (h : wpX P (.own true) none c (Q γ) a H) : wpV P c Q γ a H := fun b k cs T hk hl hc =>
 WPG.walkW (h b k cs (fun g H => FanW P T γ g H) hk hl fun e a' H' q => (hc γ e a' H' q).after) fun _ _ h => h
theorem Dx6 {ops : Array Oper} {todo : List Nat} (h : opsX P (.own true) none ops todo (Q γ) a H) : opsV P ops todo Q γ a H := fun b k cs T hk hl hc =>
 WPG.walkW (h b k cs (fun g H => FanW P T γ g H) hk hl fun e a' H' q => (hc γ e a' H' q).after) fun _ _ h => h
theorem By7 {c : Code} {R : Exit -> Act -> Hp -> Prop} (h : wpV P c (fun γ e a H => γ = .idle /\ R e a H) .idle a H) : wpX P (.wg P) none c R a H := fun b k cs Stop hk hl hc => by
 refine .phase (fun g H => WPG P (.wg P) Stop g H) (h b k cs _ hk hl fun γ' e a' H' ⟨hγ, q⟩ => ?_) fun _ _ h => h
 subst hγ
 have := hc e a' H' q
 cases e with
 | normal => exact .stop this (Hp.le_refl _)
 | exit id => exact fun k' hk => .stop (this k' hk) (Hp.le_refl _)
 | goto l => exact fun k' hk => .stop (this k' hk) (Hp.le_refl _)
 | ret => exact fun k' => .stop (this k') (Hp.le_refl _)
 | panic ch => exact fun k' => .stop (this k') (Hp.le_refl _)
 | outgrown => exact this
theorem Cva {c : Code} {n : Nat} {e : Nat -> Value} {ds : List Deferred} (p : (Nat -> Value) -> Prop) (hp : p e) (h : ∀ e, p e -> wpV P c Q γ (act n e ds) H) : wpV P c Q γ (act n e ds) H := h e hp
theorem Aje {x y : Code} (h : wpV P x (fun γ' => thn (fun a' H' => wpV P y Q γ' a' H') (Q γ')) γ a H) : wpV P (.seq x y) Q γ a H := by
 intro b k cs T hk hl hc
 refine .ctl (g' := G (fat b a (.code x :: .code y :: k)) cs) rfl (fun w => by simp [G, stepG, stepG.exec, fat]) ?_
 refine h b (.code y :: k) cs T hk hl fun γ' e a' H' q => ?_
 cases e with
 | normal => exact q b k cs T hk hl hc
 | exit id => exact (hc _ _ _ _ q).push rfl (by simp)
 | goto id => exact (hc _ _ _ _ q).push rfl (by simp)
 | ret => exact Awa.push (x := .code y) (e := .ret) rfl (by simp) (hc _ _ _ _ q)
 | panic ch => exact Awa.push (x := .code y) (e := .panic ch) rfl (by simp) (hc _ _ _ _ q)
 | outgrown => exact q.elim
theorem Dzo {c : Operand} {x y : Code} {t : Bool} (ht : a.eval c = .bool t) (h : wpV P (if t then x else y) Q γ a H) : wpV P (.cond c x y) Q γ a H := by
 intro b k cs T hk hl hc
 refine .ctl (g' := G (fat b a (.code (if t then x else y) :: k)) cs) rfl (fun w => ?_) (h b k cs T hk hl hc)
 have he : (fat b a (.code (.cond c x y) :: k)).eval c = .bool t := by rw [Bvq]; exact ht
 simp only [fat] at he
 simp [G, stepG, stepG.exec, fat, he]
theorem Cjh (h : Q γ .normal a H) : wpV P .skip Q γ a H := fun b k cs _ _ _ hc =>
 .ctl (g' := G (fat b a k) cs) rfl (fun w => by simp [G, stepG, stepG.exec, fat]) (hc _ _ _ _ h)
theorem Cjf {id : Nat} (h : Q γ (.exit id) a H) : wpV P (.exit id) Q γ a H := fun _ k _ _ _ _ hc => hc _ _ _ _ h k rfl
theorem Bjs {id : Nat} {c : Code} (h : wpV P c (fun γ' => blk id (Q γ')) γ a H) : wpV P (.block id c) Q γ a H := by
 intro b k cs T hk hl hc
 refine .ctl (g' := G (fat b a (.code c :: .inBlock id :: k)) cs) rfl (fun w => by simp [G, stepG, stepG.exec, fat]) ?_
 refine h b (.inBlock id :: k) cs T hk hl fun γ' e a' H' q => ?_
 cases e with
 | normal => exact .ctl (g' := G (fat b a' k) cs) rfl (fun w => by simp [G, stepG, stepG.exec, fat]) (hc _ _ _ _ q)
 | exit id' =>
  by_cases hid : id' = id
  ·simp only [blk, hid, if_true] at q
   subst hid
   intro k' hk'
   have hx : exitTo id' k' = some k := hk'.trans (by simp [exitTo])
   exact .ctl (g' := G (fat b a' k) cs) rfl (fun w => by simp [G, stepG, stepG.exec, fat, hx]) (hc _ _ _ _ q)
  ·simp only [blk, hid, if_false] at q
   have hn : (id == id') = false := by simp; exact fun h => hid h.symm
   exact fun k' hk' => hc _ _ _ _ q k' (hk'.trans (by simp [exitTo, hn]))
 | goto l => exact fun k' hk' => hc _ _ _ _ q k' (hk'.trans (by simp [gotoIn]))
 | ret => exact hc _ _ _ _ q
 | panic ch => exact hc _ _ _ _ q
 | outgrown => exact q.elim
theorem Cjg {c : Code} (I : Nat -> GhW -> Act -> Hp -> Prop) {n : Nat} (h₀ : I n γ a H)
  (round : ∀ n γ a H, I n γ a H -> wpV P c (fun γ' => thn (fun a' H' => ∃ n', n' < n /\ I n' γ' a' H') (Q γ')) γ a H) : wpV P (.loop c) Q γ a H := by
 intro b k cs T hk hl hc
 have key : ∀ n γ a H, I n γ a H -> FanW P T γ (G (fat b a (.code c :: .inLoop c :: k)) cs) H := by
  intro n
  induction n using Nat.strongRecOn with
  | _ n ih =>
   intro γ a H hI
   refine round n γ a H hI b (.inLoop c :: k) cs T hk hl fun γ' e a' H' q => ?_
   cases e with
   | normal =>
    obtain ⟨n', hlt, hI'⟩ := q
    exact .ctl (g' := G (fat b a' (.code c :: .inLoop c :: k)) cs) rfl (fun w => by simp [G, stepG, stepG.exec, fat]) (ih n' hlt γ' a' H' hI')
   | exit id => exact (hc _ _ _ _ q).push rfl (by simp)
   | goto id => exact (hc _ _ _ _ q).push rfl (by simp)
   | ret => exact Awa.push (x := .inLoop c) (e := .ret) rfl (by simp) (hc _ _ _ _ q)
   | panic ch => exact Awa.push (x := .inLoop c) (e := .panic ch) rfl (by simp) (hc _ _ _ _ q)
   | outgrown => exact q.elim
 exact .ctl (g' := G (fat b a (.code c :: .inLoop c :: k)) cs) rfl (fun w => by simp [G, stepG, stepG.exec, fat]) (key n γ a H h₀)
theorem Avp {id : Nat} {ops : Array Oper} (h : opsV P ops (List.range ops.size) Q γ a H) : wpV P (.region id ops false) Q γ a H :=
 fun b k cs T hk hl hc => .ctl (g' := G (fat b a (.inRegion ops (List.range ops.size) :: k)) cs) rfl (fun w => by simp [G, stepG, stepG.exec, fat]) (h b k cs T hk hl hc)
theorem Bv1 {ops : Array Oper} (h : Q γ .normal a H) : opsV P ops [] Q γ a H := fun b k cs _ _ _ hc =>
 .ctl (g' := G (fat b a k) cs) rfl (fun w => by simp [G, stepG, stepG.exec, fat]) (hc _ _ _ _ h)
theorem Byk {ops : Array Oper} {i : Nat} {rest : List Nat} {o : Oper} (ho : ops[i]? = some o) (hw : Region.wanted o (yielded ops a.tmps) = true)
  (h : opX P (.own true) none o a H (fun a' H' => opsV P ops rest Q γ a' H') (Q γ)) : opsV P ops (i :: rest) Q γ a H := by
 intro b k cs T hk hl hc
 have hk' : (b.kind == CallKind.early) = false := by simpa using hk
 have hfin : ∀ v, (fat b a (.inRegion ops (i :: rest) :: k)).finish v = fat b (a.put o.dst v) (.inRegion ops rest :: k) := fun v => by rw [Ax4, ho]; rfl
 refine .step (fun g' H' => FanW P T γ g' H') rfl (fun w hs => ?_) fun _ _ h => h
 have hst := stepG_op (main := .own true) (P := P) (b := b) (k := k) (cs := cs) (w := w) (a := a) (rest := rest) ho hw (.inl hl)
 rw [show stepG P true _ w = _ from hst]
 obtain ⟨es, w', H', hm, r, hr, hd'⟩ := Ak1 _ w hs h
 have hm' : Moves H w (seen P b.fn es) H' w' := hm.seen b.fn
 have hr0 : (execOp a.eval o).runT P w #[] = (r, es) := by rw [hr #[]]; simp
 rcases hd' with ⟨x, rfl, hx⟩ | ⟨v, rfl, hv⟩
 ·cases x with
  | value v =>
   refine ⟨G (fat b (a.put o.dst v) (.inRegion ops rest :: k)) cs, w', seen P b.fn es, H', ?_, hm', hx b k cs T hk hl hc⟩
   rw [<- hfin]
   simp [stepG.apply, hr0, G, fat, hk', GStep.after, -Sem.runT_eq]
  | skip =>
   refine ⟨G (fat b (a.put o.dst undef) (.inRegion ops rest :: k)) cs, w', seen P b.fn es, H', ?_, hm', hx b k cs T hk hl hc⟩
   rw [<- hfin]
   simp [stepG.apply, hr0, G, fat, hk', GStep.after, -Sem.runT_eq]
  | defer d =>
   refine ⟨G (fat b ({ a with defers := d :: a.defers }.put o.dst undef) (.inRegion ops rest :: k)) cs, w', seen P b.fn es, H', ?_, hm', hx.2 b k cs T hk hl hc⟩
   have : ({ fat b a (.inRegion ops (i :: rest) :: k) with defers := d :: a.defers } : Frame).finish undef = fat b ({ a with defers := d :: a.defers }.put o.dst undef) (.inRegion ops rest :: k) := by
    have := Ax4 b { a with defers := d :: a.defers } ops i rest k undef
    rw [ho] at this
    exact this
   rw [<- this]
   simp [stepG.apply, hr0, G, fat, hk', GStep.after, -Sem.runT_eq]
  | enter f args =>
   refine ⟨G (Frame.enter P f args .normal) (fat b a (.inRegion ops (i :: rest) :: k) :: cs), w', seen P b.fn es, H', ?_, hm', ?_⟩
   ·simp [stepG.apply, hr0, G, fat, hk', GStep.after, -Sem.runT_eq]
   ·refine WPG.walkW (hx _ _ (fun g H => FanW P T γ g H) (fun v H₁ r => ?_) fun ch H₁ r => ?_) fun _ _ h => h
    ·rw [hfin]; exact .stop (r b k cs T hk hl hc) (Hp.le_refl _)
    ·exact .stop ((hc _ (.panic ch) a H₁ r) _) (Hp.le_refl _)
  | round l f tmps ars body =>
   refine ⟨G (Frame.round l f tmps ars body .normal) (fat b a (.inRegion ops (i :: rest) :: k) :: cs), w', seen P b.fn es, H', ?_, hm', ?_⟩
   ·simp [stepG.apply, hr0, G, fat, hk', GStep.after, -Sem.runT_eq]
   ·refine WPG.walkW (hx _ _ (fun g H => FanW P T γ g H) (fun v H₁ r => ?_) fun ch H₁ r => ?_) fun _ _ h => h
    ·rw [hfin]; exact .stop (r b k cs T hk hl hc) (Hp.le_refl _)
    ·exact .stop ((hc _ (.panic ch) a H₁ r) _) (Hp.le_refl _)
  | _ => exact hx.elim
 ·refine ⟨G { fat b a (.inRegion ops (i :: rest) :: k) with mode := .panicking [{ v, recovered := false }] } cs, w', seen P b.fn es, H', ?_, hm', hc _ (.panic _) a H' hv _⟩
  simp [stepG.apply, hr0, G, fat, hk', GStep.after, Frame.raise, -Sem.runT_eq]
theorem Dvc {c : Code} {ch wg : Nat} {ty : TypeId} (D : Nat -> Prop) (hc : H ch = some (true, .chan 0 #[] false 0 0 false)) (hb : H wg = some (true, wgO ty 0 0)) (hD : ∀ x, D x -> ∃ o, H x = some (true, o)) (h : wpV P c Q (.busy ch wg ty 0 0 [] false D) a ((H.del ch).del wg)) : wpV P c Q .idle a H :=
 fun b k cs T hk hl hq => .opn hc hb hD (h b k cs T hk hl hq)
theorem Dwe (c : Nat) (z v : Value) (ok : Bool) : commResult #[rcase c z] (.recv true) 0 v ok = .tuple #[v, .bool ok] := by
 simp [commResult, rcase]
theorem Dk4 {ops : Array Oper} {i : Nat} {rest : List Nat} {o : Oper} {d : Deferred} {f : Fn} {cap' : Array Value} {c wg n : Nat} {ty : TypeId} {D : Nat -> Prop} {L : List Value} {v : Value} {H' Hc : Hp} (ho : ops[i]? = some o) (hw : Region.wanted o (yielded ops a.tmps) = true)
  (hr : ∀ w, Sat H w -> (execOp a.eval o).runT P w #[] = (.ok (.spawn d) w, #[])) (hd : d.target = .fn f cap')
  (hc : ∀ b p o, Hc b = some (p, o) -> p = false /\ H' b = some (false, o)) (hH : ∀ b p o, H' b = some (p, o) -> ∃ p', H b = some (p', o) /\ (p = true -> p' = true))
  (hwk : WPG P (.own false) (Bzk P c wg ty v) (born P d) Hc) (hn : opsV P ops rest Q (.busy c wg ty n 0 (v :: L) false D) (a.put o.dst undef) H') : opsV P ops (i :: rest) Q (.busy c wg ty n 0 L false D) a H :=
 fun b k cs T hk hl' hq => .spawn rfl (fun w hs => Bjj (main := .own true) ho hw hk hl' (hr w hs) hd) hc hH hwk.othW (hn b k cs T hk hl' hq)
theorem Cw7 {ops : Array Oper} {i : Nat} {rest : List Nat} {o : Oper} {d : Deferred} {f : Fn} {cap' : Array Value} {c wg n : Nat} {ty : TypeId} {D : Nat -> Prop} {L : List Value} {H' Hc : Hp} (ho : ops[i]? = some o) (hw : Region.wanted o (yielded ops a.tmps) = true) (hl : n = L.length)
  (hr : ∀ w, Sat H w -> (execOp a.eval o).runT P w #[] = (.ok (.spawn d) w, #[])) (hd : d.target = .fn f cap')
  (hc : ∀ b p o, Hc b = some (p, o) -> p = false /\ H' b = some (false, o)) (hH : ∀ b p o, H' b = some (p, o) -> ∃ p', H b = some (p', o) /\ (p = true -> p' = true))
  (hwk : ∃ ρ, OthW P c wg ty ρ (born P d) (.wait Hc 0 n)) (hn : opsV P ops rest Q (.busy c wg ty n 0 L true D) (a.put o.dst undef) H') : opsV P ops (i :: rest) Q (.busy c wg ty n 0 L false D) a H :=
 fun b k cs T hk hl' hq => .hire rfl hl (fun w hs => Bjj (main := .own true) ho hw hk hl' (hr w hs) hd) hc hH hwk (hn b k cs T hk hl' hq)
theorem Cw8 {ops : Array Oper} {i : Nat} {rest : List Nat} {o : Oper} {c wg n : Nat} {ty : TypeId} {D : Nat -> Prop} {L : List Value} {z : Value} (ho : ops[i]? = some o) (hw : Region.wanted o (yielded ops a.tmps) = true) (hL : L ≠ [])
  (hr : ∀ w, Sat H w -> (execOp a.eval o).runT P w #[] = (.ok (.comm #[rcase c z] true (.recv true)) w, #[]))
  (hn : ∀ v L', L.Perm (v :: L') -> opsV P ops rest Q (.busy c wg ty n 0 L' true D) (a.put o.dst (.tuple #[v, .bool true])) H) : opsV P ops (i :: rest) Q (.busy c wg ty n 0 L true D) a H :=
 fun b k cs T hk hl' hq => .recv rfl hL (fun w hs => Ayc (main := .own true) ho hw hk hl' (hr w hs)) fun v L' hp => by
  rw [Cwk ho, Dwe]
  exact hn v L' hp b k cs T hk hl' hq
theorem Cw9 {ops : Array Oper} {i : Nat} {rest : List Nat} {o : Oper} {c wg n : Nat} {ty : TypeId} {D : Nat -> Prop} {z : Value} (G' : Hp) (ho : ops[i]? = some o) (hw : Region.wanted o (yielded ops a.tmps) = true)
  (hr : ∀ w, Sat H w -> (execOp a.eval o).runT P w #[] = (.ok (.comm #[rcase c z] true (.recv true)) w, #[])) (hG : ∀ b p o, G' b = some (p, o) -> ∃ p', H b = some (p', o) /\ (p = true -> p' = true ∨ D b))
  (hn : opsV P ops rest Q .idle (a.put o.dst (.tuple #[z, .bool false])) G') : opsV P ops (i :: rest) Q (.busy c wg ty n 0 [] true D) a H :=
 fun b k cs T hk hl' hq => .shut rfl (fun w hs => Ayc (main := .own true) ho hw hk hl' (hr w hs)) (fun w hs => Ayc (main := .own true) ho hw hk hl' (hr w hs)) hG (by
  rw [Cwk ho, Dwe]
  exact hn b k cs T hk hl' hq)
theorem Dx5 {Lk : WgLink} (HL : WgLib P Lk) {ops : Array Oper} {i : Nat} {rest : List Nat} {o : Oper} {x y : Operand} {ats : Array TypeId} {c wg n : Nat} {D : Nat -> Prop} {L : List Value} (ho : ops[i]? = some o) (hw : Region.wanted o (yielded ops a.tmps) = true)
  (hop : o.op = .call { callee := .value (.func Lk.add), args := #[x, y], argTypes := ats }) (hx : a.eval x = .pointer (some ⟨wg, 0, none⟩)) (hy : a.eval y = .int .i64 1) (hn1 : n < 99)
  (hn : opsV P ops rest Q (.busy c wg Lk.tWg (n + 1) 0 L false D) (a.put o.dst (.tuple #[])) H) : opsV P ops (i :: rest) Q (.busy c wg Lk.tWg n 0 L false D) a H := fun b k cs T hk hl' hq => by
 have hfat : ∀ (a : Act) (todo : List Item), fat b a todo = b.at a todo := fun a todo => by
  cases b
  simp only at hl'
  subst hl'
  rfl
 have hn' := hn b k cs T hk hl' hq
 simp only [hfat] at hn' ⊢
 refine (Quiet.fan (d := 0)).enter2 (b := b) ho hw hk hop HL.f_add (Go.ConcR.Gen.nm_add Lk) Bqe #[.pointer (some ⟨wg, 0, none⟩), .int .i64 1] 115 (by simp [hx, hy]) rfl ?_
 refine Dz1 HL hn1 ?_
 rw [ho]
 exact hn'
end
end Go.X
end
section
namespace Go.X
open Go
open Go.Conc Go.RowKit Go.Conc.Lib Go.ConcR.Gen Go.ConcN.Gen
open Go.ConcR (KK)
section
variable {P : Program} {md : Md} {Stop : Goroutine -> Hp -> Prop} {a : Act} {H : Hp} {b : Frame} {k : List Item} {cs : List Frame}
theorem WPG.code {x : Code} (hk : b.kind ≠ .early) (hl : b.roundOf = none) (h : wpX P md none x (only fun a' H' => WPG P md Stop (G (fat b a' k) cs) H') a H) : WPG P md Stop (G (fat b a (.code x :: k)) cs) H :=
 h b k cs Stop hk hl fun e a' H' q => by cases e <;> first | exact q | exact q.elim
theorem WPG.seqX {x y : Code} (hk : b.kind ≠ .early) (hl : b.roundOf = none) (h : wpX P md none x (only fun a' H' => WPG P md Stop (G (fat b a' (.code y :: k)) cs) H') a H) : WPG P md Stop (G (fat b a (.code (.seq x y) :: k)) cs) H :=
 .ctl (g' := G (fat b a (.code x :: .code y :: k)) cs) rfl (fun w => by simp [G, stepG, stepG.exec, fat]) (WPG.code hk hl h)
theorem WPG.regionX {id : Nat} {ops : Array Oper} (h : WPG P md Stop (G (fat b a (.inRegion ops (List.range ops.size) :: k)) cs) H) : WPG P md Stop (G (fat b a (.code (.region id ops false) :: k)) cs) H :=
 .ctl (g' := G (fat b a (.inRegion ops (List.range ops.size) :: k)) cs) rfl (fun w => by simp [G, stepG, stepG.exec, fat]) h
theorem WPG.endX {ops : Array Oper} (h : WPG P md Stop (G (fat b a k) cs) H) : WPG P md Stop (G (fat b a (.inRegion ops [] :: k)) cs) H :=
 .ctl (g' := G (fat b a k) cs) rfl (fun w => by simp [G, stepG, stepG.exec, fat]) h
theorem Cwj {b : Frame} {a : Act} {todo : List Item} (hl : b.roundOf = none) : fat b a todo = b.at a todo := by
 cases b
 simp only at hl
 subst hl
 rfl
end
theorem Quiet.wpg {P : Program} {Stop : Goroutine -> Hp -> Prop} {H : Hp} : Quiet P false (fun _ => True) fun g => WPG P (.own false) Stop g H :=
 ⟨fun hs h hn => .ctl hs (fun w => h w trivial) hn⟩
variable {L : WgLink}
theorem Dyi {P : Program} (HL : WgLib P L) {K : Hp} {f : FuncId} {fn : Func} {ops : Array Oper} {i : Nat} {o : Oper} {a : Act} {c Wg : Nat} {v z : Value} (ho : ops[i]? = some o) (hw : Region.wanted o (yielded ops a.tmps) = true)
  (hr : ∀ w, (execOp a.eval o).runT P w #[] = (.ok (.comm #[scase c v z] true .send) w, #[])) (hd : a.defers = [dcall L.done #[.pointer (some ⟨Wg, 0, none⟩)]]) (hf : P.funcs[f]? = some fn) (hres : fn.results = #[]) :
  Bzk P c Wg L.tWg v (G (fat (baseD f) a [.inRegion ops [i]]) [Avb P]) K := by
 refine ⟨rfl, _, z, fun w _ => Ayc (main := .own false) ho hw (by simp [baseD]) rfl (hr w), ?_⟩
 have hs : Go.Conc.served (G (fat (baseD f) a [.inRegion ops [i]]) [Avb P]) undef = G (fat (baseD f) (a.put o.dst undef) [.inRegion ops []]) [Avb P] := by
  have hfin : (fat (baseD f) a [.inRegion ops [i]]).finish undef = fat (baseD f) (a.put o.dst undef) [.inRegion ops []] := by rw [Ax4, ho]; rfl
  simp [Go.Conc.served, G, hfin]
 rw [hs, Cwj rfl]
 have hd' : (a.put o.dst undef).defers = [dcall L.done #[.pointer (some ⟨Wg, 0, none⟩)]] := by rw [<- hd]; cases o.dst <;> rfl
 generalize a.put o.dst undef = a' at *
 have hJ := Quiet.sent (P := P) (c := c) (b := Wg) (ty := L.tWg) K
 refine hJ.region_end (hJ.ends (hJ.unwind_enter hd' HL.f_done (Go.ConcR.Gen.nm_done L) (c := body_done L) rfl ?_))
 obtain ⟨qt, hq⟩ : ∃ n, QuitsD P n 0 (G { (baseD f).at ⟨a'.tmps, []⟩ [] with mode := .returning } [Avb P]) := by
  refine (Quiet.quits 0).ctl (g' := G (Avb P) []) rfl (fun w => ?_) ((Quiet.quits 0).ctl (g' := { G (Avb P) [] with status := .finished }) rfl (fun w => ?_) ⟨0, rfl, rfl⟩)
  ·simp [G, stepG, unwind, doReturn, Frame.at, baseD, hf, results, hres, Avb, goexitEntry, GStep.after, seen_none]
  ·simp [G, stepG, unwind, Avb, goexitEntry, Frame.catches]
   rfl
 exact Dw7 HL K (qt := qt) rfl hq
theorem Ckv {P : Program} {f : FuncId} {fn : Func} {a : Act} (hf : P.funcs[f]? = some fn) (hres : fn.results = #[]) (had : a.defers = []) : QuitsIn P 3 (G (fat (baseD f) a []) [Avb P]) := by
 refine .inr ⟨rfl, G { fat (baseD f) a [] with mode := .returning } [Avb P], fun w => by simp [G, stepG, stepG.exec, fat, baseD]; rfl, ?_⟩
 refine .inr ⟨rfl, G (Avb P) [], fun w => ?_, ?_⟩
 ·simp [G, stepG, unwind, doReturn, fat, baseD, had, hf, results, hres, Avb, goexitEntry, GStep.after, seen_none]
 ·refine .inr ⟨rfl, { G (Avb P) [] with status := .finished }, fun w => ?_, rfl⟩
  simp [G, stepG, unwind, Avb, goexitEntry, Frame.catches]
  rfl
theorem Dzd (P : Program) (fn : FuncId) (c : Nat) : seen P fn (clE c) = clE c := by
 rw [seen_def]
 simp [seenStep, clE]
theorem closeW {P : Program} {K : Hp} {f : FuncId} {fn : Func} {ops : Array Oper} {i : Nat} {o : Oper} {a : Act} {c Wg : Nat} {tWg : TypeId} {x : Operand} {ats : Array TypeId} (ho : ops[i]? = some o) (hw : Region.wanted o (yielded ops a.tmps) = true)
  (hop : o.op = .call { callee := .builtin .close, args := #[x], argTypes := ats }) (hx : a.eval x = .chan (some c)) (hd : a.defers = []) (hf : P.funcs[f]? = some fn) (hres : fn.results = #[]) :
  ∃ ρ, OthW P c Wg tWg ρ (G (fat (baseD f) a [.inRegion ops [i]]) [Avb P]) (.late K) := by
 obtain ⟨d, op, ty, pos, af, g⟩ := o
 simp only at hop
 subst hop
 refine Dq7 (g' := G (fat (baseD f) (a.put d (.tuple #[])) [.inRegion ops []]) [Avb P]) rfl ?_ (fun w r hs hc => ?_) rfl ?_
 ·simp [mayWake, G, fat, ho]
 ·have h1 := run_close_open (P := P) ats ty hc
  have h2 := events_close_open (P := P) (es := #[]) ats ty hc
  have hrun : (execOp a.eval ⟨d, .call { callee := .builtin .close, args := #[x], argTypes := ats }, ty, pos, af, g⟩).runT P w #[] = (.ok (.value (.tuple #[])) (World.lay w c (.chan 0 #[] true r r false)), clE c) := by
   simp [execOp, resolve, invoke, hx, builtin, h1, h2, World.lay, clE]
  have hfin : (fat (baseD f) a [.inRegion ops [i]]).finish (.tuple #[]) = fat (baseD f) (a.put d (.tuple #[])) [.inRegion ops []] := by rw [Ax4, ho]; rfl
  have hk' : ((baseD f).kind == CallKind.early) = false := rfl
  refine (stepG_op (main := .own false) (b := baseD f) (k := []) (cs := [Avb P]) (rest := []) ho hw (.inl rfl)).trans ?_
  simp only [stepG.apply, hrun]
  rw [<- hfin]
  simp [G, fat, hk', GStep.after, Dzd]
 ·have hd' : (a.put d (.tuple #[])).defers = [] := by rw [<- hd]; cases d <;> rfl
  exact ⟨_, Ckw (g' := G (fat (baseD f) (a.put d (.tuple #[])) []) [Avb P]) rfl (fun w => by simp [G, stepG, stepG.exec, fat]) (Ckv hf hres hd')⟩
end Go.X
end
section
namespace Go.X
open Go
open Go.Conc
theorem FnX.goodW {P : Program} {f : FuncId} {fn : Func} {args : Array Value} {W : World} {v₀ : Value} (h : FnX P (.wg P) f args (Bqa W) fun e _ => e = .returned v₀) (hf : P.funcs[f]? = some fn)
  (hr : ∀ tmps w v w', (results fn tmps).run P w = .ok v w' -> w' = w) (hi : P.inits.idxOf? f = none) :
  Ends P (fun v w => v = v₀ /\ Base W w) (solo (G (Frame.enter P f args .normal) []) W) #[] := by
 rw [solo_eq_crowd]
 have hW0 := h [] (fun g H => ∃ fr, g = G fr [] /\ fr.fn = f /\ Leaving P fr H fun e _ => e = .returned v₀) fun fr H' hfn hl => .stop ⟨fr, rfl, hfn, hl⟩ (Hp.le_refl _)
 have hI : WI P W .idle (Bqa W) #[G (Frame.enter P f args .normal) []] W #[] [] 0 (fun _ => .off 0) (fun _ => False) := by
  refine ⟨⟨fun x K hx => ?_, fun x y K K' hxy hx hy => ?_, fun x K hx b p o hb i a ha => (by simp [touchAt, Trace.act?] at ha), past_nil.clean, fun i a b ha => (by simp [touchAt, Trace.act?] at ha)⟩, rfl, fun i x hx => (by simp at hx), fun _ _ => rfl, rfl, fun i a ha => (by simp [touchAt, Trace.act?] at ha), fun i op a h => (by simp at h), fun y hy => hy.elim, ⟨rfl, rfl, Nat.le_refl _, fun _ _ => rfl⟩, fun x K b o hx hb => ?_, fun _ _ => rfl, rfl, fun _ i x K _ hq => (by cases hq), fun i x K st _ hq => (by cases hq), fun i => ⟨0, rfl⟩⟩
  ·by_cases hx0 : x = 0
   ·subst hx0; cases hx
    exact fun b p o hb => (Bqb hb).2
   ·simp [hpW, hx0, PhW.mem] at hx
  ·by_cases hx0 : x = 0
   ·by_cases hy0 : y = 0
    ·exact absurd (hx0.trans hy0.symm) hxy
    ·simp [hpW, hy0, PhW.mem] at hy
   ·simp [hpW, hx0, PhW.mem] at hx
  ·by_cases hx0 : x = 0
   ·subst hx0; cases hx
    exact absurd (Bqb hb).1 (by simp)
   ·simp [hpW, hx0, PhW.mem] at hx
 refine FanW.ends (W := W) ?_ hW0.fanW _ _ _ _ _ _ _ _ hI rfl
 rintro g H ⟨fr, rfl, hfn, hl⟩
 refine ⟨rfl, fun w hsat hB => ?_⟩
 rcases hl with ⟨hm, hd, hk, fn', hf', hres⟩ | ⟨ch, _, _, _, _, hres⟩
 ·obtain rfl : fn' = fn := Option.some.inj (hf'.symm.trans (by rw [hfn]; exact hf))
  obtain ⟨es, w', H', hmv, r, hrun, hd'⟩ := Ak1 _ w hsat hres
  have hr0 : (results fn' fr.tmps).runT P w #[] = (r, es) := by rw [hrun #[]]; simp
  rcases hd' with ⟨v, rfl, hv⟩ | ⟨v, _, hv⟩
  ·have hrun' : (results fn' fr.tmps).run P w = .ok v w' := by
    have := congrArg Prod.fst hr0
    simpa using this
   have := hr _ _ _ _ hrun'
   subst this
   have hv' : v = v₀ := by injection hv
   subst hv'
   refine ⟨v, seen P fr.fn es, ?_, ?_, rfl, hB⟩
   ·have hi' : P.inits.idxOf? fr.fn = none := by rw [hfn]; exact hi
    simp [G, stepG, unwind, doReturn, hm, hd, hk, hf', hr0, hi', GStep.after, -Sem.runT_eq]
   ·have hq := hmv.seen (P := P) fr.fn
    exact ⟨hsat, hq.size, fun _ _ _ => rfl, fun b p o' hb => .inl ⟨o', hb, fun _ => rfl⟩, rfl, rfl, rfl, hq.evs, hq.low⟩
  ·exact hv.elim
 ·cases hres
end Go.X
end
section
namespace Go.Proofs.YtnfnaehonkbknaaGreatDoor
open Go Go.Proofs.Tryz
def lk : Go.Conc.Lib.WgLink := { add := 75, done := 77, wait := 80, relMerge := 85, disable := 86, enable := 87, inBubble := 88, associate := 89, fatal := 90, uOr := 91, uAdd := 92, raceRead := 93, uLoad := 94, uStore := 95, disassociate := 96, semrelease := 97, acquire := 100, isAssociated := 101, uCas := 102, raceWrite := 103, semacquire := 104, orU64 := 108, addU64 := 109, loadU64 := 110, storeU64 := 111, casU64 := 116, tWgP := 161, tUP := 149, tAssoc := 163, tWg := 143, tAU := 140, tU64 := 78, tUint := 129, tU32 := 141, tPU32 := 167, tPAU := 194, tPU64 := 196, tNoCopy := 136, tANoCopy := 137, tAlign64 := 138 }
theorem wgLib : Go.Conc.Lib.WgLib Tryz.prog lk :=
 ⟨func75, func77, func80, func85, func86, func87, func88, func89, func90, func91, func92, func93, func94, func95, func96, func97, func100, func101, func102, func103, func104, func108, func109, func110, func111, func116, underlying161, Tryz.runUnderlying161, sizeOf161, Tryz.isAgg161, zeroValue161, underlying149, Tryz.runUnderlying149, sizeOf149, Tryz.isAgg149, zeroValue149, underlying163, Tryz.runUnderlying163, sizeOf163, Tryz.isAgg163, zeroValue163, underlying143, Tryz.runUnderlying143, sizeOf143, Tryz.isAgg143, zeroValue143, underlying140, Tryz.runUnderlying140, sizeOf140, Tryz.isAgg140, zeroValue140, underlying78, Tryz.runUnderlying78, sizeOf78, Tryz.isAgg78, zeroValue78, underlying129, Tryz.runUnderlying129, sizeOf129, Tryz.isAgg129, zeroValue129, underlying141, Tryz.runUnderlying141, sizeOf141, Tryz.isAgg141, zeroValue141, underlying167, Tryz.runUnderlying167, sizeOf167, Tryz.isAgg167, zeroValue167, underlying194, Tryz.runUnderlying194, sizeOf194, Tryz.isAgg194, zeroValue194, underlying196, Tryz.runUnderlying196, sizeOf196, Tryz.isAgg196, zeroValue196, underlying0, Tryz.runUnderlying0, sizeOf0, Tryz.isAgg0, zeroValue0, underlying3, Tryz.runUnderlying3, sizeOf3, Tryz.isAgg3, zeroValue3, underlying4, Tryz.runUnderlying4, sizeOf4, Tryz.isAgg4, zeroValue4, underlying9, Tryz.runUnderlying9, sizeOf9, Tryz.isAgg9, zeroValue9, underlying20, Tryz.runUnderlying20, sizeOf20, Tryz.isAgg20, zeroValue20, underlying21, Tryz.runUnderlying21, sizeOf21, Tryz.isAgg21, zeroValue21, by kernel_rfl, by kernel_rfl⟩
end Go.Proofs.YtnfnaehonkbknaaGreatDoor
end
section
namespace Go.Proofs.YtnfnaehonkbknaaGreatDoor
open Go Go.X Go.Proofs.Tryz
def By8 := (fun H => Bzq (H := H) underlying22 sizeOf3)
theorem Ckg (m : Md) (H : Hp) (v : Value) (xs : List Int) (hv : SlI H v xs) (hl : xs.length <= 1000000) :
  FnX Tryz.prog m 39 #[v] H fun e H' => ∃ w, e = .returned w /\ RowX none H H' w 3 (ints xs) := by
 obtain ⟨a, cap, rfl, hcap, hx⟩ := hv
 refine Aql func39 rfl ntmps39 (by simp) ?_
 (refine @unH _ (zA @By8 ?_); (try clear hK K); intro K hK hc)
 intro nb hnb
 have hle : H.le (H.set nb (.cells #[] 3 (0, 0))) := Hp.le_set hnb
 have hrow0 : Aj9 H (H.set nb (.cells #[] 3 (0, 0))) (.slice (some ⟨nb, 0, none⟩) 0 0) 3 1 0 (ints []) := .inr ⟨nb, #[], 0, hnb, rfl, rfl, rfl, rfl, Nat.le_refl _, fun i u hi => by simp [ints] at hi⟩
 cases xs with
 | nil =>
  (refine @unH _ (zU @By8 ?_); intro _ _ hc)
  refine Ayq underlying22 sizeOf3 _ _ _ _ _ _ _ (Nat.le_refl _) _ _ ?_
  (refine @unH _ (zU @By8 ?_); (try clear hK K); intro K hK hc)
  (refine @unH _ ?_; refine z9 results39 ?_)
  exact ⟨_, rfl, Lex.of hle, .inr ⟨nb, #[], 0, hnb, Axf, rfl, rfl, Nat.le_refl _, fun i u hi => by simp [ints] at hi⟩⟩
 | cons x0 xs0 =>
  obtain ⟨b', o', p', c', fr', h', hb', _⟩ := hx 0 x0 rfl
  subst h'
  (refine @unH _ (zU @By8 ?_); intro _ _ hc)
  have hgne : b' ≠ nb := Aqq hb' hnb
  refine Bzl hrow0 (Hp.le_refl _) (ys := x0 :: xs0) rfl (fun h => absurd h (by rw [hb']; simp)) (fun j y hj => ?_) (by simp at hl ⊢; omega) _ _ _ _ (fun v' H1 H2 hr hl2 => ?_)
  ·obtain ⟨b2, o2, p2, c2, fr2, e2, hb2, hc2⟩ := hx j y hj
   cases e2
   rw [Bzr hgne, cell_of hb2]
   exact hc2
  ·(refine @unH _ (zU @By8 ?_); (try clear hK K); intro K hK hc)
   (refine @unH _ ?_; refine z9 results39 ?_)
   refine ⟨_, rfl, ?_⟩
   have hlen := hr.len
   rcases hr with ⟨_, h0, _⟩ | ⟨b3, c3, cap3, hb3, rfl, rfl, hs3, hl3, hn3, hg3⟩
   ·simp at h0
   ·refine ⟨Lex.of (Hp.le_trans (Hp.le_set hb3) hl2), .inr ⟨b3, c3, cap3, hb3, hl2 _ _ Axf, ?_, by simpa using hs3, ?_, ?_⟩⟩
    ·simp [ints]
    ·simpa [ints] using hn3
    ·intro i u hi; exact hg3 i u (by simpa using hi)
end Go.Proofs.YtnfnaehonkbknaaGreatDoor
end
section
namespace Go.X
open Go
section
variable {P : Program} {H : Hp}
end
end Go.X
namespace Go.Proofs.YtnfnaehonkbknaaGreatDoor
open Go Go.X Go.Extern
theorem Cw1 {P : Program} {t : TypeId} {d : TypeDesc} (hu : P.underlying t = some d) (hd : aggB d = false) (a : Addr) (H : Hp) (K : Value -> Hp -> Prop) (E : Value -> Hp -> Prop) : wpS P (loadVar t a) H K E = ∃ v, H.cell a = some v /\ K v H := by
 unfold loadVar
 rw [Aqa, Akz hu, hd]
 simp only [Bool.false_eq_true, if_false]
 show (Mode.plain = .plain /\ ∃ v, H.cell a = some v /\ K v H) = _
 simp
end Go.Proofs.YtnfnaehonkbknaaGreatDoor
end
