/- Texts Ops Mem Row Agg. -/
import Derived.Test.YtaehjjbekjglkaaGreatDoorJ01
import Derived.KernelRfl
set_option linter.defProp false
set_option linter.unusedSimpArgs false
set_option linter.unusedVariables false
set_option maxRecDepth 100000
set_option maxHeartbeats 2000000
section
namespace Go.X
open Go
def upd (e:Nat->Value) (d:Nat) (v:Value):Nat->Value:=fun t=>if t=d then v else e t
def act (n:Nat) (e:Nat->Value) (ds:List Deferred):Act:={ tmps:=Array.ofFn fun i:Fin n=>e i,defers:=ds }
section
variable {n:Nat} {e:Nat->Value} {ds:List Deferred}
theorem Dxd {t:Nat} (h:t<n):(act n e ds).tmps.getD t undef=e t:=by simp [act,Array.getD,h]
theorem act_get? {t:Nat} (h:t<n):(act n e ds).tmps[t]?=some (e t):=by simp [act,h]
theorem Aq7 {t:Nat} (h:t<n):(act n e ds).eval (.tmp t)=e t:=Dxd h
theorem Aq3 {d:Nat} {v:Value} (h:d<n):(act n e ds).put (some d) v=act n (upd e d v) ds:=by
 simp only [act,Act.put,Act.mk.injEq,and_true]
 apply Array.ext
 ·simp
 ·intro i h1 h2
  simp at h1 h2
  by_cases hi:i=d
  ·subst hi;simp [upd]
  ·rw [Array.getElem_setIfInBounds_ne (by simpa using h1) (fun h=>hi h.symm)]
   simp [upd,hi]
theorem Aql {v:Value}:(act n e ds).put none v=act n e ds:=rfl
theorem eval_const (a:Act) (v:Value):a.eval (.const v)=v:=rfl
theorem eval_func (a:Act) (f:FuncId):a.eval (.func f)=.func (.func f) #[] #[]:=rfl
theorem eval_global (a:Act) (g:Nat):a.eval (.global g)=.pointer (some ⟨g,0,none⟩):=rfl
theorem upd_same {d:Nat} {v:Value}:upd e d v d=v:=by simp [upd]
theorem Axf {d t:Nat} {v:Value}:upd e d v t=if t=d then v else e t:=rfl
def Bz9 (args:List Value):Nat->Value:=fun t=>args.getD t undef
theorem Czo (v:Value) (l:List Value):Bz9 (v::l) 0=v:=rfl
theorem Czn (v:Value) (l:List Value) (t:Nat):Bz9 (v::l) (t+1)=Bz9 l t:=rfl
theorem Ckm (t:Nat):Bz9 [] t=undef:=by simp [Bz9]
theorem Ayy {args:List Value} (h:args.length<=n):({ tmps:=args.toArray++Array.replicate (n-args.toArray.size) undef,defers:=[] }:Act)=act n (Bz9 args) []:=by
 simp only [act,Act.mk.injEq,and_true]
 apply Array.ext
 ·simp;omega
 ·intro i h1 h2
  simp at h1 h2
  simp only [Array.getElem_ofFn,Bz9]
  by_cases hi:i<args.length
  ·simp [hi]
  ·simp [Array.getElem_append,hi]
end
section
variable {P:Program} {main:Md} {lp:Option Nat} {Q:Exit->Act->Hp->Prop} {H:Hp} {n:Nat} {e:Nat->Value} {ds:List Deferred}
theorem Aqn {f:FuncId} {fn:Func} {c:Code} {args:List Value} {R:Ending->Hp->Prop} (hf:P.funcs[f]?=some fn) (hb:fn.body=some c) (hn:fn.ntmps=n) (ha:args.length<=n)
  (h:wpX P main none c (Bvs P main fn R) (act n (Bz9 args) []) H):FnX P main f args.toArray H R:=by
 refine Djm hf hb ?_
 rw [hn,Ayy ha]
 exact h
theorem Aq8 {fn:Func} {R:Ending->Hp->Prop}:Bvs P main fn R .ret (act n e []) H=wpS P (results fn (act n e []).tmps) H (fun v H'=>R (.returned v) H') fun _ _=>False:=rfl
theorem Bvt {fn:Func} {R:Ending->Hp->Prop}:Bvs P main fn R .normal (act n e []) H=wpS P (results fn (act n e []).tmps) H (fun v H'=>R (.returned v) H') fun _ _=>False:=rfl
theorem Aqf {α:Type} (a:α) (K:α->Hp->Prop) (E:Value->Hp->Prop):wpS P (pure a) H K E=K a H:=rfl
theorem Aqa {α β:Type} (s:Sem α) (f:α->Sem β) (K:β->Hp->Prop) (E:Value->Hp->Prop) :
 wpS P (s >>= f) H K E=wpS P s H (fun a H'=>wpS P (f a) H' K E) E:=propext (Dq0 s f H K E)
theorem Bzz {α:Type} (c:Prop) [Decidable c] (x y:Sem α) (K:α->Hp->Prop) (E:Value->Hp->Prop):wpS P (if c then x else y) H K E=if c then wpS P x H K E else wpS P y H K E:=by split<;>rfl
theorem Aqj {t:TypeId} {d:TypeDesc} (h:P.underlying t=some d) (K:TypeDesc->Hp->Prop) (E:Value->Hp->Prop):wpS P (underlying t) H K E=K d H:=by
 change wpS P (match P.underlying t with | some d=>pure d | none=>stuck _) H K E=_
 rw [h];rfl
theorem Ajx {t:TypeId} {i:TypeInfo} (h:P.info? t=some i) (K:TypeInfo->Hp->Prop) (E:Value->Hp->Prop):wpS P (typeInfo t) H K E=K i H:=by
 change wpS P (match P.info? t with | some d=>pure d | none=>stuck _) H K E=_
 rw [h];rfl
theorem Aki {t:TypeId} {i:TypeInfo} (h:∀w,(typeInfo t).run P w=.ok i w):P.info? t=some i:=by
 have h:=h default
 change (match P.info? t with | some d=>(pure d:Sem TypeInfo) | none=>stuck _).run P default=_ at h
 cases hi:P.info? t with
 | none=>rw [hi] at h;exact absurd h (by simp [stuck])
 | some j=>rw [hi] at h;simp only [pure,Sem.run,Result.ok.injEq] at h;rw [h.1]
theorem Aq0 {t:TypeId} {k:Nat} (h:∀w,(sizeOf t).run P w=.ok k w) (K:Nat->Hp->Prop) (E:Value->Hp->Prop):wpS P (sizeOf t) H K E=K k H:=by
 have h:=h default
 change ((match P.info? t with | some d=>(pure d:Sem TypeInfo) | none=>stuck _).bind fun i=>pure i.size).run P default=_ at h
 change wpS P ((match P.info? t with | some d=>(pure d:Sem TypeInfo) | none=>stuck _).bind fun i=>pure i.size) H K E=_
 cases hi:P.info? t with
 | none=>rw [hi] at h;exact absurd h (by simp [stuck,Sem.bind])
 | some j=>rw [hi] at h;simp only [pure,Sem.run,Sem.bind,Result.ok.injEq] at h;rw [<-h.1];rfl
theorem Axe {t:TypeId} {z:Value} (h:∀w,(zeroValue t).run P w=.ok z w) (K:Value->Hp->Prop) (E:Value->Hp->Prop):wpS P (zeroValue t) H K E=K z H:=by
 have h:=h default
 change ((match P.info? t with | some d=>(pure d:Sem TypeInfo) | none=>stuck _).bind fun i=>match i.zero with | some v=>pure v | none=>unsupported _).run P default=_ at h
 change wpS P ((match P.info? t with | some d=>(pure d:Sem TypeInfo) | none=>stuck _).bind fun i=>match i.zero with | some v=>pure v | none=>unsupported _) H K E=_
 cases hi:P.info? t with
 | none=>rw [hi] at h;exact absurd h (by simp [stuck,Sem.bind])
 | some j=>
  rw [hi] at h
  cases hz:j.zero with
  | none=>simp only [pure,Sem.bind,hz] at h;exact absurd h (by simp [unsupported])
  | some v=>simp only [pure,Sem.run,Sem.bind,hz,Result.ok.injEq] at h;simp only [pure,Sem.bind,hz,wpS];rw [h.1]
def aggB:TypeDesc->Bool
 | .struct _=>true
 | .array _ _=>true
 | _=>false
theorem Akp {t:TypeId} {d:TypeDesc} (h:P.underlying t=some d) (K:Bool->Hp->Prop) (E:Value->Hp->Prop) :
  wpS P (isAgg t) H K E=K (aggB d) H:=by
 unfold isAgg
 rw [Aqa,Aqj h]
 cases d<;>rfl
theorem Aqe {f:FuncId} {fn:Func} (hf:P.funcs[f]?=some fn) (hn:(fn.name == "runtime.NumGoroutine")=false) (hb:fn.body.isNone=false) (args:Array Value) (K:Next->Hp->Prop) (E:Value->Hp->Prop) :
  wpS P (callFunc f args) H K E=K (.enter f args) H:=by
 unfold callFunc
 rw [Aqa]
 change wpS P (match P.funcs[f]? with | none=>_ | some fn=>_) H K E=_
 rw [hf]
 simp only [hn,hb,Bool.false_eq_true,if_false]
 rfl
def Dqq (P:Program) (c x y:Value) (H:Hp) (K:Next->Hp->Prop) (E:Value->Hp->Prop):Prop:=wpS P (do pure (.value (if <- asBool c then x else y)):Sem Next) H K E
theorem Cja (t:Bool) (x y:Value) (K:Next->Hp->Prop) (E:Value->Hp->Prop):Dqq P (.bool t) x y H K E=K (.value (if t then x else y)) H:=by cases t<;>rfl
def nilK (P:Program) (v:Value) (H:Hp) (K:Next->Hp->Prop) (E:Value->Hp->Prop):Prop:=wpS P (execOp (fun _=>v) ⟨none,.nilCheck (.tmp 0),0,default,#[],none⟩) H K E
theorem Dqf (a:Addr) (K:Next->Hp->Prop) (E:Value->Hp->Prop):nilK P (.pointer (some a)) H K E=K (.value (.pointer (some a))) H:=rfl
theorem Cvf (f:FuncId) (fi cap:Array Value) (K:Next->Hp->Prop) (E:Value->Hp->Prop):nilK P (.func (.func f) fi cap) H K E=K (.value (.func (.func f) fi cap)) H:=rfl
theorem Cz8 (l:Nat) (fi cap:Array Value) (K:Next->Hp->Prop) (E:Value->Hp->Prop):nilK P (.func (.yield l) fi cap) H K E=K (.value (.func (.yield l) fi cap)) H:=rfl
def Bkj (P:Program) (v:Value) (args:Array Value) (H:Hp) (K:Next->Hp->Prop) (E:Value->Hp->Prop):Prop:=wpS P (do let d <- Deferred.ofValue v args;invoke d.target d.args) H K E
theorem Bjl (f:FuncId) (fi cap args:Array Value) (K:Next->Hp->Prop) (E:Value->Hp->Prop):Bkj P (.func (.func f) fi cap) args H K E=wpS P (callFunc f (fi++args++cap)) H K E:=by
 simp only [Bkj,Deferred.ofValue];rw [Aqa];rfl
section ex
variable (ρ:Operand->Value) (d:Option Tmp) (ty:TypeId) (pos:String) (af:Array Edge) (g:Option (Nat×Bool)) (K:Next->Hp->Prop) (E:Value->Hp->Prop)
theorem Dz1 (x:Operand):wpS P (execOp ρ ⟨d,.move x,ty,pos,af,g⟩) H K E=K (.value (ρ x)) H:=rfl
theorem Ckp (x:Operand):wpS P (execOp ρ ⟨d,.assign x,ty,pos,af,g⟩) H K E=K (.value (ρ x)) H:=rfl
theorem Dz2 (c x y:Operand):wpS P (execOp ρ ⟨d,.pick c x y,ty,pos,af,g⟩) H K E=Dqq P (ρ c) (ρ x) (ρ y) H K E:=rfl
theorem Dj8 (t:TypeId) (x:Operand):wpS P (execOp ρ ⟨d,.box t x,ty,pos,af,g⟩) H K E=∀b,H b=none->K (.value (.pointer (some ⟨b,0,none⟩))) (H.set b (.cells (ρ x).cells t (0,0))):=rfl
theorem Aqu {t:TypeId} {z:Value} (h:∀w,(zeroValue t).run P w=.ok z w):wpS P (execOp ρ ⟨d,.alloc t,ty,pos,af,g⟩) H K E=∀b,H b=none->K (.value (.pointer (some ⟨b,0,none⟩))) (H.set b (.cells z.cells t (0,0))):=by
 simp only [execOp,Instr.alloc]
 rw [Aqa,Aqa,Axe h]
 rfl
theorem Dz0 (t:TypeId) (x:Operand):wpS P (execOp ρ ⟨d,.load t x,ty,pos,af,g⟩) H K E=wpS P (Instr.loadAt t (ρ x)) H (fun v H'=>K (.value v) H') E:=Aqa _ _ _ _
theorem Cyy (t:TypeId) (x y:Operand):wpS P (execOp ρ ⟨d,.store t x y,ty,pos,af,g⟩) H K E=wpS P (Instr.storeAt t (ρ x) (ρ y)) H (fun _ H'=>K .skip H') E:=Aqa _ _ _ _
theorem Bv0 (t:TypeId) (x:Operand) (i:Nat):wpS P (execOp ρ ⟨d,.fieldAddr t x i,ty,pos,af,g⟩) H K E=wpS P (Instr.fieldAt t (ρ x) i) H (fun v H'=>K (.value v) H') E:=Aqa _ _ _ _
theorem Cyr (t:TypeId) (x:Operand) (i:Nat):wpS P (execOp ρ ⟨d,.field t x i,ty,pos,af,g⟩) H K E=wpS P (Instr.field t (ρ x) i) H (fun v H'=>K (.value v) H') E:=Aqa _ _ _ _
theorem Bv1 (t:TypeId) (x y:Operand):wpS P (execOp ρ ⟨d,.indexAddr t x y,ty,pos,af,g⟩) H K E=wpS P (Instr.indexAt t (ρ x) (ρ y)) H (fun v H'=>K (.value v) H') E:=Aqa _ _ _ _
theorem Cys (t:TypeId) (x y:Operand):wpS P (execOp ρ ⟨d,.index t x y,ty,pos,af,g⟩) H K E=wpS P (Instr.index t (ρ x) (ρ y)) H (fun v H'=>K (.value v) H') E:=Aqa _ _ _ _
theorem Czs (x:Operand) (i:Nat):wpS P (execOp ρ ⟨d,.extract x i,ty,pos,af,g⟩) H K E=wpS P (Instr.extract (ρ x) i) H (fun v H'=>K (.value v) H') E:=Aqa _ _ _ _
theorem Dka (x:Operand):wpS P (execOp ρ ⟨d,.nilCheck x,ty,pos,af,g⟩) H K E=nilK P (ρ x) H K E:=rfl
theorem Dj7 (op:BinOp) (t u:TypeId) (x y:Operand):wpS P (execOp ρ ⟨d,.binOp op t x y u,ty,pos,af,g⟩) H K E=wpS P (eqGuard op t x y (ρ x) (ρ y)) H (fun _ H'=>wpS P (binOp op t (ρ x) (ρ y)) H' (fun v H₁=>K (.value v) H₁) E) E:=by
 simp only [execOp];rw [Aqa,Aqa];rfl
theorem Dvf (op:UnOp) (t:TypeId) (x:Operand):wpS P (execOp ρ ⟨d,.unOp op t x,ty,pos,af,g⟩) H K E=wpS P (Op.unary op (ρ x)) H (fun v H'=>K (.value v) H') E:=Aqa _ _ _ _
theorem Czq (s t:TypeId) (x:Operand):wpS P (execOp ρ ⟨d,.convert s t x,ty,pos,af,g⟩) H K E=wpS P (convert s t (ρ x)) H (fun v H'=>K (.value v) H') E:=Aqa _ _ _ _
theorem Bxe (t:TypeId) (x:Operand):wpS P (execOp ρ ⟨d,.makeInterface t x,ty,pos,af,g⟩) H K E=wpS P (Instr.makeInterface t (ρ x)) H (fun v H'=>K (.value v) H') E:=Aqa _ _ _ _
theorem Ayb (f:Fn) (fi cap:Array Operand):wpS P (execOp ρ ⟨d,.makeFunc f fi cap,ty,pos,af,g⟩) H K E=K (.value (.func f (fi.map ρ) (cap.map ρ))) H:=rfl
theorem Czt (t:TypeId):wpS P (execOp ρ ⟨d,.makeMap t none,ty,pos,af,g⟩) H K E=∀b,H b=none->K (.value (.map (some b))) (H.set b (.map #[] 0)):=rfl
theorem Cyx (t:TypeId) (x:Operand) (l h m:Option Operand):wpS P (execOp ρ ⟨d,.slice t x l h m,ty,pos,af,g⟩) H K E=wpS P (Instr.sliceAt t (ρ x) (l.map ρ) (h.map ρ) (m.map ρ)) H (fun v H'=>K (.value v) H') E:=Aqa _ _ _ _
theorem Bv2 (t:TypeId) (x y:Operand):wpS P (execOp ρ ⟨d,.makeSlice t x y,ty,pos,af,g⟩) H K E=wpS P (Instr.makeSlice t (ρ x) (ρ y)) H (fun v H'=>K (.value v) H') E:=Aqa _ _ _ _
theorem Cyn (t:TypeId) (ps:Array (Nat×Operand)):wpS P (execOp ρ ⟨d,.build t ps,ty,pos,af,g⟩) H K E=wpS P (Instr.build t (ps.map fun (i,x)=>(i,ρ x))) H (fun v H'=>K (.value v) H') E:=Aqa _ _ _ _
theorem Bkr (t:TypeId) (k:Nat) (ps:Array (Nat×Operand)):wpS P (execOp ρ ⟨d,.buildSlice t k ps,ty,pos,af,g⟩) H K E=wpS P (Instr.buildSlice t k (ps.map fun (i,x)=>(i,ρ x))) H (fun v H'=>K (.value v) H') E:=Aqa _ _ _ _
theorem Ckr (t:TypeId) (x y:Operand) (ok:Bool):wpS P (execOp ρ ⟨d,.lookup t x y ok,ty,pos,af,g⟩) H K E=wpS P (Instr.lookup t (ρ x) (ρ y) ok) H (fun v H'=>K (.value v) H') E:=Aqa _ _ _ _
theorem Bv3 (t:TypeId) (x y z:Operand):wpS P (execOp ρ ⟨d,.mapUpdate t x y z,ty,pos,af,g⟩) H K E=wpS P (Instr.mapUpdate t (ρ x) (ρ y) (ρ z)) H (fun _ H'=>K .skip H') E:=Aqa _ _ _ _
theorem Bkt (x:Operand) (s t:TypeId) (ok:Bool):wpS P (execOp ρ ⟨d,.typeAssert x s t ok,ty,pos,af,g⟩) H K E=wpS P (Instr.typeAssert (ρ x) s t ok) H (fun v H'=>K (.value v) H') E:=Aqa _ _ _ _
theorem Czp (b:Builtin) (args:Array Operand) (ats:Array TypeId):wpS P (execOp ρ ⟨d,.call ⟨.builtin b,args,ats⟩,ty,pos,af,g⟩) H K E=wpS P (builtin b ats ty (args.map fun | .const _=>true | _=>false) (args.map ρ)) H K E:=by
 simp only [execOp,resolve];rw [Aqa];rfl
theorem Cxh (c:Call):wpS P (execOp ρ ⟨d,.defer c,ty,pos,af,g⟩) H K E=wpS P (resolve ρ c ty) H (fun x H'=>K (.defer x) H') E:=Aqa _ _ _ _
end ex
theorem Cyo (a:Act) (d:Option Tmp) (ty:TypeId) (pos:String) (af:Array Edge) (g:Option (Nat×Bool)) (K:Next->Hp->Prop) (E:Value->Hp->Prop) {f:FuncId} {args:Array Operand} {ats:Array TypeId} :
  wpS P (execOp a.eval ⟨d,.call ⟨.value (.func f),args,ats⟩,ty,pos,af,g⟩) H K E=wpS P (callFunc f (args.map a.eval)) H K E:=by
 simp only [execOp,resolve,eval_func,Deferred.ofValue]
 rw [Aqa]
 simp only [Aqf,invoke,Array.append_empty,Array.empty_append]
theorem Cyp (a:Act) (d:Option Tmp) (ty:TypeId) (pos:String) (af:Array Edge) (g:Option (Nat×Bool)) (K:Next->Hp->Prop) (E:Value->Hp->Prop) {t:Tmp} {args:Array Operand} {ats:Array TypeId} :
 wpS P (execOp a.eval ⟨d,.call ⟨.value (.tmp t),args,ats⟩,ty,pos,af,g⟩) H K E=Bkj P (a.eval (.tmp t)) (args.map a.eval) H K E:=rfl
theorem Dxh (t:TypeId) (k:IntKind) (x y:Int) (K:Value->Hp->Prop) (E:Value->Hp->Prop):wpS P (binOp .add t (.int k x) (.int k y)) H K E=K (.int k (k.wrap (x+y))) H:=by simp [binOp,Op.intArith,Aqf]
theorem Dxu (t:TypeId) (k:IntKind) (x y:Int) (K:Value->Hp->Prop) (E:Value->Hp->Prop):wpS P (binOp .sub t (.int k x) (.int k y)) H K E=K (.int k (k.wrap (x-y))) H:=by simp [binOp,Op.intArith,Aqf]
theorem Dxo (t:TypeId) (k:IntKind) (x y:Int) (K:Value->Hp->Prop) (E:Value->Hp->Prop):wpS P (binOp .mul t (.int k x) (.int k y)) H K E=K (.int k (k.wrap (x*y))) H:=by simp [binOp,Op.intArith,Aqf]
theorem Dxr (t:TypeId) (k:IntKind) (x y:Int) (K:Value->Hp->Prop) (E:Value->Hp->Prop) (h:y≠0):wpS P (binOp .rem t (.int k x) (.int k y)) H K E=K (.int k (x.tmod y)) H:=by simp [binOp,Op.intDiv,Aqf,h]
theorem Dxq (t:TypeId) (k:IntKind) (x y:Int) (K:Value->Hp->Prop) (E:Value->Hp->Prop) (h:y≠0):wpS P (binOp .quo t (.int k x) (.int k y)) H K E=K (.int k (k.wrap (x.tdiv y))) H:=by simp [binOp,Op.intDiv,Aqf,h]
def bitv (f:(n:Nat)->BitVec n->BitVec n->BitVec n) (k:IntKind) (x y:Int):Int:=k.wrap (f k.bits (BitVec.ofInt k.bits x) (BitVec.ofInt k.bits y)).toNat
theorem Dxi (t:TypeId) (k:IntKind) (x y:Int) (K:Value->Hp->Prop) (E:Value->Hp->Prop):wpS P (binOp .and t (.int k x) (.int k y)) H K E=K (.int k (bitv (fun _ a b=>a &&& b) k x y)) H:=by simp [binOp,Op.intBits,Aqf,bitv]
theorem Dju (t:TypeId) (k:IntKind) (x y:Int) (K:Value->Hp->Prop) (E:Value->Hp->Prop):wpS P (binOp .or t (.int k x) (.int k y)) H K E=K (.int k (bitv (fun _ a b=>a ||| b) k x y)) H:=by simp [binOp,Op.intBits,Aqf,bitv]
theorem Dxv (t:TypeId) (k:IntKind) (x y:Int) (K:Value->Hp->Prop) (E:Value->Hp->Prop):wpS P (binOp .xor t (.int k x) (.int k y)) H K E=K (.int k (bitv (fun _ a b=>a ^^^ b) k x y)) H:=by simp [binOp,Op.intBits,Aqf,bitv]
theorem Czd (t:TypeId) (k:IntKind) (x y:Int) (K:Value->Hp->Prop) (E:Value->Hp->Prop):wpS P (binOp .andNot t (.int k x) (.int k y)) H K E=K (.int k (bitv (fun _ a b=>a &&& ~~~b) k x y)) H:=by simp [binOp,Op.intBits,Aqf,bitv]
theorem Dxs (t:TypeId) (k j:IntKind) (x y:Int) (K:Value->Hp->Prop) (E:Value->Hp->Prop) (h:0<=y):wpS P (binOp .shl t (.int k x) (.int j y)) H K E=K (.int k (k.wrap (x*2 ^ (min y.toNat k.bits)))) H:=by
 have:¬y<0:=by omega
 simp [binOp,Op.shift,Aqf,this]
theorem Dxt (t:TypeId) (k j:IntKind) (x y:Int) (K:Value->Hp->Prop) (E:Value->Hp->Prop) (h:0<=y):wpS P (binOp .shr t (.int k x) (.int j y)) H K E=K (.int k (x.fdiv (2 ^ (min y.toNat k.bits)))) H:=by
 have:¬y<0:=by omega
 simp [binOp,Op.shift,Aqf,this]
theorem Dxj (t:TypeId) (k:IntKind) (x y:Int) (K:Value->Hp->Prop) (E:Value->Hp->Prop):wpS P (binOp .eql t (.int k x) (.int k y)) H K E=K (.bool (x==y)) H:=by simp [binOp,Op.intCmp,Aqf]
theorem Dxp (t:TypeId) (k:IntKind) (x y:Int) (K:Value->Hp->Prop) (E:Value->Hp->Prop):wpS P (binOp .neq t (.int k x) (.int k y)) H K E=K (.bool (x != y)) H:=by simp [binOp,Op.intCmp,Aqf]
theorem Dxn (t:TypeId) (k:IntKind) (x y:Int) (K:Value->Hp->Prop) (E:Value->Hp->Prop):wpS P (binOp .lss t (.int k x) (.int k y)) H K E=K (.bool (decide (x<y))) H:=by simp [binOp,Op.intCmp,Aqf]
theorem Dxm (t:TypeId) (k:IntKind) (x y:Int) (K:Value->Hp->Prop) (E:Value->Hp->Prop):wpS P (binOp .leq t (.int k x) (.int k y)) H K E=K (.bool (decide (x<=y))) H:=by simp [binOp,Op.intCmp,Aqf]
theorem Dxl (t:TypeId) (k:IntKind) (x y:Int) (K:Value->Hp->Prop) (E:Value->Hp->Prop):wpS P (binOp .gtr t (.int k x) (.int k y)) H K E=K (.bool (decide (y<x))) H:=by simp [binOp,Op.intCmp,Aqf]
theorem Dxk (t:TypeId) (k:IntKind) (x y:Int) (K:Value->Hp->Prop) (E:Value->Hp->Prop):wpS P (binOp .geq t (.int k x) (.int k y)) H K E=K (.bool (decide (y<=x))) H:=by simp [binOp,Op.intCmp,Aqf]
theorem Dzx (op:BinOp) (t:TypeId) (x y:Operand) (k j:IntKind) (a b:Int) (K:Unit->Hp->Prop) (E:Value->Hp->Prop):wpS P (eqGuard op t x y (.int k a) (.int j b)) H K E=K () H:=by
 unfold eqGuard;cases op<;>rfl
theorem Dky (b:Bool) (K:Value->Hp->Prop) (E:Value->Hp->Prop):wpS P (Op.unary .not (.bool b)) H K E=K (.bool (!b)) H:=rfl
theorem Dkx (k:IntKind) (x:Int) (K:Value->Hp->Prop) (E:Value->Hp->Prop):wpS P (Op.unary .neg (.int k x)) H K E=K (.int k (k.wrap (0-x))) H:=rfl
theorem Bkm {s t:TypeId} {j k:IntKind} (hs:P.underlying s=some (.int j)) (ht:P.underlying t=some (.int k)) (i:IntKind) (x:Int) (K:Value->Hp->Prop) (E:Value->Hp->Prop) :
  wpS P (convert s t (.int i x)) H K E=K (.int k (k.wrap x)) H:=by
 unfold convert
 rw [Aqa,Aqj hs,Aqa,Aqj ht]
 rfl
theorem w64 (x:Int) (h1 : -9223372036854775808<=x) (h2:x<=9223372036854775807):IntKind.i64.wrap x=x:=by rw [IntKind.wrap_i64];omega
theorem Axp (b b':Nat) (o:Obj):(H.set b o) b'=if b'=b then some (true,o) else H b':=rfl
theorem Bva (a:Addr) (K:Value->Hp->Prop) (E:Value->Hp->Prop):wpS P (load a) H K E=∃v,H.cell a=some v/\K v H:=by simp [load,wpS]
theorem Aqh {t:TypeId} {d:TypeDesc} (h:P.underlying t=some d) (hd:aggB d=false) (a:Addr) (K:Value->Hp->Prop) (E:Value->Hp->Prop) :
  wpS P (Instr.loadAt t (.pointer (some a))) H K E=∃v,H.cell a=some v/\K v H:=by
 unfold Instr.loadAt
 rw [Aqa]
 simp only [Instr.sureAddr,Aqf,loadVar]
 rw [Aqa,Akp h,hd]
 simp only [Bool.false_eq_true,if_false]
 exact Bva _ _ _
@[congr] theorem wpS_congr {α:Type} {s s':Sem α} {H H':Hp} {K:α->Hp->Prop} {E:Value->Hp->Prop} (hs:s=s') (hH:H=H'):wpS P s H K E=wpS P s' H' K E:=by subst hs hH;rfl
@[congr] theorem numX_congr {ops:Array Oper} {i:Nat} {K:Act->Hp->Prop} {a a':Act} {H H':Hp} (ha:a=a') (hH:H=H'):numX P main lp ops i Q K a H=numX P main lp ops i Q K a' H':=by subst ha hH;rfl
@[congr] theorem runX_congr {ops:Array Oper} {todo:List Nat} {a a':Act} {H H':Hp} (ha:a=a') (hH:H=H'):runX P main lp ops Q todo a H=runX P main lp ops Q todo a' H':=by subst ha hH;rfl
@[congr] theorem opX_congr {o:Oper} {K:Act->Hp->Prop} {a a':Act} {H H':Hp} (ha:a=a') (hH:H=H'):opX P main lp o a H K Q=opX P main lp o a' H' K Q:=by subst ha hH;rfl
@[congr] theorem uponX_congr {o:Oper} {K:Act->Hp->Prop} {a:Act} {x x':Next} {H H':Hp} (hx:x=x') (hH:H=H'):Awe P main lp o a K Q x H=Awe P main lp o a K Q x' H':=by subst hx hH;rfl
@[congr] theorem pickK_congr {c c' x x' y y':Value} {K:Next->Hp->Prop} {E:Value->Hp->Prop} {H H':Hp} (hc:c=c') (hx:x=x') (hy:y=y') (hH:H=H'):Dqq P c x y H K E=Dqq P c' x' y' H' K E:=by subst hc hx hy hH;rfl
@[congr] theorem nilK_congr {c c':Value} {K:Next->Hp->Prop} {E:Value->Hp->Prop} {H H':Hp} (hc:c=c') (hH:H=H'):nilK P c H K E=nilK P c' H' K E:=by subst hc hH;rfl
@[congr] theorem callK_congr {c c':Value} {args args':Array Value} {K:Next->Hp->Prop} {E:Value->Hp->Prop} {H H':Hp} (hc:c=c') (ha:args=args') (hH:H=H'):Bkj P c args H K E=Bkj P c' args' H' K E:=by subst hc ha hH;rfl
@[congr] theorem Runs_congr {fr fr':Frame} {R:Ending->Hp->Prop} {H H':Hp} (hf:fr=fr') (hH:H=H'):Runs P main fr H R=Runs P main fr' H' R:=by subst hf hH;rfl
@[congr] theorem wpX_congr {c:Code} {a a':Act} {H H':Hp} (ha:a=a') (hH:H=H'):wpX P main lp c Q a H=wpX P main lp c Q a' H':=by subst ha hH;rfl
@[congr] theorem planX_congr {S:Hp->Prop} {t:Nat} {ops:Array Oper} {todo:List (Bool×Nat)} {a a':Act} {H H':Hp} (ha:a=a') (hH:H=H'):Ay8 P main lp ops Q S t todo a H=Ay8 P main lp ops Q S t todo a' H':=by subst ha hH;rfl
end
end Go.X
end
section
namespace Go.X
open Go
def only (K:Act->Hp->Prop):Exit->Act->Hp->Prop
 | .normal,a,H=>K a H
 | _,_,_=>False
section
variable {P:Program} {main:Md} {lp:Option Nat} {Q:Exit->Act->Hp->Prop} {a:Act} {H:Hp}
theorem Bzg {ops:Array Oper} {i:Nat} {Q':Exit->Act->Hp->Prop} {K K':Act->Hp->Prop} (hQ:∀c a H,Q (.panic c) a H->Q' (.panic c) a H) (hK:∀a H,K a H->K' a H) (h:numX P main lp ops i Q K a H):numX P main lp ops i Q' K' a H:=by
 unfold numX at *
 cases ho:ops[i]? with
 | none=>rw [ho] at h;exact hK _ _ h
 | some o=>
  rw [ho] at h
  simp only [] at h ⊢
  split
  ·rename_i hw
   rw [if_pos hw] at h
   refine ⟨h.1,?_⟩
   unfold opX at *
   refine Bqb h.2 (fun x H' hx=>?_) fun v H' hv=>hQ _ _ _ hv
   cases x<;>simp only [Awe] at hx ⊢
   case value v=>exact hK _ _ hx
   case skip=>exact hK _ _ hx
   case defer d=>exact ⟨hx.1,hK _ _ hx.2⟩
   case enter f args=>exact hx.mono fun e H₁ he=>by cases e with
    | returned v=>exact hK _ _ he
    | panicked c=>exact hQ _ _ _ he
    | outgrown=>exact he
   case round l f tmps ars body=>exact hx.mono fun e H₁ he=>by cases e with
    | returned v=>exact hK _ _ he
    | panicked c=>exact hQ _ _ _ he
    | outgrown=>exact he
  ·rename_i hw;rw [if_neg hw] at h;exact hK _ _ h
theorem Bky {ops:Array Oper}:∀ {todo:List Nat} {a:Act} {H:Hp} {K:Act->Hp->Prop},runX P main lp ops (only K) todo a H->(∀a H,K a H->Q .normal a H)->runX P main lp ops Q todo a H
 | [],_,_,_,h,hK=>hK _ _ h
 | _::_,_,_,_,h,hK=>Bzg (fun _ _ _ h=>h.elim) (fun _ _ h=>Bky h hK) h
theorem Awx {id:Nat} {ops:Array Oper} {y:Code} (h:∀K:Act->Hp->Prop,(∀a' H',wpX P main lp y Q a' H'->K a' H')->runX P main lp ops (only K) (List.range ops.size) a H) :
  wpX P main lp (.seq (.region id ops false) y) Q a H:=
 Axn (Bvd (Bky (h _ fun _ _ h=>h) fun _ _ h=>h))
theorem Bqc {id:Nat} {ops:Array Oper} (h:∀K:Act->Hp->Prop,(∀a' H',Q .normal a' H'->K a' H')->runX P main lp ops (only K) (List.range ops.size) a H) :
  wpX P main lp (.region id ops false) Q a H:=
 Bvd (Bky (h _ fun _ _ h=>h) fun _ _ h=>h)
theorem Cwh {id:Nat} {ops:Array Oper} {y:Code} (S:Hp->Prop) (t:Nat) (plan:List (Bool×Nat)) (hm:P.follows .mixedOrders=true) (hsel:Region.noSelect ops=true) (hlen:plan.length<=ops.size)
  (hok:Av9 ops t (marked ops (List.range ops.size).reverse ((Array.replicate ops.size false).setIfInBounds t true)) plan (Array.replicate ops.size false)=true)
  (h:∀K:Act->Hp->Prop,(∀a' H',wpX P main lp y Q a' H'->K a' H')->Ay8 P main lp ops (only K) S t plan a H) :
  wpX P main lp (.seq (.region id ops true) y) Q a H:=by
 refine Axn ?_
 refine Az3 (Q:=only fun a' H'=>wpX P main lp y Q a' H') (Cx5 S t plan hm hsel hlen hok (fun c a H d v h=>h) (h _ fun _ _ h=>h)) fun e a H q=>?_
 cases e<;>first | exact q | exact q.elim
theorem Cwg {id:Nat} {ops:Array Oper} (S:Hp->Prop) (t:Nat) (plan:List (Bool×Nat)) (hm:P.follows .mixedOrders=true) (hsel:Region.noSelect ops=true) (hlen:plan.length<=ops.size)
  (hok:Av9 ops t (marked ops (List.range ops.size).reverse ((Array.replicate ops.size false).setIfInBounds t true)) plan (Array.replicate ops.size false)=true)
  (h:∀K:Act->Hp->Prop,(∀a' H',Q .normal a' H'->K a' H')->Ay8 P main lp ops (only K) S t plan a H) :
  wpX P main lp (.region id ops true) Q a H:=by
 refine Az3 (Q:=only fun a' H'=>Q .normal a' H') (Cx5 S t plan hm hsel hlen hok (fun c a H d v h=>h) (h _ fun _ _ h=>h)) fun e a H q=>?_
 cases e<;>first | exact q | exact q.elim
theorem Cx4 {id:Nat} {ops:Array Oper} {y:Code} (t:Nat) (plan:List (Bool×Nat)) (hm:P.follows .mixedOrders=true) (hsel:Region.noSelect ops=true) (hlen:plan.length<=ops.size)
 (hok:Av9 ops t (marked ops (List.range ops.size).reverse ((Array.replicate ops.size false).setIfInBounds t true)) plan (Array.replicate ops.size false)=true)
 (h:∀K:Act->Hp->Prop,(∀a' H',wpX P main lp y Q a' H'->K a' H')->Ay8 P main lp ops (only K) (· = H) t plan a H) :
 wpX P main lp (.seq (.region id ops true) y) Q a H:=Cwh _ t plan hm hsel hlen hok h
theorem Aka {id:Nat} {ops:Array Oper} (t:Nat) (plan:List (Bool×Nat)) (hm:P.follows .mixedOrders=true) (hsel:Region.noSelect ops=true) (hlen:plan.length<=ops.size)
 (hok:Av9 ops t (marked ops (List.range ops.size).reverse ((Array.replicate ops.size false).setIfInBounds t true)) plan (Array.replicate ops.size false)=true)
 (h:∀K:Act->Hp->Prop,(∀a' H',Q .normal a' H'->K a' H')->Ay8 P main lp ops (only K) (· = H) t plan a H) :
 wpX P main lp (.region id ops true) Q a H:=Cwg _ t plan hm hsel hlen hok h
theorem Avt {x y:Code} (M:Act->Hp->Prop) (hx:wpX P main lp x (thn M Q) a H) (hy:∀a H,M a H->wpX P main lp y Q a H):wpX P main lp (.seq x y) Q a H:=
 Axn (Az3 hx fun e a' H' q=>by cases e<;>first | exact hy _ _ q | exact q)
theorem Akj {H:Hp} {t i:Nat} {ops:List Oper} {o:Oper} {rest:List (Bool×Nat)} {v:Value} (ho:ops[i]?=some o) (hw:Region.wanted o (yielded ops.toArray a.tmps)=true) (hf:fine lp o=true)
  (h:wpS P (execOp a.eval o) H (YN P main v H) fun _ _=>False) (hk:Ay8 P main lp ops.toArray Q (· = H) t rest (a.put o.dst v) H):Ay8 P main lp ops.toArray Q (· = H) t ((true,i)::rest) a H:=
 ⟨rfl,o,by simpa using ho,v,.inl ⟨hw,hf,fun _ e=>e▸h⟩,hk⟩
theorem Bzj {H:Hp} {t:Nat} {ops:Array Oper} (h:numX P main lp ops t Q (Q .normal) a H):Ay8 P main lp ops Q (· = H) t [(false,t)] a H:=
 Axx (fun _ _ h=>⟨.inl rfl,h⟩) h
theorem Aky {S:Hp->Prop} {t:Nat} {ops:Array Oper} (h:Q .normal a H):Ay8 P main lp ops Q S t [] a H:=h
theorem Axa {v u:Value} {H':Hp}:YN P main v H (.value u) H'=(u=v/\H'=H):=rfl
theorem Cwr {v:Value} {f:FuncId} {args:Array Value} {H':Hp}:YN P main v H (.enter f args) H'=Runs P main (Frame.enter P f args .normal) H' fun
      | .returned u,H₁=>u=v/\H₁=H
      | _,_=>False:=rfl
theorem Dqt {ops:Array Oper}:runX P main lp ops Q [] a H=Q .normal a H:=rfl
theorem Aqg {ops:Array Oper} {i:Nat} {rest:List Nat}:runX P main lp ops Q (i::rest) a H=numX P main lp ops i Q (runX P main lp ops Q rest) a H:=rfl
theorem Av7 {ops:Array Oper} {i:Nat} {K:Act->Hp->Prop}:numX P main lp ops i Q K a H=match ops[i]? with
 | none=>K a H
 | some o=>if Region.wanted o (yielded ops a.tmps) then fine lp o=true/\opX P main lp o a H K Q else K (a.put o.dst undef) H:=rfl
theorem Dkj {o:Oper} {K:Act->Hp->Prop}:opX P main lp o a H K Q=wpS P (execOp a.eval o) H (Awe P main lp o a K Q) fun v H₁=>Q (.panic [{ v,recovered:=false }]) a H₁:=rfl
theorem Cqo {o:Oper} {K:Act->Hp->Prop} (v:Value):Awe P main lp o a K Q (.value v) H=K (a.put o.dst v) H:=rfl
theorem Cjq {o:Oper} {K:Act->Hp->Prop}:Awe P main lp o a K Q .skip H=K (a.put o.dst undef) H:=rfl
theorem By3 {K:Act->Hp->Prop}:only K .normal a H=K a H:=rfl
theorem Cqp {d:Option Tmp} {op:Op} {ty:TypeId} {pos:String} {af:Array Edge} {y:Nat->Option Bool}:Region.wanted ⟨d,op,ty,pos,af,none⟩ y=true:=rfl
theorem Cqq {d:Option Tmp} {op:Op} {ty:TypeId} {pos:String} {af:Array Edge} {y:Nat->Option Bool} {j:Nat} {b:Bool}:Region.wanted ⟨d,op,ty,pos,af,some (j,b)⟩ y=(y j==some b):=rfl
theorem Aj2 (b o n:Nat):(⟨b,o,none⟩:Addr).add n=⟨b,o+n,none⟩:=by
 unfold Addr.add;split
 ·rename_i h;subst h;rfl
 ·rfl
theorem cell_of {b o:Nat} {p:Bool} {c:Array Value} {e:TypeId} {f:Nat×Nat} (h:H b=some (p,.cells c e f)):H.cell ⟨b,o,none⟩=c[o]?:=by simp [Hp.cell,h]
theorem cells_one {v:Value} (h:one v=true):v.cells=#[v]:=by cases v<;>first | rfl | (simp [one] at h;done)
def stor (H:Hp) (b o:Nat) (v:Value) (K:Hp->Prop):Prop:=
 match H b with
 | some (true,.cells c e (lo,hi))=>o<c.size/\(decide (lo<=o)&&decide (o<hi))=false/\K (H.set b (.cells (c.setIfInBounds o v) e (lo,hi)))
 | _=>False
theorem Ak2 {b o:Nat} {v:Value} {K:Hp->Prop} {c:Array Value} {e:TypeId} (h:H b=some (true,.cells c e (0,0))):stor H b o v K=(o<c.size/\K (H.set b (.cells (c.setIfInBounds o v) e (0,0)))):=by
 simp [stor,h]
theorem Bkk {b o:Nat} {c:Array Value} {e:TypeId} {f:Nat×Nat}:(H.set b (.cells c e f)).cell ⟨b,o,none⟩=c[o]?:=by simp [Hp.cell,Hp.set]
theorem Bx2 {b b' o:Nat} {ob:Obj} (h:b≠b'):(H.set b' ob).cell ⟨b,o,none⟩=H.cell ⟨b,o,none⟩:=by simp [Hp.cell,Hp.set,h]
theorem Bk8 {b o:Nat} {v:Value} {K:Hp->Prop} {c:Array Value} {e:TypeId}:stor (H.set b (.cells c e (0,0))) b o v K=(o<c.size/\K (H.set b (.cells (c.setIfInBounds o v) e (0,0)))):=by
 have:(H.set b (.cells c e (0,0))).set b (.cells (c.setIfInBounds o v) e (0,0))=H.set b (.cells (c.setIfInBounds o v) e (0,0)):=by
  funext x;unfold Hp.set;split<;>rfl
 rw [Ak2 (c:=c) (e:=e) (by simp [Hp.set]),this]
theorem Awb {b:Nat} {o o':Obj}:(H.set b o).set b o'=H.set b o':=by funext x;unfold Hp.set;split<;>rfl
theorem set_self {b:Nat} {o:Obj} (h:H b=some (true,o)):H.set b o=H:=by funext x;unfold Hp.set;split<;>simp_all
theorem Bz0 {v:Value} (hv:one v=true) (b o:Nat) (K:Unit->Hp->Prop) (E:Value->Hp->Prop):wpS P (store ⟨b,o,none⟩ v) H K E=stor H b o v (K ()):=by
 simp only [store,wpS,stor,hv,true_and]
 rcases hb:H b with _ | ⟨p,ob⟩
 ·simp
 ·cases p
  ·simp
  ·cases ob<;>simp
   rename_i c e fr
   obtain ⟨lo,hi⟩:=fr
   constructor
   ·rintro ⟨c',e',lo',hi',h,h'⟩
    simp only [Prod.mk.injEq] at h
    obtain ⟨rfl,rfl,rfl,rfl⟩:=h
    simpa using h'
   ·intro h'
    exact ⟨c,e,lo,hi,by simp,by simpa using h'⟩
theorem Azj {t:TypeId} (hs:∀w,(sizeOf t).run P w=.ok 1 w) {v:Value} (hv:one v=true) (b o:Nat) (K:Unit->Hp->Prop) (E:Value->Hp->Prop) :
  wpS P (Instr.storeAt t (.pointer (some ⟨b,o,none⟩)) v) H K E=stor H b o v (K ()):=by
 unfold Instr.storeAt
 rw [Aqa]
 simp only [Instr.sureAddr,Aqf,storeVar]
 rw [Aqa,Aq0 hs,cells_one hv]
 simp only [List.size_toArray,List.length_cons,List.length_nil,Nat.zero_add,ne_eq,not_true,if_false,storeCells,Aj2,Nat.add_zero]
 rw [Aqa,Bz0 hv]
 rfl
section
variable {t:TypeId} (hs:∀w,(sizeOf t).run P w=.ok 1 w) (b o:Nat) (K:Unit->Hp->Prop) (E:Value->Hp->Prop)
include hs
theorem Axi (k:IntKind) (x:Int):wpS P (Instr.storeAt t (.pointer (some ⟨b,o,none⟩)) (.int k x)) H K E=stor H b o (.int k x) (K ()):=Azj hs rfl b o K E
theorem Ajh (x:Bool):wpS P (Instr.storeAt t (.pointer (some ⟨b,o,none⟩)) (.bool x)) H K E=stor H b o (.bool x) (K ()):=Azj hs rfl b o K E
theorem Bzv (x:Option Addr):wpS P (Instr.storeAt t (.pointer (some ⟨b,o,none⟩)) (.pointer x)) H K E=stor H b o (.pointer x) (K ()):=Azj hs rfl b o K E
theorem Azk (x:Option Addr) (n c:Nat):wpS P (Instr.storeAt t (.pointer (some ⟨b,o,none⟩)) (.slice x n c)) H K E=stor H b o (.slice x n c) (K ()):=Azj hs rfl b o K E
theorem Bwr (f:Fn) (x y:Array Value):wpS P (Instr.storeAt t (.pointer (some ⟨b,o,none⟩)) (.func f x y)) H K E=stor H b o (.func f x y) (K ()):=Azj hs rfl b o K E
theorem Bzu:wpS P (Instr.storeAt t (.pointer (some ⟨b,o,none⟩)) .nilFunc) H K E=stor H b o .nilFunc (K ()):=Azj hs rfl b o K E
end
theorem Aqd {s:TypeId} {fs:Array Field} (hu:P.underlying s=some (.struct fs)) {i:Nat} {f:Field} (hf:fs[i]?=some f) {off:Nat} (ho:f.offset=off) {n:Nat} (hs:∀w,(sizeOf f.type).run P w=.ok (n+1) w) (b o:Nat) (K:Value->Hp->Prop) (E:Value->Hp->Prop) :
  wpS P (Instr.fieldAt s (.pointer (some ⟨b,o,none⟩)) i) H K E=K (.pointer (some ⟨b,o+off,none⟩)) H:=by
 subst ho
 unfold Instr.fieldAt
 rw [Aqa,Aqj hu]
 simp only [hf,Instr.sureAddr]
 rw [Aqa]
 simp only [Aqf]
 rw [Aqa]
 unfold fieldPlace
 rw [Aqa,Aq0 hs]
 simp only [Nat.succ_ne_zero,if_false,Aqf,Aj2]
theorem Aqt {t e:TypeId} (hu:P.underlying t=some (.slice e)) {n:Nat} (hs:∀w,(sizeOf e).run P w=.ok n w) (b o len cap:Nat) (k:IntKind) (i:Int) (K:Value->Hp->Prop) (E:Value->Hp->Prop) (h0:0<=i) (h1:i<len) :
  wpS P (Instr.indexAt t (.slice (some ⟨b,o,none⟩) len cap) (.int k i)) H K E=K (.pointer (some ⟨b,o+i.toNat*n,none⟩)) H:=by
 unfold Instr.indexAt
 rw [Aqa]
 simp only [asIntOf,Aqf]
 simp only [Aqa,Aqj hu,Aqf,h0,h1,and_self,if_true,Aq0 hs,Aj2]
theorem Aq9 {t e:TypeId} (hu:P.underlying t=some (.slice e)) (ty:TypeId) (cs:Array Bool) (a:Option Addr) (len cap:Nat) (K:Next->Hp->Prop) (E:Value->Hp->Prop) :
  wpS P (builtin .len #[t] ty cs #[.slice a len cap]) H K E=K (.value (.int .i64 len)) H:=by
 simp only [builtin,Builtin.len_,List.getElem?_toArray,List.getElem?_cons_zero]
 rw [Aqa,Aqa,Aqj hu]
 rfl
theorem Ayk {fn:Func} {t:Tmp} (h:fn.results=#[.tmp t]) {n:Nat} {e:Nat->Value} {ds:List Deferred} (ht:t<n) (K:Value->Hp->Prop) (E:Value->Hp->Prop) :
  wpS P (results fn (act n e ds).tmps) H K E=K (e t) H:=by
 simp [results,h,act_get? ht,Aqf]
theorem By7 {fn:Func} {t u:Tmp} (h:fn.results=#[.tmp t,.tmp u]) {n:Nat} {e:Nat->Value} {ds:List Deferred} (ht:t<n) (hu:u<n) (K:Value->Hp->Prop) (E:Value->Hp->Prop) :
  wpS P (results fn (act n e ds).tmps) H K E=K (.tuple #[e t,e u]) H:=by
 simp [results,h,act_get? ht,act_get? hu,Aqf]
theorem Awa {fn:Func} (h:fn.results=#[]) (tmps:Array Value) (K:Value->Hp->Prop) (E:Value->Hp->Prop) :
  wpS P (results fn tmps) H K E=K (.tuple #[]) H:=by
 simp [results,h,Aqf]
@[congr] theorem stor_congr {H':Hp} {b o b' o':Nat} {v v':Value} {K:Hp->Prop} (hH:H=H') (hb:b=b') (ho:o=o') (hv:v=v'):stor H b o v K=stor H' b' o' v' K:=by subst hH hb ho hv;rfl
end
end Go.X
end
section
namespace Go.X
open Go
def Aju (H₀ H:Hp) (v:Value) (e:TypeId) (sz n:Nat) (cs:List Value):Prop:=
 (v=.slice none 0 0/\n=0/\cs=[]/\H=H₀) ∨
 ∃(b:Nat) (c:Array Value) (cap:Nat),H₀ b=none/\H=H₀.set b (.cells c e (0,0))/\v=.slice (some ⟨b,0,none⟩) n cap/\c.size=cap*sz/\cs.length=n*sz/\n<=cap/\∀(i:Nat) (u:Value),cs[i]?=some u->c[i]?=some u
theorem Aju.nil (H:Hp) (e:TypeId) (sz:Nat):Aju H H (.slice none 0 0) e sz 0 []:=.inl ⟨rfl,rfl,rfl,rfl⟩
theorem Aju.le {H₀ H:Hp} {v:Value} {e:TypeId} {sz n:Nat} {cs:List Value} (h:Aju H₀ H v e sz n cs):H₀.le H:=by
 rcases h with ⟨_,_,_,rfl⟩ | ⟨b,c,cap,hb,rfl,_⟩
 ·exact Hp.le_refl _
 ·exact Hp.le_set hb
theorem Aju.len {H₀ H:Hp} {v:Value} {e:TypeId} {sz n:Nat} {cs:List Value} (h:Aju H₀ H v e sz n cs):cs.length=n*sz:=by
 rcases h with ⟨_,rfl,rfl,_⟩ | ⟨b,c,cap,_,_,_,_,hl,_⟩
 ·simp
 ·exact hl
theorem Hp.set_le {H H':Hp} {b:Nat} {o:Obj} (h:H.le H'):(H.set b o).le (H'.set b o):=fun x v hv=>by
 unfold Hp.set at *
 split at hv
 ·rename_i hx;rw [if_pos hx];exact hv
 ·rename_i hx;rw [if_neg hx];exact h _ _ hv
theorem Hp.le_none {H H':Hp} {b:Nat} (h:H.le H') (hb:H' b=none):H b=none:=by
 cases hx:H b with
 | none=>rfl
 | some v=>rw [h b v hx] at hb;cases hb
section
variable {P:Program} {H:Hp}
theorem Avf (b o:Nat) (K:Array Value->Hp->Prop) (E:Value->Hp->Prop):∀(n i:Nat) (acc:Array Value) (cs:List Value),cs.length=n->(∀j u,cs[j]?=some u->H.cell ⟨b,o+(i+j),none⟩=some u) ->
  wpS P (loadCellsFrom ⟨b,o,none⟩ i n acc) H K E=K (acc++cs.toArray) H
 | 0,i,acc,cs,hl,_=>by
  have:cs=[]:=by simpa using hl
  subst this
  simp [loadCellsFrom,Aqf]
 | n+1,i,acc,cs,hl,hc=>by
  cases cs with
  | nil=>simp at hl
  | cons u cs=>
   unfold loadCellsFrom
   rw [Aqa]
   simp only [Aj2]
   have h0:H.cell ⟨b,o+i,none⟩=some u:=by have:=hc 0 u (by simp);simpa using this
   rw [Bva]
   simp only [h0,Option.some.injEq,exists_eq_left']
   rw [Avf b o K E n (i+1) (acc.push u) cs (by simpa using hl) (fun j w hj=>by
    have:=hc (j+1) w (by simpa using hj)
    rw [show o+(i+1+j)=o+(i+(j+1)) from by omega];exact this)]
   simp
theorem Azl {b o n:Nat} {cs:List Value} (hl:cs.length=n) (hc:∀j u,cs[j]?=some u->H.cell ⟨b,o+j,none⟩=some u) (K:Array Value->Hp->Prop) (E:Value->Hp->Prop) :
  wpS P (loadCells ⟨b,o,none⟩ n) H K E=K cs.toArray H:=by
 unfold loadCells
 rw [Avf b o K E n 0 #[] cs hl (by simpa using hc)]
 simp
def over (c:Array Value) (o:Nat) (vs:List Value):Array Value:=Array.ofFn fun i:Fin c.size=>if o<=i.val/\i.val<o+vs.length then vs.getD (i.val-o) undef else c[i]
theorem Azo {c:Array Value} {o:Nat} {vs:List Value}:(over c o vs).size=c.size:=by simp [over]
theorem Ajt {c:Array Value} {o:Nat} {vs:List Value} (i:Nat) (hi:i<c.size):(over c o vs)[i]?=if o<=i/\i<o+vs.length then some (vs.getD (i-o) undef) else c[i]?:=by
 simp only [over,Array.getElem?_ofFn,hi,dif_pos]
 split<;>simp
theorem Ay7 {c:Array Value} {o:Nat} {v:Value} {vs:List Value} (h:o<c.size):over (c.setIfInBounds o v) (o+1) vs=over c o (v::vs):=by
 apply Array.ext_getElem?
 intro i
 by_cases hi:i<c.size
 ·rw [Ajt i (by simpa using hi),Ajt i hi]
  simp only [List.length_cons]
  by_cases h1:o+1<=i/\i<o+1+vs.length
  ·rw [if_pos h1,if_pos ⟨by omega,by omega⟩]
   have:i-o=(i-(o+1))+1:=by omega
   rw [this];simp
  ·rw [if_neg h1]
   by_cases h2:i=o
   ·subst h2;rw [if_pos ⟨by omega,by omega⟩];simp [hi]
   ·rw [if_neg (by omega)]
    rw [Array.getElem?_setIfInBounds_ne (by omega)]
 ·rw [Array.getElem?_eq_none (by simp [Azo];omega),Array.getElem?_eq_none (by simp [Azo];omega)]
theorem Bk1 {c:Array Value} {o:Nat}:over c o []=c:=by
 apply Array.ext_getElem?
 intro i
 by_cases hi:i<c.size
 ·rw [Ajt i hi,if_neg (by intro h;simp at h;omega)]
 ·rw [Array.getElem?_eq_none (by simp [Azo];omega),Array.getElem?_eq_none (by omega)]
theorem Ak3 (b o:Nat) (K:Unit->Hp->Prop) (E:Value->Hp->Prop):∀(vs:List Value) (i:Nat) (H:Hp) (c:Array Value) (e:TypeId),(∀v∈vs,one v=true)->H b=some (true,.cells c e (0,0))->o+i+vs.length<=c.size ->
  K () (H.set b (.cells (over c (o+i) vs) e (0,0)))->wpS P (storeCells ⟨b,o,none⟩ vs i) H K E
 | [],i,H,c,e,_,hb,_,h=>by
  rw [Bk1,set_self hb] at h
  exact h
 | v::vs,i,H,c,e,h1,hb,hl,h=>by
  unfold storeCells
  rw [Aqa,Aj2,Bz0 (h1 v List.mem_cons_self),Ak2 hb]
  simp only [List.length_cons] at hl
  refine ⟨by omega,?_⟩
  refine Ak3 b o K E vs (i+1) _ (c.setIfInBounds (o+i) v) e (fun u hu=>h1 u (List.mem_cons_of_mem _ hu)) (by simp [Axp]) (by simp;omega) ?_
  rw [Awb,show o+(i+1)=o+i+1 from by omega,Ay7 (by omega)]
  exact h
theorem Bju (need old:Nat) (h:old<need):Builtin.nextslicecap need old<=2*need+400:=by
 unfold Builtin.nextslicecap
 split
 ·omega
 ·split
  ·omega
  ·have key:∀(r c:Nat),256<=c->c<=need->Builtin.growBy need r c<=2*need+400:=by
    intro r
    induction r with
    | zero=>intro c _ hc;simp only [Builtin.growBy];omega
    | succ r ih=>
     intro c h1 hc
     simp only [Builtin.growBy]
     split
     ·omega
     ·by_cases h2:c+(c+768)/4<=need
      ·exact ih _ (by omega) h2
      ·cases r with
       | zero=>simp only [Builtin.growBy];omega
       | succ r=>simp only [Builtin.growBy];rw [if_pos (by omega)];omega
   exact key _ _ (by omega) (by omega)
theorem Awk (n:Nat) (K:Unit->Hp->Prop) (E:Value->Hp->Prop):wpS P (askRoom n) H K E=K () H:=by
 unfold askRoom
 split
 ·simp [mark,wpS]
 ·rfl
theorem Bjf (z:Array Value) (n:Nat):(Builtin.zeroCells z n).size=n*z.size:=by simp [Builtin.zeroCells]
theorem Az8 {H:Hp} {b x:Nat} {o:Obj} (h:(Hp.set H b o) x=none):H x=none:=by
 rw [Axp] at h
 split at h
 ·cases h
 ·exact h
theorem Bw2 {t e:TypeId} {sz:Nat} {z:Value} {inf:TypeInfo} (hu:P.underlying t=some (.slice e)) (hs:∀w,(sizeOf e).run P w=.ok sz w) (hz:∀w,(zeroValue e).run P w=.ok z w) (hzc:z.cells.size=sz)
  (hi:∀w,(typeInfo e).run P w=.ok inf w) (hby:inf.bytes<=1024) (hby0:0<inf.bytes) {H₀ H:Hp} {v:Value} {n:Nat} {cs:List Value} (hrow:Aju H₀ H v e sz n cs) {Hx:Hp} (hx:H.le Hx)
  {g o m cap:Nat} {news:List Value} (hl:news.length=m*sz) (hg:H₀ g=none->H g=none) (hnews:∀j u,news[j]?=some u->Hx.cell ⟨g,o+j,none⟩=some u) (h1:∀u∈news,one u=true) (hn:n+m<=1073741824)
  (ty:TypeId) (cb:Array Bool) (K:Next->Hp->Prop) (E:Value->Hp->Prop)
  (h:∀v' H' H'',Aju H₀ H' v' e sz (n+m) (cs++news)->H'.le H''->(∀x,H'' x=none->Hx x=none)->K (.value v') H'') :
  wpS P (builtin .append #[t,t] ty cb #[v,.slice (some ⟨g,o,none⟩) m cap]) Hx K E:=by
 have hinf:=Aki hi
 have hcl:=hrow.len
 simp only [builtin]
 rw [Aqa]
 unfold Builtin.append_
 simp only [List.getElem?_toArray,List.getElem?_cons_zero,List.getElem?_cons_succ]
 rw [Aqa,Aqj hu]
 obtain ⟨base,scap,rfl⟩:∃base scap,v=.slice base n scap:=by
  rcases hrow with ⟨rfl,rfl,_,_⟩ | ⟨b,c,cp,_,_,rfl,_⟩
  ·exact ⟨_,_,rfl⟩
  ·exact ⟨_,_,rfl⟩
 simp only [Aqa,Aq0 hs,Aqj hu,Aqf,Bool.false_eq_true,if_false,Builtin.lenOf,Bzz]
 have hle:H₀.le Hx:=Hp.le_trans hrow.le hx
 have hfirst:∀(K':Array Value->Hp->Prop),wpS P (Builtin.firstCells sz m (.slice (some ⟨g,o,none⟩) m cap)) Hx K' E=K' news.toArray Hx:=fun K'=>by
  unfold Builtin.firstCells
  exact Azl hl hnews K' E
 split
 ·rename_i hfit
  simp only [Bool.not_false,if_true]
  rw [hfirst]
  rcases hrow with ⟨hv,rfl,rfl,rfl⟩ | ⟨b,c,cp,hb,rfl,hv,hc,hcs,hcap,hget⟩
  ·simp only [Value.slice.injEq] at hv
   obtain ⟨rfl,_,rfl⟩:=hv
   obtain rfl:m=0:=by omega
   obtain rfl:news=[]:=by simpa using hl
   simp only [Aqf]
   exact h _ _ _ (Aju.nil _ _ _) hx fun _ h=>h
  ·simp only [Value.slice.injEq] at hv
   obtain ⟨rfl,_,rfl⟩:=hv
   simp only [Aqa,Aqf,Aj2]
   have hbx:Hx b=some (true,.cells c e (0,0)):=hx b _ (by simp [Axp])
   have hsz:n*sz+news.length<=c.size:=by rw [hl,hc,<-Nat.add_mul];exact Nat.mul_le_mul_right _ hfit
   refine Ak3 b (0+n*sz) _ E news 0 Hx c e h1 hbx (by omega) ?_
   refine h _ (H₀.set b (.cells (over c (0+n*sz+0) news) e (0,0))) _ (.inr ⟨b,_,scap,hb,rfl,rfl,by rw [Azo,hc],?_,hfit,fun i u hiu=>?_⟩) (Hp.set_le hle) fun x hx'=>Az8 hx'
   ·rw [List.length_append,hcs,hl,Nat.add_mul]
   ·have hilt:i<(cs++news).length:=(List.getElem?_eq_some_iff.1 hiu).1
    rw [List.length_append] at hilt
    rw [Ajt i (by omega)]
    by_cases hic:i<cs.length
    ·rw [if_neg (by omega)]
     exact hget i u (by rw [List.getElem?_append_left hic] at hiu;exact hiu)
    ·rw [if_pos ⟨by omega,by omega⟩]
     rw [List.getElem?_append_right (by omega)] at hiu
     rw [show i-(0+n*sz+0)=i-cs.length from by omega]
     simp [List.getD,hiu]
 ·rename_i hfit
  have hold:∀(K':Array Value->Hp->Prop),wpS P (Builtin.firstCells sz n (.slice base n scap)) Hx K' E=K' cs.toArray Hx:=fun K'=>by
   rcases hrow with ⟨hv,rfl,rfl,rfl⟩ | ⟨b,c,cp,hb,rfl,hv,hc,hcs,hcap,hget⟩
   ·simp only [Value.slice.injEq] at hv
    obtain ⟨rfl,_,rfl⟩:=hv
    rfl
   ·simp only [Value.slice.injEq] at hv
    obtain ⟨rfl,_,rfl⟩:=hv
    unfold Builtin.firstCells
    refine Azl hcs (fun j u hj=>?_) K' E
    rw [cell_of (hx b (true,.cells c e (0,0)) (by simp [Axp]))]
    rw [Nat.zero_add]
    exact hget j u hj
  have hnc:=Bju (n+m) scap (by omega)
  simp only [Ajx hinf]
  rw [if_neg (by intro hh;have:=hh.2;simp at this;omega)]
  rw [if_neg (by
   have:Builtin.nextslicecap (n+m) scap*inf.bytes<=(2*(n+m)+400)*1024:=Nat.mul_le_mul hnc hby
   omega)]
  simp only [choose,wpS,Question.forced,Bool.false_eq_true,if_false,Question.cut]
  intro t
  simp only [Awk,hold,Bool.not_false,if_true,hfirst,Axe hz,newRow,newObj,Aqa,wpS,Aqf]
  intro b' hb'
  generalize hN:n+m+t%(2 ^ 63-(n+m))=N
  have hNge:n+m<=N:=by omega
  refine h _ (H₀.set b' (.cells (cs.toArray++news.toArray++Builtin.zeroCells z.cells (N-(n+m))) e (0,0))) _ (.inr ⟨b',_,N,Hp.le_none hle hb',rfl,rfl,?_,?_,hNge,fun i u hiu=>?_⟩) (Hp.set_le hle) fun x hx'=>Az8 hx'
  ·simp only [Array.size_append,List.size_toArray,Bjf,hzc,hcl,hl,<-Nat.add_mul]
   congr 1;omega
  ·rw [List.length_append,hcl,hl,Nat.add_mul]
  ·have hilt:i<(cs++news).length:=(List.getElem?_eq_some_iff.1 hiu).1
   rw [Array.getElem?_append_left (by simpa using hilt)]
   simpa using hiu
theorem Ak6 {t e:TypeId} {sz:Nat} {z:Value} {inf:TypeInfo} (hu:P.underlying t=some (.slice e)) (hs:∀w,(sizeOf e).run P w=.ok sz w) (hz:∀w,(zeroValue e).run P w=.ok z w) (hzc:z.cells.size=sz)
  (hi:∀w,(typeInfo e).run P w=.ok inf w) (hby:inf.bytes<=1024) (hby0:0<inf.bytes) {H₀ H:Hp} {v:Value} {n:Nat} {cs:List Value} (hrow:Aju H₀ H v e sz n cs) {Hx:Hp} (hx:H.le Hx)
  {g o m cap:Nat} {news:List Value} (hl:news.length=m*sz) (hg:H₀ g=none->H g=none) (hnews:∀j u,news[j]?=some u->Hx.cell ⟨g,o+j,none⟩=some u) (h1:∀u∈news,one u=true) (hn:n+m<=1073741824)
  (ty:TypeId) (cb:Array Bool) (K:Next->Hp->Prop) (E:Value->Hp->Prop)
  (h:∀v' H' H'',Aju H₀ H' v' e sz (n+m) (cs++news)->H'.le H''->K (.value v') H'') :
  wpS P (builtin .append #[t,t] ty cb #[v,.slice (some ⟨g,o,none⟩) m cap]) Hx K E:=
 Bw2 hu hs hz hzc hi hby hby0 hrow hx hl hg hnews h1 hn ty cb K E fun v' H' H'' a b _=>h v' H' H'' a b
theorem reps (z:Value) (n:Nat):((Array.range n).map fun x=>#[z][x % #[z].size]!)=Array.replicate n z:=by
 apply Array.ext
 ·simp
 ·intro i h1 h2
  simp [Nat.mod_one]
section
variable {t e:TypeId} {z:Value} (hu:P.underlying t=some (.slice e)) (hs:∀w,(sizeOf e).run P w=.ok 1 w) (hz:∀w,(zeroValue e).run P w=.ok z w) (hz1:one z=true) (K:Value->Hp->Prop) (E:Value->Hp->Prop)
include hu hs hz hz1
omit hz hz1 in
theorem Bxz:wpS P (Instr.buildSlice t 0 #[]) H K E=∀b,H b=none->K (.slice (some ⟨b,0,none⟩) 0 0) (H.set b (.cells #[] e (0,0))):=by
 unfold Instr.buildSlice
 simp only [Aqa,Aqj hu,Aq0 hs,Nat.reduceMul,Nat.reducePow,gt_iff_lt,Nat.reduceLT,↓reduceIte,Aqf]
 simp only [Instr.fill,newRow,newObj,Aqa,wpS,Aqf,Array.range,Array.ofFn_zero,Array.map_empty]
theorem Avh (n:Nat) (vs:List (Nat×Value)) (hn:n<=1000) (h0:0<n) {c:Array Value} (hf:Instr.fill (fun i=>some (i*1,1)) (Array.replicate n z) vs=some c) :
  wpS P (Instr.buildSlice t n vs.toArray) H K E=∀b,H b=none->K (.slice (some ⟨b,0,none⟩) n n) (H.set b (.cells c e (0,0))):=by
 unfold Instr.buildSlice
 have h1:¬n>16777216:=by omega
 have h2:¬n=0:=by omega
 simp only [Nat.mul_one] at hf
 simp only [Aqa,Aqj hu,Aq0 hs,Nat.mul_one,Nat.reducePow,h1,h2,if_false,Axe hz,Aqf,cells_one hz1,reps,hf,newRow,newObj,wpS]
end
end
end Go.X
end
section
namespace Go.X
open Go
section
variable {P:Program} {H:Hp}
theorem Bzh (l:List Value) (o:Nat) (vs:List Value) (h:o+vs.length<=l.length):over l.toArray o vs=(l.take o++vs++l.drop (o+vs.length)).toArray:=by
 apply Array.ext_getElem?
 intro i
 by_cases hi:i<l.length
 ·rw [Ajt i (by simpa using hi)]
  simp only [List.getElem?_toArray]
  by_cases h1:i<o
  ·rw [if_neg (by omega),List.append_assoc,List.getElem?_append_left (by simp;omega),List.getElem?_take_of_lt h1]
  ·by_cases h2:i<o+vs.length
   ·rw [if_pos ⟨by omega,h2⟩,List.append_assoc,List.getElem?_append_right (by simp;omega)]
    have e:(l.take o).length=o:=by simp;omega
    rw [e,List.getElem?_append_left (by omega)]
    simp [List.getD,List.getElem?_eq_getElem (show i-o<vs.length by omega)]
   ·rw [if_neg (by omega),List.getElem?_append_right (by simp;omega)]
    have e:(l.take o++vs).length=o+vs.length:=by simp;omega
    rw [e,List.getElem?_drop]
    congr 1;omega
 ·rw [Array.getElem?_eq_none (by simp [Azo];omega),Array.getElem?_eq_none (by simp;omega)]
def Bql (H:Hp) (b o n:Nat) (K:Value->Prop):Prop:=
 match H b with
 | some (_,.cells c _ _)=>o+n<=c.size/\K (.agg (c.extract o (o+n)))
 | _=>False
theorem Awp {b o n:Nat} {K:Value->Prop} {p:Bool} {c:Array Value} {e:TypeId} {f:Nat×Nat} (h:H b=some (p,.cells c e f)):Bql H b o n K=(o+n<=c.size/\K (.agg (c.extract o (o+n)))):=by
 simp [Bql,h]
theorem Axl {b o n:Nat} {K:Value->Prop} {c:Array Value} {e:TypeId} {f:Nat×Nat}:Bql (H.set b (.cells c e f)) b o n K=(o+n<=c.size/\K (.agg (c.extract o (o+n)))):=Awp (p:=true) (c:=c) (e:=e) (f:=f) (by simp [Axp])
@[congr] theorem loadA_congr {H':Hp} {b o n b' o':Nat} {K:Value->Prop} (hH:H=H') (hb:b=b') (ho:o=o'):Bql H b o n K=Bql H' b' o' n K:=by subst hH hb ho;rfl
theorem Cz4 {t:TypeId} {d:TypeDesc} (hu:P.underlying t=some d) (hd:aggB d=true) {n:Nat} (hs:∀w,(sizeOf t).run P w=.ok n w) (b o:Nat) (K:Value->Hp->Prop) (E:Value->Hp->Prop) (hn:Bql H b o n (fun v=>K v H)) :
  wpS P (Instr.loadAt t (.pointer (some ⟨b,o,none⟩))) H K E:=by
 unfold Instr.loadAt
 rw [Aqa]
 simp only [Instr.sureAddr,Aqf,loadVar]
 rw [Aqa,Akp hu,hd]
 simp only [if_true,Aqa,Aq0 hs]
 unfold Bql at hn
 split at hn
 ·rename_i p c e f hb
  have hc:((c.toList.drop o).take n).length=n:=by simp;omega
  rw [Azl (cs:=(c.toList.drop o).take n) hc (fun j u hj=>by
   have hjl:j<((c.toList.drop o).take n).length:=(List.getElem?_eq_some_iff.1 hj).1
   rw [hc] at hjl
   rw [cell_of hb]
   rw [List.getElem?_take_of_lt hjl,List.getElem?_drop] at hj
   simpa using hj)]
  have he:((c.toList.drop o).take n).toArray=c.extract o (o+n):=by
   apply Array.ext'
   simp [List.extract_eq_take_drop]
  rw [he,Aqf]
  exact hn.2
 ·exact hn.elim
theorem Ak9 (b o:Nat) (K:Array Value->Hp->Prop) (E:Value->Hp->Prop):∀(n i:Nat) (acc:Array Value),wpS P (loadCellsFrom ⟨b,o,none⟩ i n acc) H K E->∀j,j<n->∃u,H.cell ⟨b,o+(i+j),none⟩=some u
 | 0,_,_,_,j,hj=>by omega
 | n+1,i,acc,h,j,hj=>by
  unfold loadCellsFrom at h
  rw [Aqa,Aj2,Bva] at h
  obtain ⟨v,hv,h⟩:=h
  cases j with
  | zero=>exact ⟨v,by simpa using hv⟩
  | succ j=>
   obtain ⟨u,hu⟩:=Ak9 b o K E n (i+1) _ h j (by omega)
   exact ⟨u,by rw [show o+(i+(j+1))=o+(i+1+j) from by omega];exact hu⟩
theorem Aqp {t:TypeId} {d:TypeDesc} (hu:P.underlying t=some d) (hd:aggB d=true) {n:Nat} (hs:∀w,(sizeOf t).run P w=.ok (n+1) w) (b o:Nat) (K:Value->Hp->Prop) (E:Value->Hp->Prop) :
  wpS P (Instr.loadAt t (.pointer (some ⟨b,o,none⟩))) H K E=Bql H b o (n+1) (fun v=>K v H):=by
 refine propext ⟨fun h=>?_,Cz4 hu hd hs b o K E⟩
 have h':=h
 unfold Instr.loadAt at h'
 rw [Aqa] at h'
 simp only [Instr.sureAddr,Aqf,loadVar] at h'
 rw [Aqa,Akp hu,hd] at h'
 simp only [if_true,Aqa,Aq0 hs] at h'
 have hinv:=Ak9 b o _ E (n+1) 0 #[] h'
 obtain ⟨u0,h0⟩:=hinv 0 (by omega)
 obtain ⟨u1,h1⟩:=hinv n (by omega)
 simp only [Nat.zero_add,Nat.add_zero,Hp.cell] at h0 h1
 rcases hb:H b with _ | ⟨p,ob⟩
 ·rw [hb] at h0;cases h0
 ·rw [hb] at h0 h1
  cases ob<;>simp only [] at h0 h1<;>try (cases h0;done)
  rename_i c e f
  have hlt:o+n<c.size:=by
   simp only [Option.isSome_none,Bool.false_eq_true,if_false] at h1
   exact (Array.getElem?_eq_some_iff.1 h1).1
  rw [Awp hb]
  refine ⟨by omega,?_⟩
  have hc:((c.toList.drop o).take (n+1)).length=n+1:=by simp;omega
  unfold loadCells at h'
  rw [show loadCellsFrom ⟨b,o,none⟩ 0 (n+1) #[]=loadCells ⟨b,o,none⟩ (n+1) from rfl,Azl (cs:=(c.toList.drop o).take (n+1)) hc (fun j u hj=>by
   have hjl:j<((c.toList.drop o).take (n+1)).length:=(List.getElem?_eq_some_iff.1 hj).1
   rw [hc] at hjl
   rw [cell_of hb]
   rw [List.getElem?_take_of_lt hjl,List.getElem?_drop] at hj
   simpa using hj)] at h'
  have he:((c.toList.drop o).take (n+1)).toArray=c.extract o (o+(n+1)):=by
   apply Array.ext'
   simp [List.extract_eq_take_drop]
  rw [he,Aqf] at h'
  exact h'
def Akm (H:Hp) (b:Nat):Nat->List Value->(Hp->Prop)->Prop
 | _,[],K=>K H
 | o,v::vs,K=>one v=true/\stor H b o v fun H'=>Akm H' b (o+1) vs K
termination_by _ vs _=>vs.length
theorem Bzt {b o:Nat} {K:Hp->Prop}:Akm H b o [] K=K H:=by unfold Akm;rfl
theorem Bqs {b o:Nat} {v:Value} {vs:List Value} {K:Hp->Prop}:Akm H b o (v::vs) K=(one v=true/\stor H b o v fun H'=>Akm H' b (o+1) vs K):=by
 conv=>lhs;unfold Akm
theorem Aj9 {b:Nat} {K:Hp->Prop} {e:TypeId}:∀ {vs:List Value} {o:Nat} {H:Hp} {c:Array Value},vs≠[]->H b=some (true,.cells c e (0,0))->Akm H b o vs K=((vs.all one)=true/\o+vs.length<=c.size/\K (H.set b (.cells (over c o vs) e (0,0))))
 | [],_,_,_,h,_=>absurd rfl h
 | [v],o,H,c,_,hb=>by
  rw [Bqs,Ak2 hb,Bzt,<-Bk1 (c:=c.setIfInBounds o v) (o:=o+1)]
  by_cases h:o<c.size
  ·rw [Ay7 h];simp;omega
  ·apply propext;constructor
   ·rintro ⟨_,h',_⟩;exact absurd h' h
   ·rintro ⟨_,h',_⟩;simp at h';omega
 | v::w::vs,o,H,c,_,hb=>by
  rw [Bqs,Ak2 hb]
  have ih:=Aj9 (K:=K) (b:=b) (e:=e) (vs:=w::vs) (o:=o+1) (H:=H.set b (.cells (c.setIfInBounds o v) e (0,0))) (c:=c.setIfInBounds o v) (by simp) (by simp [Axp])
  rw [ih,Awb]
  by_cases h:o<c.size
  ·rw [Ay7 h]
   simp only [List.all_cons,Bool.and_eq_true,List.length_cons,Array.size_setIfInBounds]
   exact propext ⟨fun ⟨a,_,c,d,e⟩=>⟨⟨a,c⟩,by omega,e⟩,fun ⟨⟨a,c⟩,d,e⟩=>⟨a,h,c,by omega,e⟩⟩
  ·apply propext;constructor
   ·rintro ⟨_,h',_⟩;exact absurd h' h
   ·rintro ⟨_,h',_⟩;simp at h';omega
theorem Cv4 {b o:Nat} {vs:List Value} {K:Hp->Prop} {c:Array Value} {e:TypeId} {v:Value}:Akm (H.set b (.cells c e (0,0))) b o (v::vs) K=(((v::vs).all one)=true/\o+(v::vs).length<=c.size/\K (H.set b (.cells (over c o (v::vs)) e (0,0)))):=by
 rw [Aj9 (c:=c) (e:=e) (by simp) (by simp [Axp]),Awb]
theorem Dqy {b o:Nat} {vs:List Value} {K:Hp->Prop} {c:Array Value} {e:TypeId} {v:Value} (h:H b=some (true,.cells c e (0,0))):Akm H b o (v::vs) K=(((v::vs).all one)=true/\o+(v::vs).length<=c.size/\K (H.set b (.cells (over c o (v::vs)) e (0,0)))):=
 Aj9 (by simp) h
@[congr] theorem storL_congr {H':Hp} {b o b' o':Nat} {vs vs':List Value} {K:Hp->Prop} (hH:H=H') (hb:b=b') (ho:o=o') (hv:vs=vs'):Akm H b o vs K=Akm H' b' o' vs' K:=by subst hH hb ho hv;rfl
theorem Awg (b o:Nat) (K:Unit->Hp->Prop) (E:Value->Hp->Prop):∀(vs:List Value) (i:Nat) (H:Hp),wpS P (storeCells ⟨b,o,none⟩ vs i) H K E=Akm H b (o+i) vs (K ())
 | [],i,H=>by rw [Bzt];rfl
 | v::vs,i,H=>by
  unfold storeCells
  rw [Aqa,Aj2,Bqs]
  by_cases h1:one v=true
  ·rw [Bz0 h1]
   simp only [h1,true_and]
   congr 1
   funext H'
   exact Awg b o K E vs (i+1) H'
  ·simp only [store,wpS]
   simp [h1]
theorem Aqs {t:TypeId} {n:Nat} (hs:∀w,(sizeOf t).run P w=.ok n w) (b o:Nat) (vs:List Value) (K:Unit->Hp->Prop) (E:Value->Hp->Prop) :
  wpS P (Instr.storeAt t (.pointer (some ⟨b,o,none⟩)) (.agg vs.toArray)) H K E=(vs.length=n/\Akm H b o vs (K ())):=by
 unfold Instr.storeAt
 rw [Aqa]
 simp only [Instr.sureAddr,Aqf,storeVar]
 rw [Aqa,Aq0 hs]
 simp only [Value.cells,List.size_toArray,ne_eq]
 by_cases hl:vs.length=n
 ·simp only [hl,not_true,if_false,true_and]
  exact Awg b o K E vs 0 H
 ·simp only [hl,not_false_eq_true,if_true,false_and]
  apply propext
  constructor
  ·intro h;rw [Aqa] at h;exact h.elim
  ·exact fun h=>h.elim
theorem Aqm {t:TypeId} {d:TypeDesc} (hu:P.underlying t=some d) (hd:aggB d=false) (cs:Array Value) (off:Nat) {v:Value} (hv:cs[off]?=some v) (K:Value->Hp->Prop) (E:Value->Hp->Prop) :
  wpS P (part t cs off) H K E=K v H:=by
 unfold part
 rw [Aqa,Akp hu,hd]
 simp [hv,Aqf]
theorem Bxp {t:TypeId} {d:TypeDesc} (hu:P.underlying t=some d) (hd:aggB d=true) {n:Nat} (hs:∀w,(sizeOf t).run P w=.ok n w) (cs:Array Value) (off:Nat) (K:Value->Hp->Prop) (E:Value->Hp->Prop) :
  wpS P (part t cs off) H K E=K (.agg (cs.extract off (off+n))) H:=by
 unfold part
 rw [Aqa,Akp hu,hd]
 simp only [if_true,Aqa,Aq0 hs,Aqf]
def Sizes (P:Program):List Field->List Nat->Prop
 | [],[]=>True
 | f::fs,n::ns=>(∀w,(sizeOf f.type).run P w=.ok n w)/\Sizes P fs ns
 | _,_=>False
def places:List Field->List Nat->List (Nat×Nat)
 | f::fs,n::ns=>(f.offset,n)::places fs ns
 | _,_=>[]
theorem Bj5 (K:List (Nat×Nat)->Hp->Prop) (E:Value->Hp->Prop):∀(fs:List Field) (ns:List Nat),Sizes P fs ns ->
  wpS P (fs.mapM fun f=>do pure (f.offset,<-sizeOf f.type)) H K E=K (places fs ns) H
 | [],[],_=>rfl
 | [],_::_,h=>h.elim
 | _::_,[],h=>h.elim
 | f::fs,n::ns,h=>by
  rw [List.mapM_cons,Aqa,Aqa,Aq0 h.1]
  rw [Aqf,Aqa]
  exact Bj5 (fun l H'=>K ((f.offset,n)::l) H') E fs ns h.2
def lay (pl:List (Nat×Nat)):List (Nat×Value)->List Value->Option (List Value)
 | [],cs=>some cs
 | (i,v)::rest,cs=>match pl[i]? with
  | none=>none
  | some (off,n)=>if v.cells.size=n/\off+n<=cs.length then lay pl rest (cs.take off++v.cells.toList++cs.drop (off+n)) else none
theorem Bqj (off:Nat):∀(vs:List Value) (k:Nat) (c:Array Value),off+k+vs.length<=c.size->(vs.zipIdx k).foldl (fun cs (x:Value×Nat)=>cs.setIfInBounds (off+x.2) x.1) c=over c (off+k) vs
 | [],k,c,_=>by rw [Bk1];rfl
 | v::vs,k,c,h=>by
  simp only [List.length_cons] at h
  simp only [List.zipIdx_cons,List.foldl_cons]
  rw [Bqj off vs (k+1) _ (by simp;omega),show off+(k+1)=off+k+1 from by omega,Ay7 (by omega)]
theorem Cxj (pl:List (Nat×Nat)):∀(ps:List (Nat×Value)) (cs:List Value) (out:List Value),lay pl ps cs=some out->Instr.fill (pl.toArray[·]?) cs.toArray ps=some out.toArray
 | [],cs,out,h=>by simp only [lay,Option.some.injEq] at h;subst h;rfl
 | (i,v)::rest,cs,out,h=>by
  unfold lay at h
  unfold Instr.fill
  rw [List.getElem?_toArray]
  split at h
  ·cases h
  ·rename_i off n hp
   rw [hp]
   simp only []
   split at h
   ·rename_i hc
    rw [if_neg (by simp [hc.1];exact hc.2)]
    have:(Array.foldl (fun cs (x:Value×Nat)=>cs.setIfInBounds (off+x.2) x.1) cs.toArray v.cells.zipIdx)=(cs.take off++v.cells.toList++cs.drop (off+n)).toArray:=by
     rw [<-Array.foldl_toList,Array.toList_zipIdx]
     have hlen:v.cells.toList.length=n:=by simpa using hc.1
     rw [Bqj off v.cells.toList 0 cs.toArray (by simp [hc.1];exact hc.2)]
     rw [Nat.add_zero,Bzh _ _ _ (by rw [hlen];exact hc.2),hlen]
    rw [this]
    exact Cxj pl rest _ out h
   ·cases h
theorem Axb {t:TypeId} {fs:Array Field} (hu:P.underlying t=some (.struct fs)) {z:List Value} (hz:∀w,(zeroValue t).run P w=.ok (.agg z.toArray) w) {ns:List Nat} (hns:Sizes P fs.toList ns) (ps:List (Nat×Value)) {out:List Value} (hl:lay (places fs.toList ns) ps z=some out)
  (K:Value->Hp->Prop) (E:Value->Hp->Prop):wpS P (Instr.build t ps.toArray) H K E=K (.agg out.toArray) H:=by
 unfold Instr.build
 rw [Aqa,Axe hz]
 rw [Aqa,Aqj hu]
 simp only [Value.cells]
 have hm:(fs.mapM (m:=Sem) fun f=>do pure (f.offset,<-sizeOf f.type))=(fs.toList.mapM (m:=Sem) fun f=>do pure (f.offset,<-sizeOf f.type)) >>= fun l=>pure l.toArray:=by
  rw [Array.mapM_eq_mapM_toList]
  rfl
 rw [Aqa,hm,Aqa,Bj5 _ _ _ _ hns]
 simp only [Aqf]
 rw [show ((fun x=>(places fs.toList ns).toArray[x]?):Nat->Option (Nat×Nat))=((places fs.toList ns).toArray[·]?) from rfl,Cxj _ _ _ _ hl]
 rfl
theorem Dqe {t:TypeId} {d:TypeDesc} (hu:P.underlying t=some d) (hd:(match d with | .interface _=>true | _=>false)=false) (x:Value) (K:Value->Hp->Prop) (E:Value->Hp->Prop):wpS P (Instr.makeInterface t x) H K E=K (.iface t x) H:=by
 unfold Instr.makeInterface
 rw [Aqa,Aqj hu]
 cases d<;>first | rfl | cases hd
end
end Go.X
end
