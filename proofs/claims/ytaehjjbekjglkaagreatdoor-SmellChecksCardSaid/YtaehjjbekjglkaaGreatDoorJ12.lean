/- Texts Run Keys Rows2 PlanT PlanU PlanV Structs Range Recov Iter Count Like Fork. -/
import Derived.Test.YtaehjjbekjglkaaGreatDoorJ02
import Derived.Test.YtaehjjbekjglkaaGreatDoorJ11
import Derived.Conc.Own2
set_option linter.defProp false
set_option linter.unusedSimpArgs false
set_option linter.unusedVariables false
set_option maxRecDepth 100000
set_option maxHeartbeats 2000000
section
namespace Go.X
open Go
theorem Bxb {ops:List Oper} {tmps:Array Value} {j:Nat}:yielded ops.toArray tmps j=ylK (((ops[j]?).bind (·.dst)).bind (tmps[·]?)):=by
 unfold yielded ylK
 simp only [List.getElem?_toArray]
 rfl
end Go.X
namespace Go.Proofs.YtaehjjbekjglkaaGreatDoor
open Go Go.X
structure RS where
 m:Nat
 came:List Int
 asked:List Int
 later:List Int
 cl:List Int
 f:Nat
def Dvm (rk:Int->Int) (l:List Int):Int:=l.foldl (fun c q=>if c<0∨rk q<rk c then q else c) (-1)
def Dkr (pl:Int) (m:Nat) (t:Int):Bool:= !m.testBit t.toNat&&decide (pl<=Dkh m)
def Dkl (pl r:Int) (ts:List Int) (i:Nat) (t:Int) (s:RS):Int:=
 if Dkr pl s.m t then Dvm (Dvn r s.came s.asked (if r=3 then Dq6 ts (i+1) else s.later)) (Dvk s.m) else -1
def rstep (pl r:Int) (ts:List Int) (i:Nat) (t:Int) (s:RS):RS:=
 {m:=Dvl s.m (Dkl pl r ts i t s) t
  came:=if s.m.testBit t.toNat then s.came else s.came.set t.toNat i
  asked:=s.asked.set t.toNat i
  later:=if r=3/\Dkr pl s.m t then Dq6 ts (i+1) else s.later
  cl:=s.cl.set i (Dkl pl r ts i t s)
  f:=s.f+if s.m.testBit t.toNat then 0 else 1 }
end Go.Proofs.YtaehjjbekjglkaaGreatDoor
end
section
namespace Go.X
open Go
section
variable {P:Program} {H:Hp} {κ:Type} [DecidableEq κ] {enc:κ->Value} {ks:TypeId}
structure KeyT (P:Program) (ks:TypeId) (enc:κ->Value):Prop where
 eq:∀(a b:κ) (H:Hp) (K:Bool->Hp->Prop) (E:Value->Hp->Prop),wpS P (Op.equal ks (enc a) (enc b)) H K E=K (decide (a=b)) H
 ck:∀(em:Bool) (a:κ) (H:Hp) (K:Unit->Hp->Prop) (E:Value->Hp->Prop),wpS P (Instr.checkKey em 10000 ks (enc a)) H K E=K () H
 un:∃d,P.underlying ks=some d/\∀a b,Instr.sameNow d (enc a) (enc b)=none
 bits:∀a,Instr.sameBits 10000 (enc a) (enc a)=true
def MapG (enc:κ->Value) (ok:κ->Prop) (F:κ->Value) (clock:Nat) (es:List MapEntry):Prop:=∀e∈es,∃k,ok k/\e.key=enc k/\e.val=F k/\e.born<clock
theorem Bx6 (h:KeyT P ks enc) {ok:κ->Prop} {F:κ->Value} {clock:Nat} (a:κ) (H:Hp) :
  ∀(es:List MapEntry) (i:Nat),MapG enc ok F clock es->∃r:Option (Nat×Value),(∀j v,r=some (j,v)->i<=j/\v=F a/\∃e,es[j-i]?=some e/\e.key=enc a) /\
   ∀(K:Option (Nat×Value)->Hp->Prop) (E:Value->Hp->Prop),K r H->wpS P (Instr.findAsking ks (enc a) es i) H K E
 | [],i,_=>⟨none,fun j v h=>(by cases h),fun K E hk=>hk⟩
 | e::es,i,hm=>by
  obtain ⟨c,_,hke,hve,_⟩:=hm e List.mem_cons_self
  unfold Instr.findAsking
  by_cases hq:a=c
  ·subst hq
   refine ⟨some (i,e.val),fun j v hj=>?_,fun K E hK=>?_⟩
   ·cases hj
    exact ⟨Nat.le_refl _,hve,e,by simp,hke⟩
   ·rw [Aqa,hke,h.eq]
    simp only [decide_true,if_true,Aqf]
    exact hK
  ·obtain ⟨r,hr,hk⟩:=Bx6 h a H es (i+1) (fun e he=>hm e (List.mem_cons_of_mem _ he))
   refine ⟨r,fun j v hj=>?_,fun K E hK=>?_⟩
   ·obtain ⟨h1,h2,e',h3,h4⟩:=hr j v hj
    refine ⟨by omega,h2,e',?_,h4⟩
    rw [show j-i=(j-(i+1))+1 by omega,List.getElem?_cons_succ]
    exact h3
   ·rw [Aqa,hke,h.eq]
    simp only [hq,decide_false,Bool.false_eq_true,if_false]
    exact hk K E hK
theorem Cy0 (h:KeyT P ks enc) {ok:κ->Prop} {F:κ->Value} {clock:Nat} (a:κ) (H:Hp)
  (es:List MapEntry) (hm:MapG enc ok F clock es):∃r:Option (Nat×Value),(∀j v,r=some (j,v)->v=F a/\∃e,es[j]?=some e/\e.key=enc a) /\
   ∀(K:Option (Nat×Value)->Hp->Prop) (E:Value->Hp->Prop),K r H->wpS P (Instr.findKey ks (enc a) es) H K E:=by
 obtain ⟨d,hu,hd⟩:=h.un
 cases es with
 | nil=>
  refine ⟨none,fun j v h=>(by cases h),fun K E hK=>?_⟩
  unfold Instr.findKey
  rw [Aqa,Aqj hu]
  exact hK
 | cons e es=>
  obtain ⟨c,_,hke,hve,_⟩:=hm e List.mem_cons_self
  obtain ⟨r,hr,hk⟩:=Bx6 h a H (e::es) 0 hm
  refine ⟨r,fun j v hj=>?_,fun K E hK=>?_⟩
  ·obtain ⟨_,h2,e',h3,h4⟩:=hr j v hj
   exact ⟨h2,e',by simpa using h3,h4⟩
  ·unfold Instr.findKey
   rw [Aqa,Aqj hu]
   simp only [Instr.findNow,hke,hd]
   exact hk K E hK
theorem Djj {mt vt:TypeId} (hu:P.underlying mt=some (.map ks vt)) (h:KeyT P ks enc) {ok:κ->Prop} {F:κ->Value} (a:κ) (hok:ok a)
  {mb:Nat} {es:Array MapEntry} {clock:Nat} (hb:H mb=some (true,.map es clock)) (hm:MapG enc ok F clock es.toList) (K:Unit->Hp->Prop) (E:Value->Hp->Prop)
  (hk:∀es' clock',MapG enc ok F clock' es'.toList->K () (H.set mb (.map es' clock'))):wpS P (Instr.mapUpdate mt (.map (some mb)) (enc a) (F a)) H K E:=by
 unfold Instr.mapUpdate
 simp only [Aqa,Aqj hu]
 refine ⟨true,_,hb,rfl,rfl,?_⟩
 simp only [Akq,Aqf,Aqa,h.ck]
 obtain ⟨r,hr,hk'⟩:=Cy0 h a H es.toList hm
 refine hk' _ _ ?_
 cases r with
 | none=>
  refine ⟨_,hb,rfl,rfl,hk _ _ fun e he=>?_⟩
  simp only [Array.toList_push,List.mem_append,List.mem_singleton] at he
  rcases he with he | rfl
  ·obtain ⟨k,h1,h2,h3,h4⟩:=hm e he
   exact ⟨k,h1,h2,h3,by omega⟩
  ·exact ⟨a,hok,rfl,rfl,Nat.lt_succ_self _⟩
 | some q=>
  obtain ⟨j,v⟩:=q
  obtain ⟨hv,e,he,hke⟩:=hr j v rfl
  have he':es[j]?=some e:=by simpa using he
  simp only [he',Option.map_some,Option.getD_some,hke,Instr.keyThatStays,h.bits,if_true,Aqf]
  refine ⟨_,hb,rfl,rfl,hk _ _ fun x hx=>?_⟩
  simp only [Array.toList_modify] at hx
  obtain ⟨i,hi,rfl⟩:=List.getElem_of_mem hx
  rw [List.getElem_modify]
  split
  ·obtain ⟨k,h1,h2,h3,h4⟩:=hm _ (List.getElem_mem (l:=es.toList) (n:=i) (by simpa using hi))
   exact ⟨a,hok,rfl,rfl,h4⟩
  ·exact hm _ (List.getElem_mem _)
end
section ex
variable {P:Program} {H:Hp} (ρ:Operand->Value) (d:Option Tmp) (ty:TypeId) (pos:String) (af:Array Edge) (g:Option (Nat×Bool)) (K:Next->Hp->Prop) (E:Value->Hp->Prop)
end ex
section
variable {P:Program} {ks:TypeId}
def K5:Type:={ l:List Int // l.length=5 }
instance:DecidableEq K5:=fun a b=>decidable_of_iff (a.1=b.1) ⟨Subtype.ext,fun h=>congrArg _ h⟩
end
end Go.X
end
section
namespace Go.X
open Go
end Go.X
namespace Go.Proofs.YtaehjjbekjglkaaGreatDoor
open Go Go.X
theorem Ay6 {l vs:List Value} (h:vs.length=l.length):over l.toArray 0 vs=vs.toArray:=by
 rw [Bzh _ _ _ (by omega),List.take_zero,List.nil_append,List.drop_of_length_le (by omega),List.append_nil]
def rowB:Value->Option Nat
 | .slice (some a) _ _=>some a.block
 | _=>none
end Go.Proofs.YtaehjjbekjglkaaGreatDoor
end
section
namespace Go.X
open Go
inductive PT where
 | nil
 | take (i:Nat) (p:PT)
 | one (i:Nat) (p:PT)
 | two (i:Nat) (p:PT) (j:Nat) (q:PT)
section
variable {P:Program} {main:Md} {lp:Option Nat} {Q:Exit->Act->Hp->Prop} {ops:Array Oper} {S:Hp->Prop}
def Cjb (P:Program) (main:Md) (lp:Option Nat) (ops:Array Oper) (Q:Exit->Act->Hp->Prop) (S:Hp->Prop):PT->Act->Hp->Prop
 | .nil,a,H=>Q .normal a H
 | .take i p,a,H=>S H/\∃o,ops[i]?=some o/\∃v,Ax9 P main lp ops S o v a/\Cjb P main lp ops Q S p (a.put o.dst v) H
 | .one i p,a,H=>numX P main lp ops i Q (fun a' H'=>S H'/\Cjb P main lp ops Q S p a' H') a H
 | .two i p j q,a,H=>numX P main lp ops i Q (fun a' H'=>S H'/\Cjb P main lp ops Q S p a' H') a H/\numX P main lp ops j Q (fun a' H'=>S H'/\Cjb P main lp ops Q S q a' H') a H
@[congr] theorem planT_congr {S:Hp->Prop} {ops:Array Oper} {p:PT} {a a':Act} {H H':Hp} (ha:a=a') (hH:H=H'):Cjb P main lp ops Q S p a H=Cjb P main lp ops Q S p a' H':=by subst ha hH;rfl
end
end Go.X
end
section
namespace Go.X
open Go
section
variable {P:Program} {main:Md} {lp:Option Nat} {Q:Exit->Act->Hp->Prop} {ops:Array Oper} {S:Hp->Prop}
def waitsFor (ops:Array Oper) (t:Nat):Array Bool:=marked ops (List.range ops.size).reverse ((Array.replicate ops.size false).setIfInBounds t true)
theorem Bq8 {t x:Nat} (h:(waitsFor ops t).getD x false=true):x=t∨Dep ops t x:=by
 refine Ava _ _ (fun y hy=>?_) x h
 by_cases hyt:t=y
 ·exact .inl hyt.symm
 ·rw [getD_set_ne false hyt] at hy
  by_cases hlt:y<ops.size<;>simp [Array.getD,hlt] at hy
def Cjc (P:Program) (main:Md) (lp:Option Nat) (ops:Array Oper) (Q:Exit->Act->Hp->Prop) (S:Hp->Prop) (ts:List Nat):PT->Act->Hp->Prop
 | .nil,a,H=>Q .normal a H
 | .take i p,a,H=>S H/\∃o,ops[i]?=some o/\∃v,Ax9 P main lp ops S o v a/\Cjc P main lp ops Q S ts p (a.put o.dst v) H
 | .one i p,a,H=>numX P main lp ops i Q (fun a' H'=>(i∈ts∨S H')/\Cjc P main lp ops Q S ts p a' H') a H
 | .two i p j q,a,H=>numX P main lp ops i Q (fun a' H'=>(i∈ts∨S H')/\Cjc P main lp ops Q S ts p a' H') a H/\numX P main lp ops j Q (fun a' H'=>(j∈ts∨S H')/\Cjc P main lp ops Q S ts q a' H') a H
@[congr] theorem planU_congr {S:Hp->Prop} {ts:List Nat} {ops:Array Oper} {p:PT} {a a':Act} {H H':Hp} (ha:a=a') (hH:H=H'):Cjc P main lp ops Q S ts p a H=Cjc P main lp ops Q S ts p a' H':=by subst ha hH;rfl
end
end Go.X
end
section
namespace Go.X
open Go
section
variable {P:Program} {main:Md} {lp:Option Nat} {Q:Exit->Act->Hp->Prop} {ops:Array Oper} {S:Hp->Prop}
def anyV (P:Program) (main:Md) (lp:Option Nat) (ops:Array Oper) (Q:Exit->Act->Hp->Prop) (S:Hp->Prop) (ts:List Nat):Nat->Array Bool->Act->Hp->Prop
 | 0,listed,a,H=>Region.ready .any ops listed=[]/\Q .normal a H
 | fuel+1,listed,a,H=>
  (Region.ready .any ops listed=[]->Q .normal a H) /\
  ∀i∈Region.ready .any ops listed,numX P main lp ops i Q (fun a' H'=>(i∈ts∨(S H->S H'))/\anyV P main lp ops Q S ts fuel (listed.setIfInBounds i true) a' H') a H
theorem Av2 {ts:List Nat}:∀(fuel:Nat) (listed:Array Bool) (a:Act) (H:Hp),anyV P main lp ops Q S ts fuel listed a H->anyX P main lp ops Q (fun _=>True) fuel listed a H
 | 0,_,_,_,h=>h
 | fuel+1,_,_,_,h=>⟨h.1,fun i hi=>Axx (fun a' H' h'=>⟨trivial,Av2 fuel _ a' H' h'.2⟩) (h.2 i hi)⟩
theorem Bjg {ts:List Nat} {i:Nat} {oi:Oper} {v:Value} (hi:ops[i]?=some oi) (hsel:∀(j:Nat) (o:Oper) cs b,ops[j]?=some o->o.op≠.select cs b)
  (hdep:∀t∈ts,t<ops.size->Dep ops t i)
  (hQ:∀c a H,Q (.panic c) (a.put oi.dst v) H->Q (.panic c) a H) :
  ∀(fuel:Nat) (listed:Array Bool) (a:Act) (H:Hp),Closed ops listed ->
   (∀j oj,ops[j]?=some oj->j≠i->listed.getD j true=false->(∀e∈oj.after,Region.binds .any e=true->e.on≠i)->oi.apart ops oj=true) ->
   i∈Region.ready .any ops listed->Ax9 P main lp ops S oi v a->S H ->
   anyV P main lp ops Q S ts fuel (listed.setIfInBounds i true) (a.put oi.dst v) H->anyV P main lp ops Q S ts (fuel+1) listed a H:=by
 intro fuel
 induction fuel with
 | zero=>
  intro listed a H _ _ hr hy hS h
  refine ⟨fun h0=>(by rw [h0] at hr;cases hr),fun j hj=>?_⟩
  by_cases hji:j=i
  ·subst hji;exact hy.num hi hS ⟨.inr id,h⟩
  ·have:=ready_mono hj hji
   rw [h.1] at this
   cases this
 | succ fuel ih=>
  intro listed a H hcl hfree hr hy hS h
  refine ⟨fun h0=>(by rw [h0] at hr;cases hr),fun j hj=>?_⟩
  by_cases hji:j=i
  ·subst hji;exact hy.num hi hS ⟨.inr id,h⟩
  ·have h1:=h.2 j (ready_mono hj hji)
   obtain ⟨hjun,oj,hoj,hall⟩:=mem_ready.1 hj
   have hiun:listed.getD i false=false:=by
    have h0:=(mem_ready.1 hr).1
    rcases Nat.lt_or_ge i listed.size with h' | h'
    ·simpa [h'] using h0
    ·simp [Array.getElem?_eq_none h']
   have hjt:j∉ts:=fun e=>by
    have:=(hdep j e (Array.getElem?_eq_some_iff.1 hoj).1).listed hcl hj
    rw [hiun] at this;cases this
   have hnot:∀e∈oj.after,Region.binds .any e=true->e.on≠i:=fun e he hb heq=>by
    have h1:=hall e he hb
    rw [heq,hiun] at h1
    cases h1
   have h2:=Bkw hoj (hfree j oj hoj hji hjun hnot) (fun cs b=>hsel i oi cs b hi) (fun cs b=>hsel j oj cs b hoj) hQ hy h1
   have hfree':∀k ok,ops[k]?=some ok->k≠i->(listed.setIfInBounds j true).getD k true=false ->
     (∀e∈ok.after,Region.binds .any e=true->e.on≠i)->oi.apart ops ok=true:=fun k ok hk hki hun hno=>by
    refine hfree k ok hk hki ?_ hno
    by_cases hjk:j=k
    ·subst hjk;exact hjun
    ·rw [getD_set_ne true hjk] at hun;exact hun
   refine Axx (fun a' H' h3=>?_) h2
   obtain ⟨hy',hd,h4⟩:=h3
   have hS':S H':=hd.resolve_left hjt hS
   exact ⟨.inr fun _=>hS',ih (listed.setIfInBounds j true) a' H' (hcl.set hj) hfree' (ready_mono hr (Ne.symm hji)) hy' hS' (by rw [Array.setIfInBounds_comm _ _ hji];exact h4)⟩
theorem Bvl {ts:List Nat} {i:Nat} {oi:Oper} {v:Value} (hi:ops[i]?=some oi) (hsel:∀(j:Nat) (o:Oper) cs b,ops[j]?=some o->o.op≠.select cs b)
  (hQ:∀c a H,Q (.panic c) (a.put oi.dst v) H->Q (.panic c) a H) :
  ∀(fuel:Nat) (listed:Array Bool) (a:Act) (H:Hp),Closed ops listed ->
   (∀j oj,ops[j]?=some oj->j≠i->listed.getD j true=false->(∀e∈oj.after,Region.binds .any e=true->e.on≠i)->oi.apart ops oj=true) ->
   i∈Region.ready .any ops listed->Ax9 P main lp ops (fun _=>True) oi v a ->
   anyV P main lp ops Q S ts fuel (listed.setIfInBounds i true) (a.put oi.dst v) H->anyV P main lp ops Q S ts (fuel+1) listed a H:=by
 intro fuel
 induction fuel with
 | zero=>
  intro listed a H _ _ hr hy h
  refine ⟨fun h0=>(by rw [h0] at hr;cases hr),fun j hj=>?_⟩
  by_cases hji:j=i
  ·subst hji;exact hy.num hi trivial ⟨.inr id,h⟩
  ·have:=ready_mono hj hji
   rw [h.1] at this
   cases this
 | succ fuel ih=>
  intro listed a H hcl hfree hr hy h
  refine ⟨fun h0=>(by rw [h0] at hr;cases hr),fun j hj=>?_⟩
  by_cases hji:j=i
  ·subst hji;exact hy.num hi trivial ⟨.inr id,h⟩
  ·have h1:=h.2 j (ready_mono hj hji)
   obtain ⟨hjun,oj,hoj,hall⟩:=mem_ready.1 hj
   have hiun:listed.getD i false=false:=by
    have h0:=(mem_ready.1 hr).1
    rcases Nat.lt_or_ge i listed.size with h' | h'
    ·simpa [h'] using h0
    ·simp [Array.getElem?_eq_none h']
   have hnot:∀e∈oj.after,Region.binds .any e=true->e.on≠i:=fun e he hb heq=>by
    have h1:=hall e he hb
    rw [heq,hiun] at h1
    cases h1
   have h2:=Bkw hoj (hfree j oj hoj hji hjun hnot) (fun cs b=>hsel i oi cs b hi) (fun cs b=>hsel j oj cs b hoj) hQ hy h1
   have hfree':∀k ok,ops[k]?=some ok->k≠i->(listed.setIfInBounds j true).getD k true=false ->
     (∀e∈ok.after,Region.binds .any e=true->e.on≠i)->oi.apart ops ok=true:=fun k ok hk hki hun hno=>by
    refine hfree k ok hk hki ?_ hno
    by_cases hjk:j=k
    ·subst hjk;exact hjun
    ·rw [getD_set_ne true hjk] at hun;exact hun
   refine Axx (fun a' H' h3=>?_) h2
   obtain ⟨hy',hd,h4⟩:=h3
   exact ⟨hd,ih (listed.setIfInBounds j true) a' H' (hcl.set hj) hfree' (ready_mono hr (Ne.symm hji)) hy' (by rw [Array.setIfInBounds_comm _ _ hji];exact h4)⟩
inductive PV where
 | nil
 | take (i:Nat) (p:PV)
 | free (i:Nat) (p:PV)
 | one (i:Nat) (p:PV)
 | two (i:Nat) (p:PV) (j:Nat) (q:PV)
 | rest (L:Array Bool)
def PV.depth:PV->Nat
 | .nil=>0
 | .take _ p=>p.depth+1
 | .free _ p=>p.depth+1
 | .one _ p=>p.depth+1
 | .two _ p _ q=>max p.depth q.depth+1
 | .rest L=>L.toList.count false
def Azh (P:Program) (main:Md) (lp:Option Nat) (ops:Array Oper) (Q:Exit->Act->Hp->Prop) (S:Hp->Prop) (ts:List Nat):PV->Act->Hp->Prop
 | .nil,a,H=>Q .normal a H
 | .take i p,a,H=>S H/\∃o,ops[i]?=some o/\∃v,Ax9 P main lp ops S o v a/\Azh P main lp ops Q S ts p (a.put o.dst v) H
 | .free i p,a,H=>∃o,ops[i]?=some o/\∃v,Ax9 P main lp ops (fun _=>True) o v a/\Azh P main lp ops Q S ts p (a.put o.dst v) H
 | .one i p,a,H=>numX P main lp ops i Q (fun a' H'=>(i∈ts∨(S H->S H'))/\Azh P main lp ops Q S ts p a' H') a H
 | .two i p j q,a,H=>numX P main lp ops i Q (fun a' H'=>(i∈ts∨(S H->S H'))/\Azh P main lp ops Q S ts p a' H') a H/\numX P main lp ops j Q (fun a' H'=>(j∈ts∨(S H->S H'))/\Azh P main lp ops Q S ts q a' H') a H
 | .rest L,a,H=>Closed ops L->∀fuel,L.toList.count false<=fuel->anyV P main lp ops Q S ts fuel L a H
def Aja (ops:Array Oper) (ts:List Nat):PV->Array Bool->Bool
 | .nil,listed=>(Region.ready .any ops listed).isEmpty
 | .take i p,listed=>(ts.all fun t=>i != t&&(waitsFor ops t).getD i false)&&Region.free .any ops listed i&&(Region.ready .any ops listed).contains i&&Aja ops ts p (listed.setIfInBounds i true)
 | .free i p,listed=>Region.free .any ops listed i&&(Region.ready .any ops listed).contains i&&Aja ops ts p (listed.setIfInBounds i true)
 | .one i p,listed=>(Region.ready .any ops listed==[i])&&Aja ops ts p (listed.setIfInBounds i true)
 | .two i p j q,listed=>(Region.ready .any ops listed==[i,j])&&Aja ops ts p (listed.setIfInBounds i true)&&Aja ops ts q (listed.setIfInBounds j true)
 | .rest L,listed=>L==listed
theorem Ajp {ts:List Nat} (hsel:Region.noSelect ops=true) (hQ:∀c a H d v,Q (.panic c) (a.put d v) H->Q (.panic c) a H) :
  ∀(plan:PV) (fuel:Nat) (listed:Array Bool) (a:Act) (H:Hp),plan.depth<=fuel->Closed ops listed->Aja ops ts plan listed=true ->
   Azh P main lp ops Q S ts plan a H->anyV P main lp ops Q S ts fuel listed a H
 | .nil,fuel,listed,a,H,_,_,hok,h=>by
  have hr:Region.ready .any ops listed=[]:=by simpa [Aja] using hok
  cases fuel with
  | zero=>exact ⟨hr,h⟩
  | succ n=>exact ⟨fun _=>h,by rw [hr];simp⟩
 | .rest L,fuel,listed,a,H,hl,hcl,hok,h=>by
  have e:L=listed:=by simpa [Aja] using hok
  subst e
  exact h hcl fuel hl
 | .take i p,0,_,_,_,hl,_,_,_=>by simp [PV.depth] at hl
 | .free i p,0,_,_,_,hl,_,_,_=>by simp [PV.depth] at hl
 | .free i p,fuel+1,listed,a,H,hl,hcl,hok,h=>by
  simp only [Aja,Bool.and_eq_true] at hok
  obtain ⟨⟨hf,hr⟩,hok⟩:=hok
  obtain ⟨o,ho,v,hy,h⟩:=h
  have hr':i∈Region.ready .any ops listed:=by simpa using hr
  exact Bvl ho (Region.noSelect_spec hsel) (fun c a H=>hQ c a H _ _) fuel listed a H hcl (Region.free_spec ho hf) hr' hy
   (Ajp hsel hQ p fuel _ _ _ (by simp [PV.depth] at hl;omega) (hcl.set hr') hok h)
 | .one i p,0,_,_,_,hl,_,_,_=>by simp [PV.depth] at hl
 | .two i p j q,0,_,_,_,hl,_,_,_=>by simp [PV.depth] at hl
 | .take i p,fuel+1,listed,a,H,hl,hcl,hok,h=>by
  simp only [Aja,Bool.and_eq_true] at hok
  obtain ⟨⟨⟨hd,hf⟩,hr⟩,hok⟩:=hok
  obtain ⟨hS,o,ho,v,hy,h⟩:=h
  have hr':i∈Region.ready .any ops listed:=by simpa using hr
  refine Bjg ho (Region.noSelect_spec hsel) (fun t ht hlt=>?_) (fun c a H=>hQ c a H _ _) fuel listed a H hcl (Region.free_spec ho hf) hr' hy hS
   (Ajp hsel hQ p fuel _ _ _ (by simp [PV.depth] at hl;omega) (hcl.set hr') hok h)
  have:=List.all_eq_true.1 hd t ht
  simp only [Bool.and_eq_true,bne_iff_ne,ne_eq] at this
  exact (Bq8 this.2).resolve_left this.1
 | .one i p,fuel+1,listed,a,H,hl,hcl,hok,h=>by
  simp only [Aja,Bool.and_eq_true,beq_iff_eq] at hok
  obtain ⟨hr,hok⟩:=hok
  refine ⟨fun h0=>(by rw [hr] at h0;cases h0),fun j hj=>?_⟩
  have hji:j=i:=by rw [hr] at hj;simpa using hj
  subst hji
  exact Axx (fun a' H' h'=>⟨h'.1,Ajp hsel hQ p fuel _ _ _ (by simp [PV.depth] at hl;omega) (hcl.set hj) hok h'.2⟩) h
 | .two i p j q,fuel+1,listed,a,H,hl,hcl,hok,h=>by
  simp only [Aja,Bool.and_eq_true,beq_iff_eq] at hok
  obtain ⟨⟨hr,hok1⟩,hok2⟩:=hok
  refine ⟨fun h0=>(by rw [hr] at h0;cases h0),fun k hk=>?_⟩
  have hkk:k=i∨k=j:=by rw [hr] at hk;simpa using hk
  rcases hkk with rfl | rfl
  ·exact Axx (fun a' H' h'=>⟨h'.1,Ajp hsel hQ p fuel _ _ _ (by simp [PV.depth] at hl;omega) (hcl.set hk) hok1 h'.2⟩) h.1
  ·exact Axx (fun a' H' h'=>⟨h'.1,Ajp hsel hQ q fuel _ _ _ (by simp [PV.depth] at hl;omega) (hcl.set hk) hok2 h'.2⟩) h.2
theorem Bwx {id:Nat} {a:Act} {H:Hp} (S:Hp->Prop) (ts:List Nat) (plan:PV) (hm:P.follows .mixedOrders=true) (hsel:Region.noSelect ops=true) (hlen:plan.depth<=ops.size)
  (hok:Aja ops ts plan (Array.replicate ops.size false)=true)
  (hQ:∀c a H d v,Q (.panic c) (a.put d v) H->Q (.panic c) a H) (h:Azh P main lp ops Q S ts plan a H):wpX P main lp (.region id ops true) Q a H:=
 Bvb (fun _=>True) hm (Av2 _ _ _ _ (Ajp hsel hQ plan _ _ _ _ hlen .start hok h))
theorem Axm {id:Nat} {ops:Array Oper} {a:Act} {H:Hp} (S:Hp->Prop) (ts:List Nat) (plan:PV) (hm:P.follows .mixedOrders=true) (hsel:Region.noSelect ops=true) (hlen:plan.depth<=ops.size)
  (hok:Aja ops ts plan (Array.replicate ops.size false)=true)
  (h:∀K:Act->Hp->Prop,(∀a' H',Q .normal a' H'->K a' H')->Azh P main lp ops (only K) S ts plan a H) :
  wpX P main lp (.region id ops true) Q a H:=by
 refine Az3 (Q:=only fun a' H'=>Q .normal a' H') (Bwx S ts plan hm hsel hlen hok (fun c a H d v h=>h) (h _ fun _ _ h=>h)) fun e a H q=>?_
 cases e<;>first | exact q | exact q.elim
theorem Bz4 {id:Nat} {ops:Array Oper} {y:Code} {a:Act} {H:Hp} (S:Hp->Prop) (ts:List Nat) (plan:PV) (hm:P.follows .mixedOrders=true) (hsel:Region.noSelect ops=true) (hlen:plan.depth<=ops.size)
  (hok:Aja ops ts plan (Array.replicate ops.size false)=true)
  (h:∀K:Act->Hp->Prop,(∀a' H',wpX P main lp y Q a' H'->K a' H')->Azh P main lp ops (only K) S ts plan a H) :
  wpX P main lp (.seq (.region id ops true) y) Q a H:=by
 refine Axn ?_
 refine Az3 (Q:=only fun a' H'=>wpX P main lp y Q a' H') (Bwx S ts plan hm hsel hlen hok (fun c a H d v h=>h) (h _ fun _ _ h=>h)) fun e a H q=>?_
 cases e<;>first | exact q | exact q.elim
theorem Axd {S:Hp->Prop} {ts:List Nat} {a:Act} {H:Hp} {i:Nat} {ops:List Oper} {o:Oper} {p:PV} {v:Value} (ho:ops[i]?=some o) (hw:Region.wanted o (yielded ops.toArray a.tmps)=true) (hf:fine lp o=true)
  (hS:S H) (h:∀H',S H'->wpS P (execOp a.eval o) H' (YN P main v H') fun _ _=>False) (hk:Azh P main lp ops.toArray Q S ts p (a.put o.dst v) H):Azh P main lp ops.toArray Q S ts (.take i p) a H:=
 ⟨hS,o,by simpa using ho,v,.inl ⟨hw,hf,h⟩,hk⟩
theorem Aqw {S:Hp->Prop} {ts:List Nat} {a:Act} {H:Hp} {i:Nat} {ops:Array Oper} {p:PV} (h:numX P main lp ops i Q (fun a' H'=>(i∈ts∨(S H->S H'))/\Azh P main lp ops Q S ts p a' H') a H):Azh P main lp ops Q S ts (.one i p) a H:=h
theorem Axq {S:Hp->Prop} {ts:List Nat} {a:Act} {H:Hp} {ops:Array Oper} (h:Q .normal a H):Azh P main lp ops Q S ts .nil a H:=h
@[congr] theorem planV_congr {S:Hp->Prop} {ts:List Nat} {ops:Array Oper} {p:PV} {a a':Act} {H H':Hp} (ha:a=a') (hH:H=H'):Azh P main lp ops Q S ts p a H=Azh P main lp ops Q S ts p a' H':=by subst ha hH;rfl
theorem Bqn {S:Hp->Prop} {ts:List Nat} {a:Act} {H:Hp} {i:Nat} {ops:List Oper} {o:Oper} {p:PV} {v:Value} (ho:ops[i]?=some o) (hw:Region.wanted o (yielded ops.toArray a.tmps)=true) (hf:fine lp o=true)
  (h:∀H':Hp,wpS P (execOp a.eval o) H' (YN P main v H') fun _ _=>False) (hk:Azh P main lp ops.toArray Q S ts p (a.put o.dst v) H):Azh P main lp ops.toArray Q S ts (.free i p) a H:=
 ⟨o,by simpa using ho,v,.inl ⟨hw,hf,fun H' _=>h H'⟩,hk⟩
theorem Avb {S:Hp->Prop} {ts:List Nat} {a:Act} {H:Hp} {i j:Nat} {ops:Array Oper} {p q:PV} (h:numX P main lp ops i Q (fun a' H'=>(i∈ts∨(S H->S H'))/\Azh P main lp ops Q S ts p a' H') a H)
 (h':numX P main lp ops j Q (fun a' H'=>(j∈ts∨(S H->S H'))/\Azh P main lp ops Q S ts q a' H') a H):Azh P main lp ops Q S ts (.two i p j q) a H:=⟨h,h'⟩
end
end Go.X
end
section
namespace Go.X
open Go
section
variable {P:Program} {H:Hp}
theorem Av3 {t e:TypeId} {sz:Nat} {z:Value} (hu:P.underlying t=some (.slice e)) (hs:∀w,(sizeOf e).run P w=.ok sz w) (hz:∀w,(zeroValue e).run P w=.ok z w) (hzc:z.cells.size=sz) (h0:0<sz) (h1:sz<=1000)
    (vs:List Value) (hvs:vs.length=sz) (K:Value->Hp->Prop) (E:Value->Hp->Prop) :
    wpS P (Instr.buildSlice t 1 #[(0,.agg vs.toArray)]) H K E=∀b,H b=none->K (.slice (some ⟨b,0,none⟩) 1 1) (H.set b (.cells vs.toArray e (0,0))):=by
  unfold Instr.buildSlice
  have hn1 : ¬ 1 * sz > 2 ^ 24 := by have : (2 : Nat) ^ 24 = 16777216 := by decide
                                     omega
  have hn2:¬1*sz=0:=by omega
  simp only [Aqa,Aqj hu,Aq0 hs,hn1,hn2,if_false,Axe hz,Aqf]
  have hf:Instr.fill (fun i=>some (i*sz,sz)) ((Array.range (1*sz)).map (z.cells[· % z.cells.size]!)) [(0,.agg vs.toArray)]=some vs.toArray:=by
    unfold Instr.fill
    simp only [Nat.zero_mul,Bvu,List.size_toArray,hvs,Nat.zero_add,Array.size_map,Array.size_range,Nat.one_mul,ne_eq,not_true,gt_iff_lt,Nat.lt_irrefl,decide_false,Bool.or_self,Bool.false_eq_true,if_false]
    simp only [Instr.fill]
    congr 1
    rw [<-Array.foldl_toList,Array.toList_zipIdx]
    have hfo:=Bqj 0 vs 0 ((Array.range sz).map (z.cells[· % z.cells.size]!)) (by simp [hvs])
    simp only [Nat.zero_add] at hfo
    rw [hfo]
    apply Array.ext_getElem?
    intro i
    by_cases hi:i<sz
    · rw [Ajt i (by simpa using hi),if_pos ⟨by omega,by omega⟩]
      simp [List.getD,List.getElem?_eq_getElem (show i<vs.length by omega)]
    · rw [Array.getElem?_eq_none (by rw [Azo];simp;omega),Array.getElem?_eq_none (by simp;omega)]
  have hl:(#[(0,Value.agg vs.toArray)]:Array (Nat×Value)).toList=[(0,.agg vs.toArray)]:=rfl
  simp only [hl,hf,newRow,newObj,Aqa,wpS,Aqf]
end
def RowZ (Lx:Hp->Hp->Prop) (H₀ H:Hp) (v:Value) (e:TypeId) (sz n:Nat) (cs:List Value):Prop:=
 Lx H₀ H/\((v=.slice none 0 0/\n=0/\cs=[]) ∨
 ∃(b:Nat) (c:Array Value) (cap:Nat),H₀ b=none/\H b=some (true,.cells c e (0,0))/\v=.slice (some ⟨b,0,none⟩) n cap/\c.size=cap*sz/\n<=cap/\cs.length=n*sz/\∀(i:Nat) (u:Value),cs[i]?=some u->c[i]?=some u)
end Go.X
namespace Go.Proofs.YtaehjjbekjglkaaGreatDoor
open Go Go.X
theorem Bw3 {P:Program} {tt e:TypeId} {sz:Nat} {z:Value} {inf:TypeInfo} (hu:P.underlying tt=some (.slice e)) (hs:∀w,(sizeOf e).run P w=.ok sz w) (hz:∀w,(zeroValue e).run P w=.ok z w) (hzc:z.cells.size=sz)
  (hi:∀w,(typeInfo e).run P w=.ok inf w) (hby:inf.bytes<=1024) (hby0:0<inf.bytes)
  {t:Option Nat} {H₀ H:Hp} {v:Value} {n:Nat} {cs:List Value} (h:RowZ (Lex t) H₀ H v e sz n cs) {g:Nat} {ws:List Value} (hws:ws.length=sz) (hg:H g=none) (hw:∀w∈ws,one w=true) (hn:n<=1000000) (ty:TypeId) (cb:Array Bool) (K:Next->Hp->Prop) (E:Value->Hp->Prop)
  (h':∀v' H',RowZ (Lex t) H₀ H' v' e sz (n+1) (cs++ws)->(∀x u,H x=some u->rowB v≠some x->H' x=some u)->(∀x,rowB v'=some x->rowB v=some x∨H x=none)->K (.value v') H') :
  wpS P (builtin .append #[tt,tt] ty cb #[v,.slice (some ⟨g,0,none⟩) 1 1]) (H.set g (.cells ws.toArray e (0,0))) K E:=by
 obtain ⟨hlex,hrow⟩:=h
 have hcell:∀(j:Nat) (u:Value),ws[j]?=some u->(H.set g (.cells ws.toArray e (0,0))).cell ⟨g,0+j,none⟩=some u:=by
  intro j u hj
  rw [Nat.zero_add,cell_of (b:=g) (p:=true) (c:=ws.toArray) (e:=e) (f:=(0,0)) (by rw [Axp,if_pos rfl])]
  simpa using hj
 rcases hrow with ⟨rfl,rfl,rfl⟩ | ⟨b,c,cap,hb0,hb,rfl,hcs,hcap,hlen,hget⟩
 ·refine Ak6 (P:=P) hu hs hz hzc hi hby hby0 (Aju.nil H e sz) (Hp.le_set hg) (m:=1) (by omega) id hcell hw (by omega) ty cb K E (fun v' H1 H2 hr hl=>?_)
  have hle:H.le H2:=fun x u hx=>hl _ _ (hr.le _ _ hx)
  refine h' v' H2 ⟨hlex.le hle,?_⟩ (fun x u hx _=>hle _ _ hx) ?_
  ·rcases hr with ⟨_,hn0,_⟩ | ⟨b',c',cap',hb',rfl,rfl,hs',hl',hn',hg'⟩
   ·simp at hn0
   ·exact .inr ⟨b',c',cap',hlex.gone hb',hl _ _ (by rw [Axp,if_pos rfl]),rfl,hs',hn',hl',fun i u hi=>hg' i u hi⟩
  ·intro x hx
   rcases hr with ⟨_,hn0,_⟩ | ⟨b',c',cap',hb',rfl,rfl,hs',hl',hn',hg'⟩
   ·simp at hn0
   ·simp only [rowB,Option.some.injEq] at hx
    subst hx
    exact .inr hb'
 ·have hgb:g≠b:=fun e=>by rw [e,hb] at hg;cases hg
  have hD:(fun x=>if x=b then none else H x:Hp) b=none:=by simp
  have hH:H=Hp.set (fun x=>if x=b then none else H x) b (.cells c e (0,0)):=by
   funext x
   unfold Hp.set
   by_cases e:x=b
   ·subst e;simp [hb]
   ·simp [e]
  refine Ak6 (P:=P) hu hs hz hzc hi hby hby0 (H₀:=fun x=>if x=b then none else H x) (H:=H) (n:=n) (cs:=cs) (.inr ⟨b,c,cap,hD,hH,rfl,hcs,hlen,hcap,hget⟩) (Hp.le_set hg) (m:=1) (by omega) (fun _=>hg) hcell hw (by omega) ty cb K E (fun v' H1 H2 hr hl=>?_)
  have hkeep:∀x u,x≠b->H x=some u->H2 x=some u:=fun x u hn hx=>hl _ _ (hr.le _ _ (by simp only [hn,if_false];exact hx))
  rcases hr with ⟨_,hn0,_⟩ | ⟨b',c',cap',hb',rfl,rfl,hs',hl',hn',hg'⟩
  ·simp at hn0
  ·have hb2:H2 b'=some (true,.cells c' e (0,0)):=hl _ _ (by rw [Axp,if_pos rfl])
   have hb'0:H₀ b'=none:=by
    by_cases e:b'=b
    ·rw [e];exact hb0
    ·simp only [e,if_false] at hb';exact hlex.gone hb'
   refine h' _ H2 ⟨fun x u hx=>?_,.inr ⟨b',c',cap',hb'0,hb2,rfl,hs',hn',hl',hg'⟩⟩ (fun x u hx ho=>hkeep x _ (fun e=>ho (by rw [e];rfl)) hx) (fun x hx=>?_)
   ·obtain ⟨u',hu',e'⟩:=hlex x u hx
    exact ⟨u',hkeep x u' (fun e=>by rw [e,hb0] at hx;cases hx) hu',e'⟩
   ·simp only [rowB,Option.some.injEq] at hx
    subst hx
    by_cases e:b'=b
    ·exact .inl (by rw [e];rfl)
    ·simp only [e,if_false] at hb';exact .inr hb'
end Go.Proofs.YtaehjjbekjglkaaGreatDoor
end
section
namespace Go.X
open Go
open Go.Conc (G base)
section
variable {P:Program} {main:Md} {Q:Exit->Act->Hp->Prop} {a:Act} {H:Hp}
def Cx7 (q:Option (Bool×Obj)) (l:Nat) (args:Array Value) (H:Hp) (K:Next->Hp->Prop):Prop:=match q with
 | some (_,.loop r)=>args.size=r.params.size/\K (.round l r.fn ((r.params.zip args).foldl (fun tmps (x:Tmp×Value)=>tmps.setIfInBounds x.1 x.2) r.tmps) r.assign r.body) H
 | _=>False
theorem Cq2 {p:Bool} {r:Loop} {l:Nat} {args:Array Value} {K:Next->Hp->Prop}:Cx7 (some (p,.loop r)) l args H K=(args.size=r.params.size/\K (.round l r.fn ((r.params.zip args).foldl (fun tmps (x:Tmp×Value)=>tmps.setIfInBounds x.1 x.2) r.tmps) r.assign r.body) H):=rfl
theorem Cwf {l:Nat} {args:Array Value} {K:Next->Hp->Prop} {E:Value->Hp->Prop} (h:Cx7 (H l) l args H K):wpS P (Instr.yield l args) H K E:=by
 unfold Cx7 at h
 split at h
 ·rename_i p r hl
  unfold Instr.yield Instr.getLoop
  rw [Aqa,Aqa]
  refine ⟨p,_,hl,rfl,rfl,?_⟩
  rw [Akq]
  simp only [Aqf,ne_eq,h.1,not_true,if_false]
  exact h.2
 ·exact h.elim
theorem Byi {l:Nat} {args:Array Value} {K:Next->Hp->Prop} {E:Value->Hp->Prop} (h:Cx7 (H l) l args H K):Bkj P (.func (.yield l) #[] #[]) args H K E:=by
 unfold Bkj
 rw [Aqa]
 simp only [Deferred.ofValue,Aqf,invoke,Array.empty_append]
 exact Cwf h
def rnd (l:Nat) (R:Ending->Hp->Prop):Exit->Act->Hp->Prop
 | .normal,a,H=>a.defers=[]/\∃r,H l=some (true,.loop r)/\R (.returned (.bool true)) (H.set l (.loop { r with state:=.ready,pending:=none }))
 | .exit id,a,H=>a.defers=[]/\∃r,H l=some (true,.loop r)/\R (.returned (.bool false)) (H.set l (.loop { r with state:=.done,pending:=some (.exit id) }))
 | .ret,a,H=>a.defers=[]/\∃r,H l=some (true,.loop r)/\R (.returned (.bool false)) (H.set l (.loop { r with state:=.done,pending:=some .ret }))
 | _,_,_=>False
theorem Bww {l:Nat} {r:Loop} (h:H l=some (true,.loop r)) (jump:Option Code) (K:Value->Hp->Prop) (E:Value->Hp->Prop) (hk:K (.bool jump.isNone) (H.set l (.loop { r with state:=if jump.isNone then .ready else .done,pending:=jump }))) :
  wpS P (Instr.endRound l jump) H K E:=by
 unfold Instr.endRound Instr.getLoop
 rw [Aqa,Aqa]
 refine ⟨true,_,h,rfl,rfl,?_⟩
 rw [Akq]
 simp only [Aqf,Aqa]
 exact ⟨_,h,rfl,rfl,hk⟩
theorem Bje {l:Nat} {r:Loop} (h:H l=some (true,.loop r)) (hr:r.state=.ready) (K:Unit->Hp->Prop) (E:Value->Hp->Prop) (hk:K () (H.set l (.loop { r with state:=.busy }))) :
  wpS P (Instr.beginRound l) H K E:=by
 unfold Instr.beginRound Instr.getLoop
 rw [Aqa,Aqa]
 refine ⟨true,_,h,rfl,rfl,?_⟩
 rw [Akq]
 simp only [Aqf,Aqa]
 refine ⟨_,h,rfl,rfl,?_⟩
 rw [hr]
 exact hk
theorem Aye {b c:Frame} {cs:List Frame} {Stop:Goroutine->Hp->Prop} {l:Nat} {r:Loop} {jump:Option Code} {a:Act} {todo:List Item} (hb:b.kind=.normal) (hl:b.roundOf=some l) (h:H l=some (true,.loop r))
  (hs:∀w,stepG P main (G (fat b a todo) (c::cs)) w=(let (x,es):=(Instr.endRound l jump).runT P w #[]
   GStep.after (seen P b.fn es) <| match x with
   | .ok v w=>doReturn P main (fat b a todo) (c::cs) none v w
   | .halt _ w=>.ended (.stuck "range over a function: no such loop" ((fat b a todo).pos P)) w))
  (hk:WPG P main Stop (G (c.finish (.bool jump.isNone)) cs) (H.set l (.loop { r with state:=if jump.isNone then .ready else .done,pending:=jump }))):WPG P main Stop (G (fat b a todo) (c::cs)) H:=by
 refine WPG.tree (s:=Instr.endRound l jump) (K:=fun v H'=>v=.bool jump.isNone/\H'=H.set l (.loop { r with state:=if jump.isNone then .ready else .done,pending:=jump })) (E:=fun _ _=>False) rfl (Bww h jump _ _ ⟨rfl,rfl⟩)
  (fun g' H'=>g'=G (c.finish (.bool jump.isNone)) cs/\H'=H.set l (.loop { r with state:=if jump.isNone then .ready else .done,pending:=jump })) (fun w w' H' es v hr hm hk'=>?_) (fun _ _ _ _ _ _ _ he=>he.elim) ?_
 ·obtain ⟨rfl,rfl⟩:=hk'
  refine ⟨_,seen P b.fn es,?_,fun e=>mem_seen,rfl,rfl⟩
  rw [hs,hr]
  simp [doReturn,fat,hb,GStep.after,G]
 ·rintro g' H' ⟨rfl,rfl⟩
  exact hk
theorem Cjh {l:Nat} {fn:FuncId} {tmps:Array Value} {asg body:Code} {R:Ending->Hp->Prop}
  (h:wpX P main (some l) asg (thn (fun a H1=>∃r,H1 l=some (true,.loop r)/\r.state=.ready/\wpX P main (some l) body (rnd l R) a (H1.set l (.loop { r with state:=.busy }))) fun _ _ _=>False) { tmps:=tmps,defers:=[] } H) :
  Runs P main (Frame.round l fn tmps asg body .normal) H R:=by
 intro c cs Stop hv hp
 have he:Frame.round l fn tmps asg body .normal=fat { base fn with roundOf:=some l } { tmps:=tmps,defers:=[] } [.code asg,.beginRound,.code body]:=by
  simp [Frame.round,fat,base]
 rw [he]
 refine h { base fn with roundOf:=some l } [.beginRound,.code body] (c::cs) Stop (by simp [base]) rfl fun e a1 H1 q=>?_
 cases e with
 | normal=>
  obtain ⟨r,hl,hr,q⟩:=q
  refine WPG.tree (s:=(do Instr.beginRound l;pure .skip:Sem Next)) (K:=fun v H'=>v=.skip/\H'=H1.set l (.loop { r with state:=.busy })) (E:=fun _ _=>False) rfl (by rw [Aqa];exact Bje hl hr _ _ ⟨rfl,rfl⟩)
   (fun g' H'=>g'=G (fat { base fn with roundOf:=some l } a1 [.code body]) (c::cs)/\H'=H1.set l (.loop { r with state:=.busy })) (fun w w' H' es v hr' hm hk'=>?_) (fun _ _ _ _ _ _ _ he=>he.elim) ?_
  ·obtain ⟨rfl,rfl⟩:=hk'
   refine ⟨_,seen P fn es,?_,fun e=>mem_seen,rfl,rfl⟩
   simp [stepG,stepG.exec,stepG.apply,fat,G,base,hr',GStep.after,Frame.finish,-Sem.runT_eq,-bind_pure_comp]
  ·rintro g' H' ⟨rfl,rfl⟩
   refine q { base fn with roundOf:=some l } [] (c::cs) Stop (by simp [base]) rfl fun e a2 H2 q2=>?_
   cases e with
   | normal=>
    obtain ⟨_,r2,hl2,q2⟩:=q2
    refine Aye (jump:=none) rfl rfl hl2 (fun w=>?_) (hv _ _ q2)
    simp [stepG,stepG.exec,fat,G,base]
    rfl
   | exit id=>
    obtain ⟨_,r2,hl2,q2⟩:=q2
    intro k' hk'
    refine Aye (jump:=some (.exit id)) rfl rfl hl2 (fun w=>?_) (hv _ _ q2)
    simp [exitTo] at hk'
    simp [stepG,stepG.exec,fat,G,base,hk']
    rfl
   | ret=>
    obtain ⟨_,r2,hl2,q2⟩:=q2
    intro k'
    refine Aye (jump:=some .ret) rfl rfl hl2 (fun w=>?_) (hv _ _ q2)
    simp [stepG,stepG.exec,fat,G,base]
    rfl
   | goto l=>exact q2.elim
   | panic ch=>exact q2.elim
   | outgrown=>exact q2.elim
 | exit id=>exact q.elim
 | goto l=>exact q.elim
 | ret=>exact q.elim
 | panic ch=>exact q.elim
 | outgrown=>exact q.elim
def coll (r:Nat):Deferred:={ target:=.collected r,args:=#[] }
def behind (l r:Nat) (a:Act) (Q:Exit->Act->Hp->Prop):Ending->Hp->Prop
 | .returned _,H=>∃q,H l=some (true,.loop q)/\q.state≠.busy/\(match q.pending with
  | none=>Q .normal { a with defers:=coll r::a.defers } (H.set l (.loop { q with state:=.exhausted }))
  | some (.exit id)=>Q (.exit id) { a with defers:=coll r::a.defers } (H.set l (.loop { q with state:=.exhausted }))
  | some .ret=>Q .ret { a with defers:=coll r::a.defers } (H.set l (.loop { q with state:=.exhausted }))
  | _=>False)
 | .panicked ch,H=>Q (.panic ch) { a with defers:=coll r::a.defers } H
 | .outgrown,_=>False
theorem Cqt {l:Nat} {r:Loop} (h:H l=some (true,.loop r)) (hr:r.state≠.busy) (K:Option Code->Hp->Prop) (E:Value->Hp->Prop) (hk:K r.pending (H.set l (.loop { r with state:=.exhausted }))) :
  wpS P (Instr.endLoop l) H K E:=by
 unfold Instr.endLoop Instr.getLoop
 rw [Aqa,Aqa]
 refine ⟨true,_,h,rfl,rfl,?_⟩
 rw [Akq]
 have hb:(r.state==.busy)=false:=by cases hs:r.state<;>first | rfl | exact absurd hs hr
 simp only [Aqf,hb,Bool.false_eq_true,if_false,Aqa]
 exact ⟨_,h,rfl,rfl,hk⟩
theorem Bvc {f:Operand} {params:Array Tmp} {asg body:Code} {g:FuncId} {fi cap:Array Value} (hf:a.eval f=.func (.func g) fi cap)
  (hcall:∀(args:Array Value) (H:Hp) (K:Next->Hp->Prop) (E:Value->Hp->Prop),wpS P (callFunc g args) H K E=K (.enter g args) H)
  (h:∀fn r l,H r=none->(H.set r (.deferred (some []))) l=none->Runs P main (Frame.enter P g (fi++#[.func (.yield l) #[] #[]]++cap) .normal)
   ((H.set r (.deferred (some []))).set l (.loop { state:=.ready,pending:=none,fn:=fn,tmps:=a.tmps,params:=params,assign:=asg,body:=body,defers:=r })) (behind l r a Q)) :
  wpX P main none (.rangeFunc f params asg body) Q a H:=by
 intro b k cs Stop hk hl hc
 refine .step (fun g' H'=>WPG P main Stop g' H') rfl (fun w hw=>?_) fun _ _ h=>h
 have h1:wpS P (Instr.enterLoop b.fn a.tmps params asg body none) H (fun x H'=>∃r l,x=(l,[coll r])/\H r=none/\(H.set r (.deferred (some []))) l=none /\
   H'=(H.set r (.deferred (some []))).set l (.loop { state:=.ready,pending:=none,fn:=b.fn,tmps:=a.tmps,params:=params,assign:=asg,body:=body,defers:=r })) (fun _ _=>False):=by
  unfold Instr.enterLoop
  simp only [Aqa,newObj,wpS,Aqf]
  intro r hr l hl
  exact ⟨r,l,rfl,hr,hl,rfl⟩
 obtain ⟨es,w',H',hm,x,hx,hd⟩:=Akr _ w hw h1
 rcases hd with ⟨x,rfl,r,l,rfl,hr,hlr,rfl⟩ | ⟨v,_,hv⟩
 ·have hx0:(Instr.enterLoop b.fn a.tmps params asg body none).runT P w #[]=(.ok (l,[coll r]) w',es):=by rw [hx #[]];simp
  have h2:wpS P (do let d <- resolve a.eval { callee:=.value f,args:=#[.const (.func (.yield l) #[] #[])],argTypes:=#[] } 0;invoke d.target d.args) ((H.set r (.deferred (some []))).set l (.loop { state:=.ready,pending:=none,fn:=b.fn,tmps:=a.tmps,params:=params,assign:=asg,body:=body,defers:=r }))
    (fun x H'=>x=.enter g (fi++#[.func (.yield l) #[] #[]]++cap)/\H'=(H.set r (.deferred (some []))).set l (.loop { state:=.ready,pending:=none,fn:=b.fn,tmps:=a.tmps,params:=params,assign:=asg,body:=body,defers:=r })) (fun _ _=>False):=by
   rw [Aqa]
   simp only [resolve,hf,Deferred.ofValue,Aqf,invoke,List.map_toArray,List.map_cons,List.map_nil,eval_const]
   rw [hcall]
   exact ⟨rfl,rfl⟩
  obtain ⟨es2,w2,H2,hm2,x2,hx2,hd2⟩:=Akr _ w' hm.sat h2
  rcases hd2 with ⟨x2,rfl,rfl,rfl⟩ | ⟨v,_,hv⟩
  ·have hx20:(do let d <- resolve a.eval { callee:=.value f,args:=#[.const (.func (.yield l) #[] #[])],argTypes:=#[] } 0;invoke d.target d.args:Sem Next).runT P w' #[]=(.ok (.enter g (fi++#[.func (.yield l) #[] #[]]++cap)) w2,es2):=by rw [hx2 #[]];simp
   refine ⟨G (Frame.enter P g (fi++#[.func (.yield l) #[] #[]]++cap) .normal) (fat b { a with defers:=coll r::a.defers } (.inRangeFunc l::k)::cs),w2,seen P b.fn es++(if b.kind==.early then #[] else seen P b.fn es2),((H.set r (.deferred (some []))).set l (.loop { state:=.ready,pending:=none,fn:=b.fn,tmps:=a.tmps,params:=params,assign:=asg,body:=body,defers:=r })),?_,(hm.seen b.fn).trans ?_,?_⟩
   ·have hk':(b.kind==CallKind.early)=false:=by simpa using hk
    have hev:∀fr:Frame,fr.tmps=a.tmps->fr.eval=a.eval:=fun fr h9=>by
     funext x
     cases x<;>simp [Frame.eval,Act.eval,h9]
    simp [stepG,stepG.exec,stepG.apply,fat,G,hl,hx0,hev,hx20,hk',GStep.after,-Sem.runT_eq,-bind_pure_comp]
   ·have hk':(b.kind==CallKind.early)=false:=by simpa using hk
    rw [hk']
    exact hm2.seen b.fn
   ·refine h b.fn r l hr hlr _ cs Stop (fun v H3 hq=>?_) (fun ch H3 hq=>?_)
    ·obtain ⟨q,hq1,hq2,hq3⟩:=hq
     have hfin:(fat b { a with defers:=coll r::a.defers } (.inRangeFunc l::k)).finish v=fat b { a with defers:=coll r::a.defers } (.endRangeFunc l::k):=rfl
     rw [hfin]
     refine WPG.tree (s:=Instr.endLoop l) (K:=fun x H'=>x=q.pending/\H'=H3.set l (.loop { q with state:=.exhausted })) (E:=fun _ _=>False) rfl (Cqt hq1 hq2 _ _ ⟨rfl,rfl⟩)
      (fun g' H'=>g'=G (fat b { a with defers:=coll r::a.defers } ((q.pending.map Item.code).toList++k)) cs/\H'=H3.set l (.loop { q with state:=.exhausted })) (fun w w' H' es v hr' hm hk'=>?_) (fun _ _ _ _ _ _ _ he=>he.elim) ?_
     ·obtain ⟨rfl,rfl⟩:=hk'
      refine ⟨_,seen P b.fn es,?_,fun e=>mem_seen,rfl,rfl⟩
      simp [stepG,stepG.exec,fat,G,hr',GStep.after,-Sem.runT_eq]
     ·rintro g' H' ⟨rfl,rfl⟩
      cases hp:q.pending with
      | none=>
       rw [hp] at hq3
       exact hc _ _ _ hq3
      | some j=>
       rw [hp] at hq3
       cases j with
       | exit id=>exact hc _ _ _ hq3 k rfl
       | ret=>exact hc _ _ _ hq3 k
       | _=>exact hq3.elim
    ·exact hc (.panic ch) _ _ hq _
  ·exact hv.elim
 ·exact hv.elim
theorem Dq2 {r:Nat} {ds:List Deferred} (h:H r=some (true,.deferred (some ds))) (K:List Deferred->Hp->Prop) (E:Value->Hp->Prop) (hk:K ds (H.set r (.deferred none))):wpS P (Instr.takeDeferred r) H K E:=by
 unfold Instr.takeDeferred
 rw [Aqa]
 refine ⟨true,_,h,rfl,rfl,?_⟩
 rw [Akq]
 simp only [Aqa,Aqf]
 exact ⟨_,h,rfl,rfl,hk⟩
theorem Cjx {r:Nat} {R:FrameMode->Hp->Prop} (h:H r=some (true,.deferred (some []))) (hk:R .returning (H.set r (.deferred none))):DefX P main .returning (coll r) H R:=by
 intro c cs Stop hm hR
 refine WPG.tree (s:=Instr.takeDeferred r) (K:=fun x H'=>x=[]/\H'=H.set r (.deferred none)) (E:=fun _ _=>False) rfl (Dq2 h _ _ ⟨rfl,rfl⟩)
  (fun g' H'=>g'=G c cs/\H'=H.set r (.deferred none)) (fun w w' H' es v hr' hm' hk'=>?_) (fun _ _ _ _ _ _ _ he=>he.elim) ?_
 ·obtain ⟨rfl,rfl⟩:=hk'
  refine ⟨_,seen P c.fn es,?_,fun e=>mem_seen,rfl,rfl⟩
  simp [stepG,unwind,G,hm,coll,hr',GStep.after,-Sem.runT_eq]
  cases c;simp_all
 ·rintro g' H' ⟨rfl,rfl⟩
  have:=hR _ _ hk
  rwa [<-hm] at this
theorem Czg {fn:Func} {R:Ending->Hp->Prop} {n:Nat} {e:Nat->Value} {r:Nat} (h:H r=some (true,.deferred (some [])))
  (hk:wpS P (results fn (act n e [coll r]).tmps) (H.set r (.deferred none)) (fun v H'=>R (.returned v) H') fun _ _=>False):Bvs P main fn R .ret (act n e [coll r]) H:=
 Cjx h hk
def Djx (P:Program) (fn:Func) (R:Hp->Prop):Exit->Act->Hp->Prop
 | .normal,a,H | .ret,a,H=>a.defers=[]/\wpS P (results fn a.tmps) H (fun _ H'=>R H') fun _ _=>False
 | _,_,_=>False
end
end Go.X
end
section
namespace Go.X
open Go
open Go.Conc (G base)
section
variable {P:Program} {main:Md} {lp:Option Nat} {Q:Exit->Act->Hp->Prop} {a:Act} {H:Hp}
theorem Bvi {f:FuncId} {fn:Func} {id:Nat} {rest:List Oper} {dst:Option Tmp} {ats:Array TypeId} {ty:TypeId} {pos:String} {af:Array Edge} {y:Code} {args cap:Array Value} {R:FrameMode->Hp->Prop} {m:FrameMode} {v:Value}
  (hf:P.funcs[f]?=some fn) (hb:fn.body=some (.seq (.region id (⟨dst,.call ⟨.builtin .recover,#[],ats⟩,ty,pos,af,none⟩::rest).toArray false) y))
  (hcall:∀(args:Array Value) (H:Hp) (K:Next->Hp->Prop) (E:Value->Hp->Prop),wpS P (callFunc f args) H K E=K (.enter f args) H)
  (hm:m=.returning/\v=.nilIface∨m=.panicking [{ v:=v,recovered:=false }])
  (h:∀K:Act->Hp->Prop,(∀a' H',wpX P main none y (Djx P fn (R .returning)) a' H'->K a' H') ->
   runL P main none (dst::rest.map (·.dst)) (only K) rest (Act.put { tmps:=(args++cap)++Array.replicate (fn.ntmps-(args++cap).size) undef,defers:=[] } dst v) H) :
  DefX P main m { target:=.fn (.func f) cap,args:=args } H R:=by
 intro fr cs Stop hmode hR
 have h2:wpS P (invoke (.fn (.func f) cap) args) H (fun x H'=>x=.enter f (args++cap)/\H'=H) (fun _ _=>False):=by
  simp only [invoke]
  rw [hcall]
  exact ⟨rfl,rfl⟩
 refine WPG.tree (s:=invoke (.fn (.func f) cap) args) rfl h2 (fun g' H'=>g'=G (Frame.enter P f (args++cap) .deferred) (fr::cs)/\H'=H) (fun w w' H' es v hr' hm' hk'=>?_) (fun _ _ _ _ _ _ _ he=>he.elim) ?_
 ·obtain ⟨rfl,rfl⟩:=hk'
  refine ⟨_,seen P fr.fn es,?_,fun e=>mem_seen,rfl,rfl⟩
  rcases hm with ⟨hm,_⟩ | hm
  ·rw [hm] at hmode
   simp [stepG,unwind,callDeferred,G,hmode,hr',GStep.after,-Sem.runT_eq]
   cases fr;simp_all
  ·rw [hm] at hmode
   simp [stepG,unwind,callDeferred,G,hmode,hr',GStep.after,-Sem.runT_eq]
   cases fr;simp_all
 ·rintro g' H' ⟨rfl,rfl⟩
  have he:Frame.enter P f (args++cap) .deferred=fat { base f with kind:=.deferred } { tmps:=(args++cap)++Array.replicate (fn.ntmps-(args++cap).size) undef,defers:=[] } [.code (.seq (.region id (⟨dst,.call ⟨.builtin .recover,#[],ats⟩,ty,pos,af,none⟩::rest).toArray false) y)]:=by
   simp [Frame.enter,fat,hf,hb,base];rfl
  rw [he]
  generalize ({ tmps:=(args++cap)++Array.replicate (fn.ntmps-(args++cap).size) undef,defers:=[] }:Act)=a0 at h ⊢
  clear he h2
  generalize ho:(⟨dst,.call ⟨.builtin .recover,#[],ats⟩,ty,pos,af,none⟩:Oper)=o at *
  have hrun:=h _ (fun _ _ h=>h)
  have hX:runX P main none (o::rest).toArray (only fun a' H'=>wpX P main none y (Djx P fn (R .returning)) a' H') (List.range' 1 rest.length) (a0.put dst v) H':=by
   refine Awt (ops:=(o::rest).toArray) rest 1 _ _ (by simp) ?_
   have:(o::rest).toArray.toList.map (·.dst)=dst::rest.map (·.dst):=by simp [<-ho]
   rw [this]
   exact hrun
  clear hrun h
  have key:∀fr':Frame,(fr'=fr/\fr.mode=.returning∨fr'={ fr with mode:=.panicking [{ v:=v,recovered:=true }] }) ->
    WPG P main Stop (G (fat { base f with kind:=.deferred } (a0.put dst v) (.inRegion (o::rest).toArray (List.range' 1 rest.length)::[.code y])) (fr'::cs)) H':=by
   intro fr' hfr
   have hret:∀(a':Act) (H':Hp) (k':List Item),a'.defers=[]->wpS P (results fn a'.tmps) H' (fun _ H'=>R .returning H') (fun _ _=>False)->WPG P main Stop (G { fat { base f with kind:=.deferred } a' k' with mode:=.returning } (fr'::cs)) H':=fun a' H' k' hd hq=>by
    refine WPG.tree rfl hq (fun g' H'=>g'=G { fr with mode:=.returning } cs/\R .returning H') (fun w w' H' es v hr' hm' hk'=>?_) (fun _ _ _ _ _ _ _ he=>he.elim) ?_
    ·refine ⟨_,seen P f es,?_,fun e=>mem_seen,rfl,hk'⟩
     rcases hfr with ⟨rfl,hfm⟩ | rfl
     ·simp [stepG,unwind,doReturn,fat,G,base,hd,hf,hr',hfm,GStep.after,-Sem.runT_eq]
      cases fr';simp_all
     ·simp [stepG,unwind,doReturn,fat,G,base,hd,hf,hr',GStep.after,-Sem.runT_eq]
    ·rintro g' H' ⟨rfl,hq⟩
     exact hR _ _ hq
   refine Avd hX { base f with kind:=.deferred } [.code y] (fr'::cs) Stop (by simp [base]) rfl fun e a' H' q=>?_
   cases e with
   | normal=>
    refine q { base f with kind:=.deferred } [] (fr'::cs) Stop (by simp [base]) rfl fun e a' H' q=>?_
    cases e with
    | normal=>exact .ctl (g':=G { fat { base f with kind:=.deferred } a' [] with mode:=.returning } (fr'::cs)) rfl (fun w=>by simp [G,stepG,stepG.exec,fat,base];rfl) (hret a' H' _ q.1 q.2)
    | ret=>exact fun k'=>.ctl (g':=G { fat { base f with kind:=.deferred } a' (.code .ret::k') with mode:=.returning } (fr'::cs)) rfl (fun w=>by simp [G,stepG,stepG.exec,fat,base];rfl) (hret a' H' _ q.1 q.2)
    | panic ch=>exact q.elim
    | exit id=>exact q.elim
    | goto l=>exact q.elim
    | outgrown=>exact q.elim
   | ret=>exact q.elim
   | panic ch=>exact q.elim
   | exit id=>exact q.elim
   | goto l=>exact q.elim
   | outgrown=>exact q.elim
  refine .ctl (g':=G (fat { base f with kind:=.deferred } a0 (.code (.region id (o::rest).toArray false)::.code y::[])) (fr::cs)) rfl (fun w=>by simp [G,stepG,stepG.exec,fat]) ?_
  refine .ctl (g':=G (fat { base f with kind:=.deferred } a0 (.inRegion (o::rest).toArray (List.range (o::rest).toArray.size)::.code y::[])) (fr::cs)) rfl (fun w=>by simp [G,stepG,stepG.exec,fat]) ?_
  have hrange:List.range (o::rest).toArray.size=0::List.range' 1 rest.length:=by
   rw [List.range_eq_range']
   simp [List.range'_succ]
  rw [hrange]
  have ho0:(o::rest).toArray[0]?=some o:=by simp
  have hwant:Region.wanted o (yielded (o::rest).toArray a0.tmps)=true:=by rw [<-ho];rfl
  have hex:∀ρ,execOp ρ o=pure .recover:=fun ρ=>by rw [<-ho];rfl
  have hfin:∀u,(fat { base f with kind:=.deferred } a0 (.inRegion (o::rest).toArray (0::List.range' 1 rest.length)::[.code y])).finish u=fat { base f with kind:=.deferred } (a0.put dst u) (.inRegion (o::rest).toArray (List.range' 1 rest.length)::[.code y]):=fun u=>by
   rw [Ax5,ho0,<-ho];rfl
  have hdr:(default:Frame).roundOf=none:=rfl
  rcases hm with ⟨hm,hv⟩ | hm
  ·rw [hm] at hmode
   refine .step (fun g' H''=>g'=G (fat { base f with kind:=.deferred } (a0.put dst v) (.inRegion (o::rest).toArray (List.range' 1 rest.length)::[.code y])) (fr::cs)/\H''=H') rfl (fun w hw=>⟨_,w,seen P f #[],H',?_,(Moves.refl hw).seen f,rfl,rfl⟩) ?_
   ·rw [stepG_op ho0 hwant (.inl rfl),hex,hv,<-hfin]
    simp [stepG.apply,G,fat,base,tryRecover,hmode,hdr,GStep.after]
   ·rintro _ _ ⟨rfl,rfl⟩
    exact key fr (.inl ⟨rfl,hmode⟩)
  ·rw [hm] at hmode
   refine .step (fun g' H''=>g'=G (fat { base f with kind:=.deferred } (a0.put dst v) (.inRegion (o::rest).toArray (List.range' 1 rest.length)::[.code y])) ({ fr with mode:=.panicking [{ v:=v,recovered:=true }] }::cs)/\H''=H') rfl (fun w hw=>⟨_,w,seen P f #[],H',?_,(Moves.refl hw).seen f,rfl,rfl⟩) ?_
   ·rw [stepG_op ho0 hwant (.inl rfl),hex,<-hfin]
    simp [stepG.apply,G,fat,base,tryRecover,hmode,hdr,GStep.after]
   ·rintro _ _ ⟨rfl,rfl⟩
    exact key _ (.inr rfl)
end
end Go.X
end
section
namespace Go.X
open Go
theorem Aj5:Value.nilFunc.cells=#[.nilFunc]:=rfl
theorem cells_func (f:Fn) (a b:Array Value):(Value.func f a b).cells=#[.func f a b]:=rfl
def Ajn (P:Program) (main:Md) (v:Value) (args:Array Value) (H:Hp) (R:Ending->Hp->Prop):Prop:=
 ∀(K:Next->Hp->Prop) (E:Value->Hp->Prop),(∀f ar H',Runs P main (Frame.enter P f ar .normal) H' R->K (.enter f ar) H') ->
  (∀l f tmps ar body H',Runs P main (Frame.round l f tmps ar body .normal) H' R->K (.round l f tmps ar body) H')->Bkj P v args H K E
theorem Ajn.mono {P:Program} {main:Md} {v:Value} {args:Array Value} {H:Hp} {R R':Ending->Hp->Prop} (h:Ajn P main v args H R) (hr:∀e H',R e H'->R' e H'):Ajn P main v args H R':=
 fun K E h1 h2=>h K E (fun f ar H' x=>h1 f ar H' (x.mono hr)) fun l f tmps ar body H' x=>h2 l f tmps ar body H' (x.mono hr)
theorem Ajn.use {P:Program} {main:Md} {lp:Option Nat} {v:Value} {args:Array Value} {H:Hp} {R:Ending->Hp->Prop} {o:Oper} {a:Act} {next:Act->Hp->Prop} {Q:Exit->Act->Hp->Prop} {E:Value->Hp->Prop}
  (h:Ajn P main v args H R) (hk:∀e H',R e H'->Dql next Q o.dst a e H'):Bkj P v args H (Awe P main lp o a next Q) E:=by
 refine h _ _ (fun f ar H' hr=>?_) (fun l f tmps ar body H' hr=>?_)
 ·rw [Ajw]
  exact hr.mono hk
 ·have hx:Awe P main lp o a next Q (.round l f tmps ar body) H'=Runs P main (Frame.round l f tmps ar body .normal) H' (Dql next Q o.dst a):=by
   unfold Awe
   congr 1
  rw [hx]
  exact hr.mono hk
def Bvy (P:Program) (v:Value) (args:Array Value) (H:Hp) (K:Next->Hp->Prop) (E:Value->Hp->Prop):Prop:=wpS P (Deferred.ofValue v args) H (fun x H'=>K (.defer x) H') E
theorem Ckq {P:Program} {H:Hp} (a:Act) (d:Option Tmp) (ty:TypeId) (pos:String) (af:Array Edge) (g:Option (Nat×Bool)) (K:Next->Hp->Prop) (E:Value->Hp->Prop) {t:Tmp} {args:Array Operand} {ats:Array TypeId} :
 wpS P (execOp a.eval ⟨d,.defer ⟨.value (.tmp t),args,ats⟩,ty,pos,af,g⟩) H K E=Bvy P (a.eval (.tmp t)) (args.map a.eval) H K E:=Cxh _ _ _ _ _ _ _ _ _
theorem Byo {P:Program} {H:Hp} (f:FuncId) (cap args:Array Value) (K:Next->Hp->Prop) (E:Value->Hp->Prop):Bvy P (.func (.func f) #[] cap) args H K E=K (.defer { target:=.fn (.func f) cap,args:=args }) H:=by
 simp [Bvy,Deferred.ofValue,Aqf]
@[congr] theorem deferK_congr {P:Program} {c c':Value} {args args':Array Value} {K:Next->Hp->Prop} {E:Value->Hp->Prop} {H H':Hp} (hc:c=c') (ha:args=args') (hH:H=H'):Bvy P c args H K E=Bvy P c' args' H' K E:=by subst hc ha hH;rfl
theorem Bq7 {P:Program} {main:Md} {o:Oper} {n:Nat} {e:Nat->Value} {ds:List Deferred} {H:Hp} {K:Act->Hp->Prop} {Q:Exit->Act->Hp->Prop} (d:Deferred):Awe P main none o (act n e ds) K Q (.defer d) H=K ((act n e (d::ds)).put o.dst undef) H:=by
 simp [Awe];rfl
structure Cjw (P:Program) (main:Md) (y:Value) (S:Nat->Prop) (arg:Hp->Value->List Int->Prop) (A:List Int->Prop) (T:Bool->List (List Int)->Hp->Prop):Prop where
 keep:∀t L H H',T t L H->(∀b x,S b->H b=some x->H' b=some x)->T t L H'
 ex:∀t L H b,T t L H->S b->H b≠none
 call:∀L H v l,T true L H->arg H v l->A l->Ajn P main y #[v] H fun e H'=>∃t,e=.returned (.bool t)/\T t (L++[l]) H'/\∀b x,¬S b->H b=some x->H' b=some x
end Go.X
namespace Go.Proofs.YtaehjjbekjglkaaGreatDoor
open Go Go.X
end Go.Proofs.YtaehjjbekjglkaaGreatDoor
end
section
namespace Go.Proofs.YtaehjjbekjglkaaGreatDoor
open Go Go.X
theorem Bj6 {P:Program} {main:Md} {lp:Option Nat} {c:Code} {Q:Exit->Act->Hp->Prop} {n:Nat} {e:Nat->Value} {ds:List Deferred} {H:Hp} (p:(Nat->Value)->Prop) (hp:p e) (h:∀e,p e->wpX P main lp c Q (act n e ds) H):wpX P main lp c Q (act n e ds) H:=h e hp
theorem Cju {P:Program} {main:Md} {Q:Exit->Act->Hp->Prop} {n:Nat} {e:Nat->Value} {ds:List Deferred} {H:Hp} {f:Operand} {t:Nat} {asg body:Code} {g:FuncId} {fi cap:Array Value} (hf:(act n e ds).eval f=.func (.func g) fi cap) (ht:t<n)
  (hcall:∀(args:Array Value) (H:Hp) (K:Next->Hp->Prop) (E:Value->Hp->Prop),wpS P (callFunc g args) H K E=K (.enter g args) H)
  (h:∀r l lo,H r=none->(H.set r (.deferred (some []))) l=none->lo.state=.ready->lo.pending=none ->
   (∀H v R,H l=some (true,.loop lo)->wpX P main (some l) asg (thn (fun a H1=>H1 l=some (true,.loop lo)/\wpX P main (some l) body (rnd l R) a (H1.set l (.loop { lo with state:=.busy }))) fun _ _ _=>False) (act n (upd e t v) []) H->Ajn P main (.func (.yield l) #[] #[]) #[v] H R) ->
   Runs P main (Frame.enter P g (fi++#[.func (.yield l) #[] #[]]++cap) .normal) ((H.set r (.deferred (some []))).set l (.loop lo)) (behind l r (act n e ds) Q)) :
  wpX P main none (.rangeFunc f #[t] asg body) Q (act n e ds) H:=by
 refine Bvc hf hcall fun fn r l hr hl=>?_
 refine h r l _ hr hl rfl rfl fun H' v R hl' hw=>?_
 intro K E hK1 hK2
 refine Byi ?_
 rw [hl',Cq2]
 refine ⟨rfl,hK2 _ _ _ _ _ _ (Cjh ?_)⟩
 have he:(((#[t]:Array Tmp).zip #[v]).foldl (fun tmps (x:Tmp×Value)=>tmps.setIfInBounds x.1 x.2) (act n e ds).tmps)=(act n (upd e t v) []).tmps:=by
  have:=congrArg Act.tmps (Aq3 (n:=n) (e:=e) (ds:=ds) (v:=v) ht)
  simpa [Act.put,act] using this
 have he2:({ tmps:=((#[t]:Array Tmp).zip #[v]).foldl (fun tmps (x:Tmp×Value)=>tmps.setIfInBounds x.1 x.2) (act n e ds).tmps,defers:=[] }:Act)=act n (upd e t v) []:=by
  rw [he];rfl
 rw [he2]
 refine Az3 hw fun e' a' H'' q=>?_
 cases e' with
 | normal=>exact ⟨_,q.1,rfl,q.2⟩
 | _=>exact q
theorem Bw6 {n:Nat} {e:Nat->Value} {ds:List Deferred} {l r:Nat} {Q:Exit->Act->Hp->Prop} {v:Value} {H:Hp} {q:Loop} (h:H l=some (true,.loop q)) (h1:q.state=.ready) (h2:q.pending=none)
  (hk:Q .normal (act n e (coll r::ds)) (H.set l (.loop { q with state:=.exhausted }))):behind l r (act n e ds) Q (.returned v) H:=by
 refine ⟨q,h,by rw [h1];simp,?_⟩
 cases q
 simp only [] at h1 h2
 subst h1 h2
 exact hk
end Go.Proofs.YtaehjjbekjglkaaGreatDoor
end
section
namespace Go.Proofs.YtaehjjbekjglkaaGreatDoor
open Go Go.X Go.Proofs.Tryz
def Bqe:=aN @Dv5 (aN @Dyp @Dw2)
theorem SlI.get {H:Hp} {a:Option Addr} {n cap:Nat} {xs:List Int} (h:SlI H (.slice a n cap) xs) {i:Nat} {x:Int} (hx:xs[i]?=some x):∃(b o:Nat) (p:Bool) (c:Array Value) (fr:Nat×Nat),a=some ⟨b,o,none⟩/\H b=some (p,.cells c 3 fr)/\c[o+i]?=some (.int .i64 x):=by
 obtain ⟨a',cap',he,_,hg⟩:=h
 cases he
 exact hg i x hx
theorem Byx (m:Md) (H:Hp) (v w:Value) (xs ys:List Int) (hv:RdI H v xs) (hw:RdI H w ys) (hx:xs.length<=1000000) (hy:ys.length<=1000000) :
  FnX Tryz.prog m 22 #[v,w] H fun e H'=>e=.returned (.bool (decide (xs=ys)))/\H'=H:=by
 have hv0:=hv
 have hw0:=hw
 obtain ⟨va,vc,rfl,hvc,_⟩:=id hv
 obtain ⟨wa,wc,rfl,hwc,_⟩:=id hw
 refine Aqn func22 rfl ntmps22 (by simp) ?_
 by_cases hl:xs.length=ys.length
 ·have hll:=hl
  replace hl:xs.length<=ys.length/\ys.length<=xs.length:=by omega
  clear hll
  (refine @unH _ (zA Bqe ?_);(try clear hK K);intro K hK hc)
  refine Axg (fun w a' H'=>∃e j,w=xs.length-j/\j<=xs.length/\a'=act 26 e []/\e 0=.slice va xs.length vc/\e 1=.slice wa ys.length wc/\e 5=.int .i64 (j:Nat)/\H'=H/\(∀i,i<j->xs[i]?=ys[i]?)) (n:=xs.length) ?_ ?_
  ·exact ⟨_,0,by omega,by omega,rfl,rfl,rfl,rfl,by trivial,fun i h=>by omega⟩
  ·rintro w' a' H' ⟨e,j,rfl,hj,rfl,e0,e1,e5,hH,hd⟩
   rw [hH];clear hH H'
   by_cases hlt:j<xs.length
   ·obtain ⟨b,o,p,c,_,fr,hva,hb,hcx⟩:=RdI.get hv0 (List.getElem?_eq_getElem hlt)
    have hlt2:j<ys.length:=by omega
    obtain ⟨b2,o2,p2,c2,_,fr2,hwa,hb2,hcy⟩:=RdI.get hw0 (List.getElem?_eq_getElem hlt2)
    have hxj:=List.getElem?_eq_getElem hlt
    have hyj:=List.getElem?_eq_getElem hlt2
    generalize xs[j]=x at *
    generalize ys[j]=y at *
    subst hva hwa
    have hcx':c[o+(j:Int).toNat*1]?=some (.int .i64 x):=by simpa using hcx
    have hcy':c2[o2+(j:Int).toNat*1]?=some (.int .i64 y):=by simpa using hcy
    clear hv hw hv0 hw0
    by_cases hxy:x=y
    ·replace hxy:x<=y/\y<=x:=by omega
     have hd2:∀i,i<j+1->xs[i]?=ys[i]?:=fun i hi=>by
      by_cases he:i=j
      ·rw [he,hxj,hyj];congr 1;omega
      ·exact hd i (by omega)
     clear hd hxj hyj
     (refine @unH _ (zA Bqe ?_);(try clear hK K);intro K hK hc)
     (refine Aka 9 [(true,0),(true,1),(true,2),(true,3),(true,4),(true,5),(true,6),(true,7),(true,8)] (by kernel_rfl) (by kernel_rfl) (by simp) (by kernel_rfl) ?_;intro K hK;(iterate 9 (refine @unH _ ?_;refine z3 Bqe ?_));refine Aky (hK _ _ ?_);clear hK K;(try refine @unH _ (zQ ?_)))
     (refine @unH _ (zA Bqe ?_);(try clear hK K);intro K hK hc)
     exact ⟨_,by omega,_,j+1,rfl,by omega,rfl,e0,e1,rfl,by trivial,hd2⟩
    ·have hne:xs≠ys:=fun e=>by rw [e,hyj] at hxj;exact hxy (Option.some.inj hxj).symm
     clear hd hxj hyj
     (refine @unH _ (zA Bqe ?_);(try clear hK K);intro K hK hc)
     (refine Aka 9 [(true,0),(true,1),(true,2),(true,3),(true,4),(true,5),(true,6),(true,7),(true,8)] (by kernel_rfl) (by kernel_rfl) (by simp) (by kernel_rfl) ?_;intro K hK;(iterate 9 (refine @unH _ ?_;refine z3 Bqe ?_));refine Aky (hK _ _ ?_);clear hK K;(try refine @unH _ (zQ ?_)))
     (refine @unH _ (zA Bqe ?_);(try clear hK K);intro K hK hc)
     (refine @unH _ ?_;refine z9 results22 ?_)
     rw [decide_eq_false hne]
     (refine ⟨?_,?_⟩<;>first | rfl | trivial | assumption)
   ·obtain rfl:j=xs.length:=by omega
    (refine @unH _ (zA Bqe ?_);(try clear hK K);intro K hK hc)
    (refine @unH _ ?_;refine z9 results22 ?_)
    refine ⟨?_,by trivial⟩
    rw [decide_eq_true]
    exact List.ext_getElem? fun i=>by
     by_cases hi:i<xs.length
     ·exact hd i hi
     ·rw [List.getElem?_eq_none (by omega),List.getElem?_eq_none (by omega)]
 ·have hne:xs≠ys:=fun e=>hl (by rw [e])
  (refine @unH _ (zA Bqe ?_);(try clear hK K);intro K hK hc)
  (refine @unH _ ?_;refine z9 results22 ?_)
  rw [decide_eq_false hne]
  (refine ⟨?_,?_⟩<;>first | rfl | trivial | assumption)
theorem Ay2 (m:Md) (H:Hp) (v w:Value) (xs ys:List Int) (hv:SlI H v xs) (hw:SlI H w ys) (hx:xs.length<=1000000) (hy:ys.length<=1000000) :
 FnX Tryz.prog m 22 #[v,w] H fun e H'=>e=.returned (.bool (decide (xs=ys)))/\H'=H:=Byx m H v w xs ys hv.rd hw.rd hx hy
end Go.Proofs.YtaehjjbekjglkaaGreatDoor
end
section
namespace Go.X
open Go
open Go.Conc
section
variable {P:Program} {T:Goroutine->Hp->Prop} {γ:Gh}
end
abbrev Dk7:=Gh->Exit->Act->Hp->Prop
section
variable {P:Program} {γ:Gh} {Q:Dk7} {a:Act} {H:Hp}
theorem Bzr {main:Md} {b:Frame} {k:List Item} {cs:List Frame} {w:World} {ops:Array Oper} {i:Nat} {rest:List Nat} {o:Oper} {d:Deferred} {f:Fn} {c:Array Value} (ho:ops[i]?=some o) (hw:Region.wanted o (yielded ops a.tmps)=true)
  (hk:b.kind≠.early) (hl:b.roundOf=none) (hr:(execOp a.eval o).runT P w #[]=(.ok (.spawn d) w,#[])) (hd:d.target=.fn f c) :
  stepG P main (G (fat b a (.inRegion ops (i::rest)::k)) cs) w=.spawn (G (fat b (a.put o.dst undef) (.inRegion ops rest::k)) cs) (born P d) w #[]:=by
 have hk':(b.kind==CallKind.early)=false:=by simpa using hk
 have hfin:(fat b a (.inRegion ops (i::rest)::k)).finish undef=fat b (a.put o.dst undef) (.inRegion ops rest::k):=by rw [Ax5,ho];rfl
 rw [stepG_op ho hw (.inl hl),<-hfin]
 simp [stepG.apply,hr,G,fat,hk',GStep.after,born,hd,seen_none,-Sem.runT_eq]
theorem Awv {main:Md} {b:Frame} {k:List Item} {cs:List Frame} {w:World} {ops:Array Oper} {i:Nat} {rest:List Nat} {o:Oper} {cases:Array CommCase} {bl:Bool} {shape:CommShape} (ho:ops[i]?=some o) (hw:Region.wanted o (yielded ops a.tmps)=true)
  (hk:b.kind≠.early) (hl:b.roundOf=none) (hr:(execOp a.eval o).runT P w #[]=(.ok (.comm cases bl shape) w,#[])) :
  stepG P main (G (fat b a (.inRegion ops (i::rest)::k)) cs) w=.comm (G (fat b a (.inRegion ops (i::rest)::k)) cs) cases bl shape w #[]:=by
 have hk':(b.kind==CallKind.early)=false:=by simpa using hk
 rw [stepG_op ho hw (.inl hl)]
 simp [stepG.apply,hr,G,fat,hk',GStep.after,seen_none,-Sem.runT_eq]
theorem Ckx {b:Frame} {k:List Item} {cs:List Frame} {ops:Array Oper} {i:Nat} {rest:List Nat} {o:Oper} (ho:ops[i]?=some o) (cases:Array CommCase) (shape:CommShape) (j:Int) (v:Value) (ok:Bool) :
  (G (fat b a (.inRegion ops (i::rest)::k)) cs).finishComm P cases shape j v ok=G (fat b (a.put o.dst (commResult cases shape j v ok)) (.inRegion ops rest::k)) cs:=by
 have hfin:∀v,(fat b a (.inRegion ops (i::rest)::k)).finish v=fat b (a.put o.dst v) (.inRegion ops rest::k):=fun v=>by rw [Ax5,ho];rfl
 simp [Goroutine.finishComm,G,hfin]
end
end Go.X
end
