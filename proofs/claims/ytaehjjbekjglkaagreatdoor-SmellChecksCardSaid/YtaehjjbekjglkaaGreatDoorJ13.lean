/- Texts Work Flow Chan Lend WFork WWork WLaw WLink Keep Ext SmF. -/
import Derived.Test.YtaehjjbekjglkaaGreatDoorJ05
import Derived.Test.YtaehjjbekjglkaaGreatDoorJ07
import Derived.Test.YtaehjjbekjglkaaGreatDoorJ12
import Derived.Conc.DeferLaws
import Derived.Test.YtaehjjbekjglkaaGreatDoorChecked
import Derived.Conc.WgLib
set_option linter.defProp false
set_option linter.unusedSimpArgs false
set_option linter.unusedVariables false
set_option maxRecDepth 100000
set_option maxHeartbeats 2000000
section
namespace Go.X
open Go
open Go.Conc
def Ak1 (P:Program):Frame:={ (default:Frame) with fn:=P.funcs.size,defers:=[],mode:=.panicking [goexitEntry] }
section
variable {P:Program} {md:Md} {Stop:Goroutine->Hp->Prop} {H:Hp} {a:Act}
theorem WPG.born {f:FuncId} {cap args:Array Value} (hcall:∀(args:Array Value) (H:Hp) (K:Next->Hp->Prop) (E:Value->Hp->Prop),wpS P (callFunc f args) H K E=K (.enter f args) H)
  (h:WPG P md Stop (G (Frame.enter P f (args++cap) .deferred) [Ak1 P]) H):WPG P md Stop (Go.Conc.born P { target:=.fn (.func f) cap,args:=args }) H:=by
 have h2:wpS P (invoke (.fn (.func f) cap) args) H (fun x H'=>x=.enter f (args++cap)/\H'=H) (fun _ _=>False):=by
  simp only [invoke]
  rw [hcall]
  exact ⟨rfl,rfl⟩
 refine WPG.tree (s:=invoke (.fn (.func f) cap) args) rfl h2 (fun g' H'=>g'=G (Frame.enter P f (args++cap) .deferred) [Ak1 P]/\H'=H) (fun w w' H' es v hr' hm' hk'=>?_) (fun _ _ _ _ _ _ _ he=>he.elim) ?_
 ·obtain ⟨rfl,rfl⟩:=hk'
  refine ⟨_,seen P P.funcs.size es,?_,fun e=>mem_seen,rfl,rfl⟩
  simp [Go.Conc.born,stepG,unwind,callDeferred,G,hr',GStep.after,Ak1,-Sem.runT_eq]
 ·rintro g' H' ⟨rfl,rfl⟩
  exact h
theorem Aw5 {f:FuncId} {fn:Func} {c:Code} (args:Array Value) (hf:P.funcs[f]?=some fn) (hb:fn.body=some c) :
  Frame.enter P f args .deferred=fat (baseD f) { tmps:=args++Array.replicate (fn.ntmps-args.size) undef,defers:=[] } [.code c]:=by
 simp [Frame.enter,fat,hf,hb,baseD]
 rfl
theorem Cjg {n:Nat} {g g':Goroutine} (hs:g.status=.running) (h:∀w,stepG P false g w=.go g' w #[]) (hq:QuitsIn P n g'):QuitsIn P (n+1) g:=.inr ⟨hs,g',h,hq⟩
theorem WPG.op {b:Frame} {k:List Item} {cs:List Frame} {ops:Array Oper} {i:Nat} {rest:List Nat} {o:Oper} (ho:ops[i]?=some o) (hw:Region.wanted o (yielded ops a.tmps)=true) (hk:b.kind≠.early) (hl:b.roundOf=none)
  (h:opX P md none o a H (fun a' H'=>WPG P md Stop (G (fat b a' (.inRegion ops rest::k)) cs) H') fun _ _ _=>False):WPG P md Stop (G (fat b a (.inRegion ops (i::rest)::k)) cs) H:=by
 have hk':(b.kind==CallKind.early)=false:=by simpa using hk
 have hfin:∀v,(fat b a (.inRegion ops (i::rest)::k)).finish v=fat b (a.put o.dst v) (.inRegion ops rest::k):=fun v=>by rw [Ax5,ho];rfl
 refine .step (fun g' H'=>WPG P md Stop g' H') rfl (fun w hs=>?_) fun _ _ h=>h
 rw [stepG_op ho hw (.inl hl)]
 obtain ⟨es,w',H',hm,r,hr,hd'⟩:=Akr _ w hs h
 have hm':Moves H w (seen P b.fn es) H' w':=hm.seen b.fn
 have hr0:(execOp a.eval o).runT P w #[]=(r,es):=by rw [hr #[]];simp
 rcases hd' with ⟨x,rfl,hx⟩ | ⟨v,rfl,hv⟩
 ·cases x with
  | value v=>
   refine ⟨G (fat b (a.put o.dst v) (.inRegion ops rest::k)) cs,w',seen P b.fn es,H',?_,hm',hx⟩
   rw [<-hfin]
   simp [stepG.apply,hr0,G,fat,hk',GStep.after,-Sem.runT_eq]
  | skip=>
   refine ⟨G (fat b (a.put o.dst undef) (.inRegion ops rest::k)) cs,w',seen P b.fn es,H',?_,hm',hx⟩
   rw [<-hfin]
   simp [stepG.apply,hr0,G,fat,hk',GStep.after,-Sem.runT_eq]
  | defer d=>
   refine ⟨G (fat b ({ a with defers:=d::a.defers }.put o.dst undef) (.inRegion ops rest::k)) cs,w',seen P b.fn es,H',?_,hm',hx.2⟩
   have:({ fat b a (.inRegion ops (i::rest)::k) with defers:=d::a.defers }:Frame).finish undef=fat b ({ a with defers:=d::a.defers }.put o.dst undef) (.inRegion ops rest::k):=by
    have:=Ax5 b { a with defers:=d::a.defers } ops i rest k undef
    rw [ho] at this
    exact this
   rw [<-this]
   simp [stepG.apply,hr0,G,fat,hk',GStep.after,-Sem.runT_eq]
  | enter f args=>
   refine ⟨G (Frame.enter P f args .normal) (fat b a (.inRegion ops (i::rest)::k)::cs),w',seen P b.fn es,H',?_,hm',?_⟩
   ·simp [stepG.apply,hr0,G,fat,hk',GStep.after,-Sem.runT_eq]
   ·refine hx _ _ Stop (fun v H₁ r=>?_) fun ch H₁ r=>?_
    ·rw [hfin];exact r
    ·exact r.elim
  | round l f tmps ars body=>
   refine ⟨G (Frame.round l f tmps ars body .normal) (fat b a (.inRegion ops (i::rest)::k)::cs),w',seen P b.fn es,H',?_,hm',?_⟩
   ·simp [stepG.apply,hr0,G,fat,hk',GStep.after,-Sem.runT_eq]
   ·refine hx _ _ Stop (fun v H₁ r=>?_) fun ch H₁ r=>?_
    ·rw [hfin];exact r
    ·exact r.elim
  | _=>exact hx.elim
 ·exact hv.elim
end
end Go.X
end
section
namespace Go.X
open Go
open Go.Conc
section
variable {P:Program} {md:Md} {Stop:Goroutine->Hp->Prop} {ops:Array Oper} {s:Nat} {K:Act->Hp->Prop}
def runU (P:Program) (md:Md) (ops:Array Oper) (s:Nat) (K:Act->Hp->Prop):List Nat->Act->Hp->Prop
 | [],_,_=>False
 | i::rest,a,H=>if i=s then rest=[]/\K a H else ∃o,ops[i]?=some o/\Region.wanted o (yielded ops a.tmps)=true/\opX P md none o a H (runU P md ops s K rest) fun _ _ _=>False
theorem Bj2 {b:Frame} {k:List Item} {cs:List Frame} (hk:b.kind≠.early) (hl:b.roundOf=none) (hK:∀a H,K a H->WPG P md Stop (G (fat b a (.inRegion ops [s]::k)) cs) H) :
  ∀(todo:List Nat) (a:Act) (H:Hp),runU P md ops s K todo a H->WPG P md Stop (G (fat b a (.inRegion ops todo::k)) cs) H
 | [],_,_,h=>h.elim
 | i::rest,a,H,h=>by
  unfold runU at h
  by_cases hi:i=s
  ·rw [if_pos hi] at h
   obtain ⟨rfl,h⟩:=h
   rw [hi]
   exact hK a H h
  ·rw [if_neg hi] at h
   obtain ⟨o,ho,hw,h⟩:=h
   exact WPG.op ho hw hk hl (Awr h fun a' H' h'=>Bj2 hk hl hK rest a' H' h')
def Dj3 (ops:Array Oper):Bool:=(List.range ops.size).all fun i=>match ops[i]? with
 | some o=>o.after.all fun e=> !Region.binds .any e||decide (e.on<i)
 | none=>true
def dstB (ops:Array Oper):Bool:=(List.range ops.size).all fun i=>(List.range ops.size).all fun j=>i==j||((ops[i]?).bind (·.dst)).isNone||((ops[i]?).bind (·.dst)) != ((ops[j]?).bind (·.dst))
def lastB (ops:Array Oper) (s:Nat):Bool:=(List.range ops.size).all fun j=>j==s||(marked ops (List.range ops.size).reverse ((Array.replicate ops.size false).setIfInBounds s true)).getD j false
def left (ops:Array Oper) (listed:Array Bool):Nat:=(List.range ops.size).countP fun i=> !listed.getD i false
theorem Bqi {p q:Nat->Bool}:∀ {l:List Nat},(∀x∈l,p x=true->q x=true)->∀y∈l,q y=true->p y=false->l.countP p<l.countP q
 | [],_,y,hy,_,_=>by cases hy
 | x::l,h,y,hy,h1,h2=>by
  rw [List.countP_cons,List.countP_cons]
  have hle:l.countP p<=l.countP q:=List.countP_mono_left fun z hz=>h z (by simp [hz])
  rcases List.mem_cons.1 hy with rfl | hy
  ·rw [h1,h2];simp;omega
  ·have:=Bqi (fun z hz=>h z (by simp [hz])) y hy h1 h2
   have hx:=h x (by simp)
   cases hp:p x
   ·simp;omega
   ·simp [hx hp];omega
theorem Dqc {listed:Array Bool} {i:Nat} (hi:i<ops.size) (hs:listed.size=ops.size) (hl:listed.getD i false=false):left ops (listed.setIfInBounds i true)<left ops listed:=by
 unfold left
 refine Bqi (fun x _ hx=>?_) i (List.mem_range.2 hi) (by simp [hl]) (by simp [Array.getD,hs,hi])
 by_cases hxi:x=i
 ·subst hxi;simp [hl]
 ·rwa [getD_set_ne false (Ne.symm hxi)] at hx
theorem Dke {listed:Array Bool} (h:Region.ready .any ops listed=[]):∀fuel t,Region.linearise.go .any ops fuel t listed []=[]
 | 0,_=>rfl
 | fuel+1,t=>by
  simp only [Region.linearise.go]
  change (match (Region.ready .any ops listed)[t%(Region.ready .any ops listed).length]? with
   | some i=>Region.linearise.go .any ops fuel (t/(Region.ready .any ops listed).length) (listed.setIfInBounds i true) [i]
   | none=>[].reverse)=[]
  rw [h]
  rfl
end
end Go.X
end
section
namespace Go.X
open Go
open Go.Conc
section
variable {P:Program} {main:Md} {lp:Option Nat} {Q:Exit->Act->Hp->Prop} {a:Act} {H:Hp}
theorem Bx5 (a:Act) (d:Option Tmp) (ty:TypeId) (pos:String) (af:Array Edge) (g:Option (Nat×Bool)) (K:Next->Hp->Prop) (E:Value->Hp->Prop) (t:TypeId) (x:Operand) :
 wpS P (execOp a.eval ⟨d,.makeChan t x,ty,pos,af,g⟩) H K E=wpS P (Instr.makeChan t (a.eval x)) H (fun v H'=>K (.value v) H') E:=Aqa _ _ _ _
theorem Cqi {t e:TypeId} (hu:P.underlying t=some (.slice e)) {n:Nat} (hs:∀w,(sizeOf e).run P w=.ok n w) (x:Option Addr) (len cap:Nat) (k k':IntKind) (i j:Int) (h0:0<=i) (h1:i<=j) (h2:j<=cap) (K:Value->Hp->Prop) (E:Value->Hp->Prop) :
  wpS P (Instr.sliceAt t (.slice x len cap) (none:Option Value) (some (.int k i)) (some (.int k' j))) H K E=K (.slice (if j.toNat=0 then x else x.map (·.add 0)) i.toNat j.toNat) H:=by
 unfold Instr.sliceAt Instr.slice Instr.sliceBounds
 simp [-bind_pure_comp,Aqa,Aqj hu,Aqf,Az5 k' j cap _ (by omega) h2,Az5 k i j.toNat _ h0 (by omega),Aq0 hs]
theorem add_zero' (x:Option Addr):x.map (·.add 0)=x:=by
 cases x with
 | none=>rfl
 | some a=>obtain ⟨b,o,s⟩:=a;cases s<;>rfl
theorem Bq3 {t e:TypeId} (hu:P.underlying t=some (.slice e)) {n:Nat} (hs:∀w,(sizeOf e).run P w=.ok n w) (x:Option Addr) (len cap:Nat) (k k':IntKind) (i j:Int) (h0:0<=i) (h1:i<=j) (h2:j<=cap) (K:Value->Hp->Prop) (E:Value->Hp->Prop) :
  wpS P (Instr.sliceAt t (.slice x len cap) (none:Option Value) (some (.int k i)) (some (.int k' j))) H K E=K (.slice x i.toNat j.toNat) H:=by
 rw [Cqi hu hs x len cap k k' i j h0 h1 h2,add_zero']
 simp
theorem Bq5 {t:TypeId} (hs:∀w,(sizeOf t).run P w=.ok 1 w) (b o:Nat) (K:Unit->Hp->Prop) (E:Value->Hp->Prop) (x:Option Nat):wpS P (Instr.storeAt t (.pointer (some ⟨b,o,none⟩)) (.chan x)) H K E=stor H b o (.chan x) (K ()):=Azj hs rfl b o K E
theorem Ck0 {d:Option Tmp} {ty:TypeId} {pos:String} {af:Array Edge} {g:Option (Nat×Bool)} {t:Tmp} {ats:Array TypeId} {f:Fn} {fi cap:Array Value} (h:a.eval (.tmp t)=.func f fi cap) (w:World) :
  (execOp a.eval ⟨d,.go ⟨.value (.tmp t),#[],ats⟩,ty,pos,af,g⟩).runT P w #[]=(.ok (.spawn { target:=.fn f cap,args:=fi }) w,#[]):=by
 simp [execOp,resolve,h,Deferred.ofValue]
theorem Cvt {d:Option Tmp} {ty:TypeId} {pos:String} {af:Array Edge} {g:Option (Nat×Bool)} {x y:Operand} {c:Nat} {v:Value} (hx:a.eval x=.chan (some c)) (hy:a.eval y=v) (w:World) :
  (execOp a.eval ⟨d,.send x y,ty,pos,af,g⟩).runT P w #[]=(.ok (.comm #[scase c v (.tuple #[])] true .send) w,#[]):=by
 simp [execOp,hx,hy,scase]
end
end Go.X
end
section
namespace Go.X
open Go
theorem cells_chan (x:Option Nat):(Value.chan x).cells=#[.chan x]:=rfl
def Hp.leS (H H':Hp):Prop:=∀b p o,H b=some (p,o)->∃p',H' b=some (p',o)/\(p'=true->p=true)
theorem Hp.leS.refl {H:Hp}:H.leS H:=fun _ p _ h=>⟨p,h,id⟩
theorem Hp.leS.trans {H H' H'':Hp} (h:H.leS H') (h':H'.leS H''):H.leS H'':=fun b p o hb=>let ⟨p',h1,h2⟩:=h b p o hb;let ⟨p'',h3,h4⟩:=h' b p' o h1;⟨p'',h3,fun e=>h2 (h4 e)⟩
theorem Hp.leS.set {H H':Hp} {b:Nat} {o:Obj} (h:H.leS H') (hb:H b=none):H.leS (H'.set b o):=fun x p o' hx=>by
 obtain ⟨p',h1,h2⟩:=h x p o' hx
 exact ⟨p',by unfold Hp.set;rw [if_neg (fun e=>by rw [e,hb] at hx;cases hx)];exact h1,h2⟩
def Hp.lend (H:Hp) (eb:Nat):Hp:=fun b=>if b=eb then H b else (H b).map fun q=>(false,q.2)
def Hp.hand (H:Hp) (eb:Nat):Hp:=fun b=>if b=eb then none else (H b).map fun q=>(false,q.2)
theorem Hp.lend_leS {H:Hp} {eb:Nat}:H.leS (H.lend eb):=fun b p o h=>by
 unfold Hp.lend
 by_cases hb:b=eb
 ·rw [if_pos hb];exact ⟨p,h,id⟩
 ·rw [if_neg hb,h];exact ⟨false,rfl,fun e=>by cases e⟩
theorem Hp.hand_some {H:Hp} {eb b:Nat} {p:Bool} {o:Obj} (h:H b=some (p,o)) (hb:b≠eb):H.hand eb b=some (false,o):=by simp [Hp.hand,hb,h]
theorem Hp.hand_lend {H:Hp} {eb:Nat}:∀b p o,H.hand eb b=some (p,o)->p=false/\H.lend eb b=some (false,o):=fun b p o h=>by
 unfold Hp.hand at h
 unfold Hp.lend
 by_cases hb:b=eb
 ·rw [if_pos hb] at h;cases h
 ·rw [if_neg hb] at h ⊢
  cases hq:H b with
  | none=>rw [hq] at h;cases h
  | some q=>rw [hq] at h;cases h;exact ⟨rfl,rfl⟩
theorem Hp.lend_own {H:Hp} {eb:Nat}:∀b p o,H.lend eb b=some (p,o)->∃p',H b=some (p',o)/\(p=true->p'=true):=fun b p o h=>by
 unfold Hp.lend at h
 by_cases hb:b=eb
 ·rw [if_pos hb] at h;exact ⟨p,h,id⟩
 ·rw [if_neg hb] at h
  cases hq:H b with
  | none=>rw [hq] at h;cases h
  | some q=>obtain ⟨p',o'⟩:=q;rw [hq] at h;cases h;exact ⟨p',rfl,fun e=>by cases e⟩
end Go.X
namespace Go.Proofs.YtaehjjbekjglkaaGreatDoor
open Go Go.X
def Bw1 (H H':Hp):Prop:=∀b p c t fr,H b=some (p,.cells c t fr)->∃p',H' b=some (p',.cells c t fr)
theorem SlI.cl {H H':Hp} {w:Value} {xs:List Int} (hw:SlI H w xs) (hl:Bw1 H H'):SlI H' w xs:=by
 obtain ⟨a,cap,h1,h2,h3⟩:=hw
 refine ⟨a,cap,h1,h2,fun i x hx=>?_⟩
 obtain ⟨b,o,p,c,fr,h4,h5,h6⟩:=h3 i x hx
 obtain ⟨p',h7⟩:=hl _ _ _ _ _ h5
 exact ⟨b,o,p',c,fr,h4,h7,h6⟩
theorem Bku {H H':Hp} (h:H.leS H') {b:Nat} (hb:H' b=none):H b=none:=by
 cases hx:H b with
 | none=>rfl
 | some q=>obtain ⟨p,o⟩:=q;obtain ⟨p',h1,_⟩:=h b p o hx;rw [hb] at h1;cases h1
end Go.Proofs.YtaehjjbekjglkaaGreatDoor
end
section
namespace Go.X
open Go
open Go.Conc Go.Conc.Lib
section
variable {P:Program} {T:Goroutine->Hp->Prop} {γ:GhW}
theorem FanW.ctl {g g':Goroutine} {H:Hp} (hs:g.status=.running) (h:∀w,stepG P true g w=.go g' w #[]) (hg:FanW P T γ g' H):FanW P T γ g H:=
 .step (fun x y=>x=g'/\y=H) hs (fun w hw=>⟨g',w,#[],H,h w,.refl hw,rfl,rfl⟩) fun x y e=>by obtain ⟨rfl,rfl⟩:=e;exact hg
def Avz (P:Program) (T:Goroutine->Hp->Prop) (b:Frame) (k:List Item) (cs:List Frame) (γ:GhW):Exit->Act->Hp->Prop
 | .normal,a,H=>FanW P T γ (G (fat b a k) cs) H
 | .exit id,a,H=>∀k',exitTo id k'=exitTo id k->FanW P T γ (G (fat b a (.code (.exit id)::k')) cs) H
 | .goto l,a,H=>∀k',gotoIn l k'=gotoIn l k->FanW P T γ (G (fat b a (.code (.goto l)::k')) cs) H
 | .ret,a,H=>∀k',FanW P T γ (G (fat b a (.code .ret::k')) cs) H
 | .panic ch,a,H=>∀k',FanW P T γ (G { fat b a k' with mode:=.panicking ch } cs) H
 | .outgrown,_,_=>False
theorem Avz.push {b:Frame} {x:Item} {k:List Item} {cs:List Frame} {e:Exit} {a:Act} {H:Hp} (hx:x.plain=true) (he:e≠.normal)
  (h:Avz P T b k cs γ e a H):Avz P T b (x::k) cs γ e a H:=by
 cases e with
 | normal=>exact absurd rfl he
 | exit id=>exact fun k' hk=>h k' (hk.trans (by cases x<;>simp_all [exitTo,Item.plain]))
 | goto l=>exact fun k' hk=>h k' (hk.trans (by cases x<;>simp_all [gotoIn,Item.plain]))
 | ret=>exact h
 | panic ch=>exact h
 | outgrown=>exact h
theorem Avz.after {b:Frame} {k:List Item} {cs:List Frame} {e:Exit} {a:Act} {H:Hp} (h:Avz P T b k cs γ e a H):After P (.own true) (fun g H=>FanW P T γ g H) b k cs e a H:=by
 cases e with
 | normal=>exact .stop h (Hp.le_refl _)
 | exit id=>exact fun k' hk=>.stop (h k' hk) (Hp.le_refl _)
 | goto l=>exact fun k' hk=>.stop (h k' hk) (Hp.le_refl _)
 | ret=>exact fun k'=>.stop (h k') (Hp.le_refl _)
 | panic ch=>exact fun k'=>.stop (h k') (Hp.le_refl _)
 | outgrown=>exact h
end
abbrev Cj0:=GhW->Exit->Act->Hp->Prop
def wpV (P:Program) (c:Code) (Q:Cj0) (γ:GhW) (a:Act) (H:Hp):Prop:=
 ∀(b:Frame) (k:List Item) (cs:List Frame) (T:Goroutine->Hp->Prop),b.kind≠.early->b.roundOf=none ->
  (∀γ' e a' H',Q γ' e a' H'->Avz P T b k cs γ' e a' H')->FanW P T γ (G (fat b a (.code c::k)) cs) H
def opsV (P:Program) (ops:Array Oper) (todo:List Nat) (Q:Cj0) (γ:GhW) (a:Act) (H:Hp):Prop:=
 ∀(b:Frame) (k:List Item) (cs:List Frame) (T:Goroutine->Hp->Prop),b.kind≠.early->b.roundOf=none ->
  (∀γ' e a' H',Q γ' e a' H'->Avz P T b k cs γ' e a' H')->FanW P T γ (G (fat b a (.inRegion ops todo::k)) cs) H
section
variable {P:Program} {γ:GhW} {Q:Cj0} {a:Act} {H:Hp}
theorem Awh {c:Code} (h:wpX P (.own true) none c (Q γ) a H):wpV P c Q γ a H:=fun b k cs T hk hl hc=>
 WPG.walkW (h b k cs (fun g H=>FanW P T γ g H) hk hl fun e a' H' q=>(hc γ e a' H' q).after) fun _ _ h=>h
theorem Dqn {ops:Array Oper} {todo:List Nat} (h:opsX P (.own true) none ops todo (Q γ) a H):opsV P ops todo Q γ a H:=fun b k cs T hk hl hc=>
 WPG.walkW (h b k cs (fun g H=>FanW P T γ g H) hk hl fun e a' H' q=>(hc γ e a' H' q).after) fun _ _ h=>h
theorem Bwz {c:Code} {R:Exit->Act->Hp->Prop} (h:wpV P c (fun γ e a H=>γ=.idle/\R e a H) .idle a H):wpX P (.wg P) none c R a H:=fun b k cs Stop hk hl hc=>by
 refine .phase (fun g H=>WPG P (.wg P) Stop g H) (h b k cs _ hk hl fun γ' e a' H' ⟨hγ,q⟩=>?_) fun _ _ h=>h
 subst hγ
 have:=hc e a' H' q
 cases e with
 | normal=>exact .stop this (Hp.le_refl _)
 | exit id=>exact fun k' hk=>.stop (this k' hk) (Hp.le_refl _)
 | goto l=>exact fun k' hk=>.stop (this k' hk) (Hp.le_refl _)
 | ret=>exact fun k'=>.stop (this k') (Hp.le_refl _)
 | panic ch=>exact fun k'=>.stop (this k') (Hp.le_refl _)
 | outgrown=>exact this
theorem Cjt {c:Code} {n:Nat} {e:Nat->Value} {ds:List Deferred} (p:(Nat->Value)->Prop) (hp:p e) (h:∀e,p e->wpV P c Q γ (act n e ds) H):wpV P c Q γ (act n e ds) H:=h e hp
theorem Ajd {x y:Code} (h:wpV P x (fun γ'=>thn (fun a' H'=>wpV P y Q γ' a' H') (Q γ')) γ a H):wpV P (.seq x y) Q γ a H:=by
 intro b k cs T hk hl hc
 refine .ctl (g':=G (fat b a (.code x::.code y::k)) cs) rfl (fun w=>by simp [G,stepG,stepG.exec,fat]) ?_
 refine h b (.code y::k) cs T hk hl fun γ' e a' H' q=>?_
 cases e with
 | normal=>exact q b k cs T hk hl hc
 | exit id=>exact (hc _ _ _ _ q).push rfl (by simp)
 | goto id=>exact (hc _ _ _ _ q).push rfl (by simp)
 | ret=>exact Avz.push (x:=.code y) (e:=.ret) rfl (by simp) (hc _ _ _ _ q)
 | panic ch=>exact Avz.push (x:=.code y) (e:=.panic ch) rfl (by simp) (hc _ _ _ _ q)
 | outgrown=>exact q.elim
theorem Dq3 {c:Operand} {x y:Code} {t:Bool} (ht:a.eval c=.bool t) (h:wpV P (if t then x else y) Q γ a H):wpV P (.cond c x y) Q γ a H:=by
 intro b k cs T hk hl hc
 refine .ctl (g':=G (fat b a (.code (if t then x else y)::k)) cs) rfl (fun w=>?_) (h b k cs T hk hl hc)
 have he:(fat b a (.code (.cond c x y)::k)).eval c=.bool t:=by rw [Bkp];exact ht
 simp only [fat] at he
 simp [G,stepG,stepG.exec,fat,he]
theorem Cx3 (h:Q γ .normal a H):wpV P .skip Q γ a H:=fun b k cs _ _ _ hc=>
 .ctl (g':=G (fat b a k) cs) rfl (fun w=>by simp [G,stepG,stepG.exec,fat]) (hc _ _ _ _ h)
theorem Cx1 {id:Nat} (h:Q γ (.exit id) a H):wpV P (.exit id) Q γ a H:=fun _ k _ _ _ _ hc=>hc _ _ _ _ h k rfl
theorem Bz1 {id:Nat} {c:Code} (h:wpV P c (fun γ'=>blk id (Q γ')) γ a H):wpV P (.block id c) Q γ a H:=by
 intro b k cs T hk hl hc
 refine .ctl (g':=G (fat b a (.code c::.inBlock id::k)) cs) rfl (fun w=>by simp [G,stepG,stepG.exec,fat]) ?_
 refine h b (.inBlock id::k) cs T hk hl fun γ' e a' H' q=>?_
 cases e with
 | normal=>exact .ctl (g':=G (fat b a' k) cs) rfl (fun w=>by simp [G,stepG,stepG.exec,fat]) (hc _ _ _ _ q)
 | exit id'=>
  by_cases hid:id'=id
  ·simp only [blk,hid,if_true] at q
   subst hid
   intro k' hk'
   have hx:exitTo id' k'=some k:=hk'.trans (by simp [exitTo])
   exact .ctl (g':=G (fat b a' k) cs) rfl (fun w=>by simp [G,stepG,stepG.exec,fat,hx]) (hc _ _ _ _ q)
  ·simp only [blk,hid,if_false] at q
   have hn:(id==id')=false:=by simp;exact fun h=>hid h.symm
   exact fun k' hk'=>hc _ _ _ _ q k' (hk'.trans (by simp [exitTo,hn]))
 | goto l=>exact fun k' hk'=>hc _ _ _ _ q k' (hk'.trans (by simp [gotoIn]))
 | ret=>exact hc _ _ _ _ q
 | panic ch=>exact hc _ _ _ _ q
 | outgrown=>exact q.elim
theorem Cx2 {c:Code} (I:Nat->GhW->Act->Hp->Prop) {n:Nat} (h₀:I n γ a H)
  (round:∀n γ a H,I n γ a H->wpV P c (fun γ'=>thn (fun a' H'=>∃n',n'<n/\I n' γ' a' H') (Q γ')) γ a H):wpV P (.loop c) Q γ a H:=by
 intro b k cs T hk hl hc
 have key:∀n γ a H,I n γ a H->FanW P T γ (G (fat b a (.code c::.inLoop c::k)) cs) H:=by
  intro n
  induction n using Nat.strongRecOn with
  | _ n ih=>
   intro γ a H hI
   refine round n γ a H hI b (.inLoop c::k) cs T hk hl fun γ' e a' H' q=>?_
   cases e with
   | normal=>
    obtain ⟨n',hlt,hI'⟩:=q
    exact .ctl (g':=G (fat b a' (.code c::.inLoop c::k)) cs) rfl (fun w=>by simp [G,stepG,stepG.exec,fat]) (ih n' hlt γ' a' H' hI')
   | exit id=>exact (hc _ _ _ _ q).push rfl (by simp)
   | goto id=>exact (hc _ _ _ _ q).push rfl (by simp)
   | ret=>exact Avz.push (x:=.inLoop c) (e:=.ret) rfl (by simp) (hc _ _ _ _ q)
   | panic ch=>exact Avz.push (x:=.inLoop c) (e:=.panic ch) rfl (by simp) (hc _ _ _ _ q)
   | outgrown=>exact q.elim
 exact .ctl (g':=G (fat b a (.code c::.inLoop c::k)) cs) rfl (fun w=>by simp [G,stepG,stepG.exec,fat]) (key n γ a H h₀)
theorem Avg {id:Nat} {ops:Array Oper} (h:opsV P ops (List.range ops.size) Q γ a H):wpV P (.region id ops false) Q γ a H:=
 fun b k cs T hk hl hc=>.ctl (g':=G (fat b a (.inRegion ops (List.range ops.size)::k)) cs) rfl (fun w=>by simp [G,stepG,stepG.exec,fat]) (h b k cs T hk hl hc)
theorem Bkz {ops:Array Oper} (h:Q γ .normal a H):opsV P ops [] Q γ a H:=fun b k cs _ _ _ hc=>
 .ctl (g':=G (fat b a k) cs) rfl (fun w=>by simp [G,stepG,stepG.exec,fat]) (hc _ _ _ _ h)
theorem Bwc {ops:Array Oper} {i:Nat} {rest:List Nat} {o:Oper} (ho:ops[i]?=some o) (hw:Region.wanted o (yielded ops a.tmps)=true)
  (h:opX P (.own true) none o a H (fun a' H'=>opsV P ops rest Q γ a' H') (Q γ)):opsV P ops (i::rest) Q γ a H:=by
 intro b k cs T hk hl hc
 have hk':(b.kind==CallKind.early)=false:=by simpa using hk
 have hfin:∀v,(fat b a (.inRegion ops (i::rest)::k)).finish v=fat b (a.put o.dst v) (.inRegion ops rest::k):=fun v=>by rw [Ax5,ho];rfl
 refine .step (fun g' H'=>FanW P T γ g' H') rfl (fun w hs=>?_) fun _ _ h=>h
 have hst:=stepG_op (main:=.own true) (P:=P) (b:=b) (k:=k) (cs:=cs) (w:=w) (a:=a) (rest:=rest) ho hw (.inl hl)
 rw [show stepG P true _ w=_ from hst]
 obtain ⟨es,w',H',hm,r,hr,hd'⟩:=Akr _ w hs h
 have hm':Moves H w (seen P b.fn es) H' w':=hm.seen b.fn
 have hr0:(execOp a.eval o).runT P w #[]=(r,es):=by rw [hr #[]];simp
 rcases hd' with ⟨x,rfl,hx⟩ | ⟨v,rfl,hv⟩
 ·cases x with
  | value v=>
   refine ⟨G (fat b (a.put o.dst v) (.inRegion ops rest::k)) cs,w',seen P b.fn es,H',?_,hm',hx b k cs T hk hl hc⟩
   rw [<-hfin]
   simp [stepG.apply,hr0,G,fat,hk',GStep.after,-Sem.runT_eq]
  | skip=>
   refine ⟨G (fat b (a.put o.dst undef) (.inRegion ops rest::k)) cs,w',seen P b.fn es,H',?_,hm',hx b k cs T hk hl hc⟩
   rw [<-hfin]
   simp [stepG.apply,hr0,G,fat,hk',GStep.after,-Sem.runT_eq]
  | defer d=>
   refine ⟨G (fat b ({ a with defers:=d::a.defers }.put o.dst undef) (.inRegion ops rest::k)) cs,w',seen P b.fn es,H',?_,hm',hx.2 b k cs T hk hl hc⟩
   have:({ fat b a (.inRegion ops (i::rest)::k) with defers:=d::a.defers }:Frame).finish undef=fat b ({ a with defers:=d::a.defers }.put o.dst undef) (.inRegion ops rest::k):=by
    have:=Ax5 b { a with defers:=d::a.defers } ops i rest k undef
    rw [ho] at this
    exact this
   rw [<-this]
   simp [stepG.apply,hr0,G,fat,hk',GStep.after,-Sem.runT_eq]
  | enter f args=>
   refine ⟨G (Frame.enter P f args .normal) (fat b a (.inRegion ops (i::rest)::k)::cs),w',seen P b.fn es,H',?_,hm',?_⟩
   ·simp [stepG.apply,hr0,G,fat,hk',GStep.after,-Sem.runT_eq]
   ·refine WPG.walkW (hx _ _ (fun g H=>FanW P T γ g H) (fun v H₁ r=>?_) fun ch H₁ r=>?_) fun _ _ h=>h
    ·rw [hfin];exact .stop (r b k cs T hk hl hc) (Hp.le_refl _)
    ·exact .stop ((hc _ (.panic ch) a H₁ r) _) (Hp.le_refl _)
  | round l f tmps ars body=>
   refine ⟨G (Frame.round l f tmps ars body .normal) (fat b a (.inRegion ops (i::rest)::k)::cs),w',seen P b.fn es,H',?_,hm',?_⟩
   ·simp [stepG.apply,hr0,G,fat,hk',GStep.after,-Sem.runT_eq]
   ·refine WPG.walkW (hx _ _ (fun g H=>FanW P T γ g H) (fun v H₁ r=>?_) fun ch H₁ r=>?_) fun _ _ h=>h
    ·rw [hfin];exact .stop (r b k cs T hk hl hc) (Hp.le_refl _)
    ·exact .stop ((hc _ (.panic ch) a H₁ r) _) (Hp.le_refl _)
  | _=>exact hx.elim
 ·refine ⟨G { fat b a (.inRegion ops (i::rest)::k) with mode:=.panicking [{ v,recovered:=false }] } cs,w',seen P b.fn es,H',?_,hm',hc _ (.panic _) a H' hv _⟩
  simp [stepG.apply,hr0,G,fat,hk',GStep.after,Frame.raise,-Sem.runT_eq]
theorem Djl {c:Code} {ch wg:Nat} {ty:TypeId} (D:Nat->Prop) (hc:H ch=some (true,.chan 0 #[] false 0 0 false)) (hb:H wg=some (true,wgO ty 0 0)) (hD:∀x,D x->∃o,H x=some (true,o)) (h:wpV P c Q (.busy ch wg ty 0 0 [] false D) a ((H.del ch).del wg)):wpV P c Q .idle a H:=
 fun b k cs T hk hl hq=>.opn hc hb hD (h b k cs T hk hl hq)
theorem Dkk (c:Nat) (z v:Value) (ok:Bool):commResult #[rcase c z] (.recv true) 0 v ok=.tuple #[v,.bool ok]:=by
 simp [commResult,rcase]
theorem Djd {ops:Array Oper} {i:Nat} {rest:List Nat} {o:Oper} {d:Deferred} {f:Fn} {cap':Array Value} {c wg n:Nat} {ty:TypeId} {D:Nat->Prop} {L:List Value} {v:Value} {H' Hc:Hp} (ho:ops[i]?=some o) (hw:Region.wanted o (yielded ops a.tmps)=true)
  (hr:∀w,Sat H w->(execOp a.eval o).runT P w #[]=(.ok (.spawn d) w,#[])) (hd:d.target=.fn f cap')
  (hc:∀b p o,Hc b=some (p,o)->p=false/\H' b=some (false,o)) (hH:∀b p o,H' b=some (p,o)->∃p',H b=some (p',o)/\(p=true->p'=true))
  (hwk:WPG P (.own false) (Bxv P c wg ty v) (born P d) Hc) (hn:opsV P ops rest Q (.busy c wg ty n 0 (v::L) false D) (a.put o.dst undef) H'):opsV P ops (i::rest) Q (.busy c wg ty n 0 L false D) a H:=
 fun b k cs T hk hl' hq=>.spawn rfl (fun w hs=>Bzr (main:=.own true) ho hw hk hl' (hr w hs) hd) hc hH hwk.othW (hn b k cs T hk hl' hq)
theorem Cvi {ops:Array Oper} {i:Nat} {rest:List Nat} {o:Oper} {d:Deferred} {f:Fn} {cap':Array Value} {c wg n:Nat} {ty:TypeId} {D:Nat->Prop} {L:List Value} {H' Hc:Hp} (ho:ops[i]?=some o) (hw:Region.wanted o (yielded ops a.tmps)=true) (hl:n=L.length)
  (hr:∀w,Sat H w->(execOp a.eval o).runT P w #[]=(.ok (.spawn d) w,#[])) (hd:d.target=.fn f cap')
  (hc:∀b p o,Hc b=some (p,o)->p=false/\H' b=some (false,o)) (hH:∀b p o,H' b=some (p,o)->∃p',H b=some (p',o)/\(p=true->p'=true))
  (hwk:∃ρ,OthW P c wg ty ρ (born P d) (.wait Hc 0 n)) (hn:opsV P ops rest Q (.busy c wg ty n 0 L true D) (a.put o.dst undef) H'):opsV P ops (i::rest) Q (.busy c wg ty n 0 L false D) a H:=
 fun b k cs T hk hl' hq=>.hire rfl hl (fun w hs=>Bzr (main:=.own true) ho hw hk hl' (hr w hs) hd) hc hH hwk (hn b k cs T hk hl' hq)
theorem Cvj {ops:Array Oper} {i:Nat} {rest:List Nat} {o:Oper} {c wg n:Nat} {ty:TypeId} {D:Nat->Prop} {L:List Value} {z:Value} (ho:ops[i]?=some o) (hw:Region.wanted o (yielded ops a.tmps)=true) (hL:L≠[])
  (hr:∀w,Sat H w->(execOp a.eval o).runT P w #[]=(.ok (.comm #[rcase c z] true (.recv true)) w,#[]))
  (hn:∀v L',L.Perm (v::L')->opsV P ops rest Q (.busy c wg ty n 0 L' true D) (a.put o.dst (.tuple #[v,.bool true])) H):opsV P ops (i::rest) Q (.busy c wg ty n 0 L true D) a H:=
 fun b k cs T hk hl' hq=>.recv rfl hL (fun w hs=>Awv (main:=.own true) ho hw hk hl' (hr w hs)) fun v L' hp=>by
  rw [Ckx ho,Dkk]
  exact hn v L' hp b k cs T hk hl' hq
theorem Cvk {ops:Array Oper} {i:Nat} {rest:List Nat} {o:Oper} {c wg n:Nat} {ty:TypeId} {D:Nat->Prop} {z:Value} (G':Hp) (ho:ops[i]?=some o) (hw:Region.wanted o (yielded ops a.tmps)=true)
  (hr:∀w,Sat H w->(execOp a.eval o).runT P w #[]=(.ok (.comm #[rcase c z] true (.recv true)) w,#[])) (hG:∀b p o,G' b=some (p,o)->∃p',H b=some (p',o)/\(p=true->p'=true∨D b))
  (hn:opsV P ops rest Q .idle (a.put o.dst (.tuple #[z,.bool false])) G'):opsV P ops (i::rest) Q (.busy c wg ty n 0 [] true D) a H:=
 fun b k cs T hk hl' hq=>.shut rfl (fun w hs=>Awv (main:=.own true) ho hw hk hl' (hr w hs)) (fun w hs=>Awv (main:=.own true) ho hw hk hl' (hr w hs)) hG (by
  rw [Ckx ho,Dkk]
  exact hn b k cs T hk hl' hq)
theorem Dqm {Lk:WgLink} (HL:WgLib P Lk) {ops:Array Oper} {i:Nat} {rest:List Nat} {o:Oper} {x y:Operand} {ats:Array TypeId} {c wg n:Nat} {D:Nat->Prop} {L:List Value} (ho:ops[i]?=some o) (hw:Region.wanted o (yielded ops a.tmps)=true)
  (hop:o.op=.call { callee:=.value (.func Lk.add),args:=#[x,y],argTypes:=ats }) (hx:a.eval x=.pointer (some ⟨wg,0,none⟩)) (hy:a.eval y=.int .i64 1) (hn1:n<99)
  (hn:opsV P ops rest Q (.busy c wg Lk.tWg (n+1) 0 L false D) (a.put o.dst (.tuple #[])) H):opsV P ops (i::rest) Q (.busy c wg Lk.tWg n 0 L false D) a H:=fun b k cs T hk hl' hq=>by
 have hfat:∀(a:Act) (todo:List Item),fat b a todo=b.at a todo:=fun a todo=>by
  cases b
  simp only at hl'
  subst hl'
  rfl
 have hn':=hn b k cs T hk hl' hq
 simp only [hfat] at hn' ⊢
 refine (Quiet.fan (d:=0)).enter2 (b:=b) ho hw hk hop HL.f_add (Go.ConcR.Gen.nm_add Lk) Ayw #[.pointer (some ⟨wg,0,none⟩),.int .i64 1] 115 (by simp [hx,hy]) rfl ?_
 refine Dxf HL hn1 ?_
 rw [ho]
 exact hn'
end
end Go.X
end
section
namespace Go.X
open Go
open Go.Conc Go.RowKit Go.Conc.Lib Go.ConcR.Gen Go.ConcN.Gen
open Go.ConcR (KK)
section
variable {P:Program} {md:Md} {Stop:Goroutine->Hp->Prop} {a:Act} {H:Hp} {b:Frame} {k:List Item} {cs:List Frame}
theorem WPG.code {x:Code} (hk:b.kind≠.early) (hl:b.roundOf=none) (h:wpX P md none x (only fun a' H'=>WPG P md Stop (G (fat b a' k) cs) H') a H):WPG P md Stop (G (fat b a (.code x::k)) cs) H:=
 h b k cs Stop hk hl fun e a' H' q=>by cases e<;>first | exact q | exact q.elim
theorem WPG.seqX {x y:Code} (hk:b.kind≠.early) (hl:b.roundOf=none) (h:wpX P md none x (only fun a' H'=>WPG P md Stop (G (fat b a' (.code y::k)) cs) H') a H):WPG P md Stop (G (fat b a (.code (.seq x y)::k)) cs) H:=
 .ctl (g':=G (fat b a (.code x::.code y::k)) cs) rfl (fun w=>by simp [G,stepG,stepG.exec,fat]) (WPG.code hk hl h)
theorem WPG.regionX {id:Nat} {ops:Array Oper} (h:WPG P md Stop (G (fat b a (.inRegion ops (List.range ops.size)::k)) cs) H):WPG P md Stop (G (fat b a (.code (.region id ops false)::k)) cs) H:=
 .ctl (g':=G (fat b a (.inRegion ops (List.range ops.size)::k)) cs) rfl (fun w=>by simp [G,stepG,stepG.exec,fat]) h
theorem WPG.endX {ops:Array Oper} (h:WPG P md Stop (G (fat b a k) cs) H):WPG P md Stop (G (fat b a (.inRegion ops []::k)) cs) H:=
 .ctl (g':=G (fat b a k) cs) rfl (fun w=>by simp [G,stepG,stepG.exec,fat]) h
theorem Ckw {b:Frame} {a:Act} {todo:List Item} (hl:b.roundOf=none):fat b a todo=b.at a todo:=by
 cases b
 simp only at hl
 subst hl
 rfl
end
theorem Quiet.wpg {P:Program} {Stop:Goroutine->Hp->Prop} {H:Hp}:Quiet P false (fun _=>True) fun g=>WPG P (.own false) Stop g H:=
 ⟨fun hs h hn=>.ctl hs (fun w=>h w trivial) hn⟩
variable {L:WgLink}
theorem Dvr {P:Program} (HL:WgLib P L) {K:Hp} {f:FuncId} {fn:Func} {ops:Array Oper} {i:Nat} {o:Oper} {a:Act} {c Wg:Nat} {v z:Value} (ho:ops[i]?=some o) (hw:Region.wanted o (yielded ops a.tmps)=true)
  (hr:∀w,(execOp a.eval o).runT P w #[]=(.ok (.comm #[scase c v z] true .send) w,#[])) (hd:a.defers=[dcall L.done #[.pointer (some ⟨Wg,0,none⟩)]]) (hf:P.funcs[f]?=some fn) (hres:fn.results=#[]) :
  Bxv P c Wg L.tWg v (G (fat (baseD f) a [.inRegion ops [i]]) [Ak1 P]) K:=by
 refine ⟨rfl,_,z,fun w _=>Awv (main:=.own false) ho hw (by simp [baseD]) rfl (hr w),?_⟩
 have hs:Go.Conc.served (G (fat (baseD f) a [.inRegion ops [i]]) [Ak1 P]) undef=G (fat (baseD f) (a.put o.dst undef) [.inRegion ops []]) [Ak1 P]:=by
  have hfin:(fat (baseD f) a [.inRegion ops [i]]).finish undef=fat (baseD f) (a.put o.dst undef) [.inRegion ops []]:=by rw [Ax5,ho];rfl
  simp [Go.Conc.served,G,hfin]
 rw [hs,Ckw rfl]
 have hd':(a.put o.dst undef).defers=[dcall L.done #[.pointer (some ⟨Wg,0,none⟩)]]:=by rw [<-hd];cases o.dst<;>rfl
 generalize a.put o.dst undef=a' at *
 have hJ:=Quiet.sent (P:=P) (c:=c) (b:=Wg) (ty:=L.tWg) K
 refine hJ.region_end (hJ.ends (hJ.unwind_enter hd' HL.f_done (Go.ConcR.Gen.nm_done L) (c:=body_done L) rfl ?_))
 obtain ⟨qt,hq⟩:∃n,QuitsD P n 0 (G { (baseD f).at ⟨a'.tmps,[]⟩ [] with mode:=.returning } [Ak1 P]):=by
  refine (Quiet.quits 0).ctl (g':=G (Ak1 P) []) rfl (fun w=>?_) ((Quiet.quits 0).ctl (g':={ G (Ak1 P) [] with status:=.finished }) rfl (fun w=>?_) ⟨0,rfl,rfl⟩)
  ·simp [G,stepG,unwind,doReturn,Frame.at,baseD,hf,results,hres,Ak1,goexitEntry,GStep.after,seen_none]
  ·simp [G,stepG,unwind,Ak1,goexitEntry,Frame.catches]
   rfl
 exact Dve HL K (qt:=qt) rfl hq
theorem Cjf {P:Program} {f:FuncId} {fn:Func} {a:Act} (hf:P.funcs[f]?=some fn) (hres:fn.results=#[]) (had:a.defers=[]):QuitsIn P 3 (G (fat (baseD f) a []) [Ak1 P]):=by
 refine .inr ⟨rfl,G { fat (baseD f) a [] with mode:=.returning } [Ak1 P],fun w=>by simp [G,stepG,stepG.exec,fat,baseD];rfl,?_⟩
 refine .inr ⟨rfl,G (Ak1 P) [],fun w=>?_,?_⟩
 ·simp [G,stepG,unwind,doReturn,fat,baseD,had,hf,results,hres,Ak1,goexitEntry,GStep.after,seen_none]
 ·refine .inr ⟨rfl,{ G (Ak1 P) [] with status:=.finished },fun w=>?_,rfl⟩
  simp [G,stepG,unwind,Ak1,goexitEntry,Frame.catches]
  rfl
theorem Dqu (P:Program) (fn:FuncId) (c:Nat):seen P fn (clE c)=clE c:=by
 rw [seen_def]
 simp [seenStep,clE]
theorem closeW {P:Program} {K:Hp} {f:FuncId} {fn:Func} {ops:Array Oper} {i:Nat} {o:Oper} {a:Act} {c Wg:Nat} {tWg:TypeId} {x:Operand} {ats:Array TypeId} (ho:ops[i]?=some o) (hw:Region.wanted o (yielded ops a.tmps)=true)
  (hop:o.op=.call { callee:=.builtin .close,args:=#[x],argTypes:=ats }) (hx:a.eval x=.chan (some c)) (hd:a.defers=[]) (hf:P.funcs[f]?=some fn) (hres:fn.results=#[]) :
  ∃ρ,OthW P c Wg tWg ρ (G (fat (baseD f) a [.inRegion ops [i]]) [Ak1 P]) (.late K):=by
 obtain ⟨d,op,ty,pos,af,g⟩:=o
 simp only at hop
 subst hop
 refine Cyq (g':=G (fat (baseD f) (a.put d (.tuple #[])) [.inRegion ops []]) [Ak1 P]) rfl ?_ (fun w r hs hc=>?_) rfl ?_
 ·simp [mayWake,G,fat,ho]
 ·have h1:=run_close_open (P:=P) ats ty hc
  have h2:=events_close_open (P:=P) (es:=#[]) ats ty hc
  have hrun:(execOp a.eval ⟨d,.call { callee:=.builtin .close,args:=#[x],argTypes:=ats },ty,pos,af,g⟩).runT P w #[]=(.ok (.value (.tuple #[])) (World.lay w c (.chan 0 #[] true r r false)),clE c):=by
   simp [execOp,resolve,invoke,hx,builtin,h1,h2,World.lay,clE]
  have hfin:(fat (baseD f) a [.inRegion ops [i]]).finish (.tuple #[])=fat (baseD f) (a.put d (.tuple #[])) [.inRegion ops []]:=by rw [Ax5,ho];rfl
  have hk':((baseD f).kind==CallKind.early)=false:=rfl
  refine (stepG_op (main:=.own false) (b:=baseD f) (k:=[]) (cs:=[Ak1 P]) (rest:=[]) ho hw (.inl rfl)).trans ?_
  simp only [stepG.apply,hrun]
  rw [<-hfin]
  simp [G,fat,hk',GStep.after,Dqu]
 ·have hd':(a.put d (.tuple #[])).defers=[]:=by rw [<-hd];cases d<;>rfl
  exact ⟨_,Cjg (g':=G (fat (baseD f) (a.put d (.tuple #[])) []) [Ak1 P]) rfl (fun w=>by simp [G,stepG,stepG.exec,fat]) (Cjf hf hres hd')⟩
end Go.X
end
section
namespace Go.X
open Go
open Go.Conc
theorem FnX.goodW {P:Program} {f:FuncId} {fn:Func} {args:Array Value} {W:World} {v₀:Value} (h:FnX P (.wg P) f args (Ays W) fun e _=>e=.returned v₀) (hf:P.funcs[f]?=some fn)
  (hr:∀tmps w v w',(results fn tmps).run P w=.ok v w'->w'=w) (hi:P.inits.idxOf? f=none) :
  Ends P (fun v w=>v=v₀/\Base W w) (solo (G (Frame.enter P f args .normal) []) W) #[]:=by
 rw [solo_eq_crowd]
 have hW0:=h [] (fun g H=>∃fr,g=G fr []/\fr.fn=f/\Leaving P fr H fun e _=>e=.returned v₀) fun fr H' hfn hl=>.stop ⟨fr,rfl,hfn,hl⟩ (Hp.le_refl _)
 have hI:WI P W .idle (Ays W) #[G (Frame.enter P f args .normal) []] W #[] [] 0 (fun _=>.off 0) (fun _=>False):=by
  refine ⟨⟨fun x K hx=>?_,fun x y K K' hxy hx hy=>?_,fun x K hx b p o hb i a ha=>(by simp [touchAt,Trace.act?] at ha),past_nil.clean,fun i a b ha=>(by simp [touchAt,Trace.act?] at ha)⟩,rfl,fun i x hx=>(by simp at hx),fun _ _=>rfl,rfl,fun i a ha=>(by simp [touchAt,Trace.act?] at ha),fun i op a h=>(by simp at h),fun y hy=>hy.elim,⟨rfl,rfl,Nat.le_refl _,fun _ _=>rfl⟩,fun x K b o hx hb=>?_,fun _ _=>rfl,rfl,fun _ i x K _ hq=>(by cases hq),fun i x K st _ hq=>(by cases hq),fun i=>⟨0,rfl⟩⟩
  ·by_cases hx0:x=0
   ·subst hx0;cases hx
    exact fun b p o hb=>(Ayt hb).2
   ·simp [hpW,hx0,PhW.mem] at hx
  ·by_cases hx0:x=0
   ·by_cases hy0:y=0
    ·exact absurd (hx0.trans hy0.symm) hxy
    ·simp [hpW,hy0,PhW.mem] at hy
   ·simp [hpW,hx0,PhW.mem] at hx
  ·by_cases hx0:x=0
   ·subst hx0;cases hx
    exact absurd (Ayt hb).1 (by simp)
   ·simp [hpW,hx0,PhW.mem] at hx
 refine FanW.ends (W:=W) ?_ hW0.fanW _ _ _ _ _ _ _ _ hI rfl
 rintro g H ⟨fr,rfl,hfn,hl⟩
 refine ⟨rfl,fun w hsat hB=>?_⟩
 rcases hl with ⟨hm,hd,hk,fn',hf',hres⟩ | ⟨ch,_,_,_,_,hres⟩
 ·obtain rfl:fn'=fn:=Option.some.inj (hf'.symm.trans (by rw [hfn];exact hf))
  obtain ⟨es,w',H',hmv,r,hrun,hd'⟩:=Akr _ w hsat hres
  have hr0:(results fn' fr.tmps).runT P w #[]=(r,es):=by rw [hrun #[]];simp
  rcases hd' with ⟨v,rfl,hv⟩ | ⟨v,_,hv⟩
  ·have hrun':(results fn' fr.tmps).run P w=.ok v w':=by
    have:=congrArg Prod.fst hr0
    simpa using this
   have:=hr _ _ _ _ hrun'
   subst this
   have hv':v=v₀:=by injection hv
   subst hv'
   refine ⟨v,seen P fr.fn es,?_,?_,rfl,hB⟩
   ·have hi':P.inits.idxOf? fr.fn=none:=by rw [hfn];exact hi
    simp [G,stepG,unwind,doReturn,hm,hd,hk,hf',hr0,hi',GStep.after,-Sem.runT_eq]
   ·have hq:=hmv.seen (P:=P) fr.fn
    exact ⟨hsat,hq.size,fun _ _ _=>rfl,fun b p o' hb=>.inl ⟨o',hb,fun _=>rfl⟩,rfl,rfl,rfl,hq.evs,hq.low⟩
  ·exact hv.elim
 ·cases hres
end Go.X
end
section
namespace Go.Proofs.YtaehjjbekjglkaaGreatDoor
open Go Go.Proofs.Tryz
def lk:Go.Conc.Lib.WgLink:={ add:=103,done:=105,wait:=108,relMerge:=113,disable:=114,enable:=115,inBubble:=116,associate:=117,fatal:=118,uOr:=119,uAdd:=120,raceRead:=121,uLoad:=122,uStore:=123,disassociate:=124,semrelease:=125,acquire:=128,isAssociated:=129,uCas:=130,raceWrite:=131,semacquire:=132,orU64:=136,addU64:=137,loadU64:=138,storeU64:=139,casU64:=144,tWgP:=175,tUP:=163,tAssoc:=177,tWg:=161,tAU:=158,tU64:=67,tUint:=137,tU32:=159,tPU32:=181,tPAU:=208,tPU64:=210,tNoCopy:=154,tANoCopy:=155,tAlign64:=156 }
theorem wgLib:Go.Conc.Lib.WgLib Tryz.prog lk:=
 ⟨func103,func105,func108,func113,func114,func115,func116,func117,func118,func119,func120,func121,func122,func123,func124,func125,func128,func129,func130,func131,func132,func136,func137,func138,func139,func144,underlying175,Tryz.runUnderlying175,sizeOf175,Tryz.isAgg175,zeroValue175,underlying163,Tryz.runUnderlying163,sizeOf163,Tryz.isAgg163,zeroValue163,underlying177,Tryz.runUnderlying177,sizeOf177,Tryz.isAgg177,zeroValue177,underlying161,Tryz.runUnderlying161,sizeOf161,Tryz.isAgg161,zeroValue161,underlying158,Tryz.runUnderlying158,sizeOf158,Tryz.isAgg158,zeroValue158,underlying67,Tryz.runUnderlying67,sizeOf67,Tryz.isAgg67,zeroValue67,underlying137,Tryz.runUnderlying137,sizeOf137,Tryz.isAgg137,zeroValue137,underlying159,Tryz.runUnderlying159,sizeOf159,Tryz.isAgg159,zeroValue159,underlying181,Tryz.runUnderlying181,sizeOf181,Tryz.isAgg181,zeroValue181,underlying208,Tryz.runUnderlying208,sizeOf208,Tryz.isAgg208,zeroValue208,underlying210,Tryz.runUnderlying210,sizeOf210,Tryz.isAgg210,zeroValue210,underlying0,Tryz.runUnderlying0,sizeOf0,Tryz.isAgg0,zeroValue0,underlying3,Tryz.runUnderlying3,sizeOf3,Tryz.isAgg3,zeroValue3,underlying4,Tryz.runUnderlying4,sizeOf4,Tryz.isAgg4,zeroValue4,underlying9,Tryz.runUnderlying9,sizeOf9,Tryz.isAgg9,zeroValue9,underlying20,Tryz.runUnderlying20,sizeOf20,Tryz.isAgg20,zeroValue20,underlying21,Tryz.runUnderlying21,sizeOf21,Tryz.isAgg21,zeroValue21,by kernel_rfl,by kernel_rfl⟩
end Go.Proofs.YtaehjjbekjglkaaGreatDoor
end
section
namespace Go.Proofs.YtaehjjbekjglkaaGreatDoor
open Go Go.X Go.Proofs.Tryz
def Bw0:=(fun H=>Bxz (H:=H) underlying23 sizeOf3)
theorem Dqa (m:Md) (H:Hp) (v:Value) (xs:List Int) (hv:RdI H v xs) (hl:xs.length<=1000000) :
  FnX Tryz.prog m 49 #[v] H fun e H'=>∃w,e=.returned w/\RowX none H H' w 3 (ints xs):=by
 obtain ⟨a,cap,rfl,hcap,hx⟩:=hv
 refine Aqn func49 rfl ntmps49 (by simp) ?_
 (refine @unH _ (zA @Bw0 ?_);(try clear hK K);intro K hK hc)
 intro nb hnb
 have hle:H.le (H.set nb (.cells #[] 3 (0,0))):=Hp.le_set hnb
 have hrow0:Aju H (H.set nb (.cells #[] 3 (0,0))) (.slice (some ⟨nb,0,none⟩) 0 0) 3 1 0 (ints []):=.inr ⟨nb,#[],0,hnb,rfl,rfl,rfl,rfl,Nat.le_refl _,fun i u hi=>by simp [ints] at hi⟩
 cases xs with
 | nil=>
  (refine @unH _ (zU @Bw0 ?_);intro _ _ hc)
  refine Aw9 underlying23 sizeOf3 _ _ _ _ _ _ _ (Nat.le_refl _) _ _ ?_
  (refine @unH _ (zU @Bw0 ?_);(try clear hK K);intro K hK hc)
  (refine @unH _ ?_;refine z9 results49 ?_)
  exact ⟨_,rfl,Lex.of hle,.inr ⟨nb,#[],0,hnb,Axh,rfl,rfl,Nat.le_refl _,fun i u hi=>by simp [ints] at hi⟩⟩
 | cons x0 xs0=>
  obtain ⟨b',o',p',c',_,fr',h',hb',_⟩:=hx 0 x0 rfl
  subst h'
  (refine @unH _ (zU @Bw0 ?_);intro _ _ hc)
  have hgne:b'≠nb:=Aqr hb' hnb
  refine Bxw hrow0 (Hp.le_refl _) (ys:=x0::xs0) rfl (fun h=>absurd h (by rw [hb'];simp)) (fun j y hj=>?_) (by simp at hl ⊢;omega) _ _ _ _ (fun v' H1 H2 hr hl2=>?_)
  ·obtain ⟨b2,o2,p2,c2,_,fr2,e2,hb2,hc2⟩:=hx j y hj
   cases e2
   rw [Bx2 hgne,cell_of hb2]
   exact hc2
  ·(refine @unH _ (zU @Bw0 ?_);(try clear hK K);intro K hK hc)
   (refine @unH _ ?_;refine z9 results49 ?_)
   refine ⟨_,rfl,?_⟩
   have hlen:=hr.len
   rcases hr with ⟨_,h0,_⟩ | ⟨b3,c3,cap3,hb3,rfl,rfl,hs3,hl3,hn3,hg3⟩
   ·simp at h0
   ·refine ⟨Lex.of (Hp.le_trans (Hp.le_set hb3) hl2),.inr ⟨b3,c3,cap3,hb3,hl2 _ _ Axh,?_,by simpa using hs3,?_,?_⟩⟩
    ·simp [ints]
    ·simpa [ints] using hn3
    ·intro i u hi;exact hg3 i u (by simpa using hi)
theorem Cz2 (m:Md) (H:Hp) (v:Value) (xs:List Int) (hv:SlI H v xs) (hl:xs.length<=1000000) :
 FnX Tryz.prog m 49 #[v] H fun e H'=>∃w,e=.returned w/\RowX none H H' w 3 (ints xs):=Dqa m H v xs (SlI.rd hv) hl
end Go.Proofs.YtaehjjbekjglkaaGreatDoor
end
section
namespace Go.X
open Go
section
variable {P:Program} {H:Hp}
theorem Dvh {f:FuncId}:(Mark.extern f=.noRoom∨∃g,Mark.extern f=.extern g)=True:=eq_true (.inr ⟨f,rfl⟩)
theorem Dq1 {m:Mark} (K:Unit->Hp->Prop) (E:Value->Hp->Prop):wpS P (mark m) H K E=((m=.noRoom∨∃g,m=.extern g)/\K () H):=rfl
theorem Azr {f:FuncId} {fn:Func} {e:Array Value->Sem Value} (hf:P.funcs[f]?=some fn) (hn:(fn.name == "runtime.NumGoroutine")=false) (hb:fn.body.isNone=true) (hx:Extern.findNext fn=none) (he:Extern.find fn=some e) (args:Array Value) (K:Next->Hp->Prop) (E:Value->Hp->Prop) :
  wpS P (callFunc f args) H K E=wpS P (e args) H (fun v H'=>K (.value v) H') E:=by
 unfold callFunc
 rw [Aqa]
 change wpS P (match P.funcs[f]? with | none=>_ | some fn=>_) H K E=_
 rw [hf]
 simp only [hn,hb,Bool.false_eq_true,if_false,if_true,hx,he]
 rw [Aqa,Dq1,Dvh]
 simp only [true_and]
 rw [Aqa]
 rfl
end
end Go.X
namespace Go.Proofs.YtaehjjbekjglkaaGreatDoor
open Go Go.X Go.Extern Go.Proofs.Tryz
theorem x_method (z:Sem Value) (f:TypeId->Addr->Nat->Nat->Sem Value) (v:Value):ReflectliteValue.method z f #[v]=(do match <- ReflectliteValue.parts v with | none=>z | some (t,a,fl)=>f t a fl (fl%32)):=rfl
theorem meth_Kind (h:Value) (H:Hp) (K:Next->Hp->Prop) (E:Value->Hp->Prop):Bjc Tryz.prog (.iface 195 (.agg #[h])) "Kind" #[] H K E=wpS Tryz.prog (callFunc 159 #[h]) H K E:=by kernel_rfl
theorem meth_Elem (h:Value) (H:Hp) (K:Next->Hp->Prop) (E:Value->Hp->Prop):Bjc Tryz.prog (.iface 195 (.agg #[h])) "Elem" #[] H K E=wpS Tryz.prog (callFunc 170 #[.agg #[h]]) H K E:=by kernel_rfl
theorem meth_Implements (h x:Value) (H:Hp) (K:Next->Hp->Prop) (E:Value->Hp->Prop):Bjc Tryz.prog (.iface 195 (.agg #[h])) "Implements" #[x] H K E=wpS Tryz.prog (callFunc 171 #[.agg #[h],x]) H K E:=by kernel_rfl
theorem meth_AssignableTo (h x:Value) (H:Hp) (K:Next->Hp->Prop) (E:Value->Hp->Prop):Bjc Tryz.prog (.iface 195 (.agg #[h])) "AssignableTo" #[x] H K E=wpS Tryz.prog (callFunc 168 #[.agg #[h],x]) H K E:=by kernel_rfl
theorem cf_ValueOf (args:Array Value) (H:Hp) (K:Next->Hp->Prop) (E:Value->Hp->Prop):wpS Tryz.prog (callFunc 109 args) H K E=wpS Tryz.prog ((fun args:Array Value=>ReflectliteValue.unpack (args.getD 0 (.tuple #[]))) args) H (fun v H'=>K (.value v) H') E:=Azr (e:=fun args:Array Value=>ReflectliteValue.unpack (args.getD 0 (.tuple #[]))) func109 (by kernel_rfl) (by kernel_rfl) (by kernel_rfl) (by kernel_rfl) args K E
theorem cf_Type (args:Array Value) (H:Hp) (K:Next->Hp->Prop) (E:Value->Hp->Prop):wpS Tryz.prog (callFunc 110 args) H K E=wpS Tryz.prog ((ReflectliteValue.methodAny (ReflectliteValue.valueError "reflectlite.Value.Type" 0) (fun t _ _ _=>ReflectliteType.toType t)) args) H (fun v H'=>K (.value v) H') E:=Azr (e:=ReflectliteValue.methodAny (ReflectliteValue.valueError "reflectlite.Value.Type" 0) (fun t _ _ _=>ReflectliteType.toType t)) func110 (by kernel_rfl) (by kernel_rfl) (by kernel_rfl) (by kernel_rfl) args K E
theorem cf_IsNil (args:Array Value) (H:Hp) (K:Next->Hp->Prop) (E:Value->Hp->Prop):wpS Tryz.prog (callFunc 111 args) H K E=wpS Tryz.prog ((ReflectliteValue.method (ReflectliteValue.valueError "reflectlite.Value.IsNil" 0) ReflectliteValue.isNil) args) H (fun v H'=>K (.value v) H') E:=Azr (e:=ReflectliteValue.method (ReflectliteValue.valueError "reflectlite.Value.IsNil" 0) ReflectliteValue.isNil) func111 (by kernel_rfl) (by kernel_rfl) (by kernel_rfl) (by kernel_rfl) args K E
theorem cf_Kind (args:Array Value) (H:Hp) (K:Next->Hp->Prop) (E:Value->Hp->Prop):wpS Tryz.prog (callFunc 159 args) H K E=wpS Tryz.prog ((ReflectliteType.abiMethod fun t=>do pure (.int .u8 (<-Rtype.kind t))) args) H (fun v H'=>K (.value v) H') E:=Azr (e:=ReflectliteType.abiMethod fun t=>do pure (.int .u8 (<-Rtype.kind t))) func159 (by kernel_rfl) (by kernel_rfl) (by kernel_rfl) (by kernel_rfl) args K E
theorem cf_TElem (args:Array Value) (H:Hp) (K:Next->Hp->Prop) (E:Value->Hp->Prop):wpS Tryz.prog (callFunc 170 args) H K E=wpS Tryz.prog ((ReflectliteType.method ReflectliteType.elem) args) H (fun v H'=>K (.value v) H') E:=Azr (e:=ReflectliteType.method ReflectliteType.elem) func170 (by kernel_rfl) (by kernel_rfl) (by kernel_rfl) (by kernel_rfl) args K E
theorem cf_Implements (args:Array Value) (H:Hp) (K:Next->Hp->Prop) (E:Value->Hp->Prop):wpS Tryz.prog (callFunc 171 args) H K E=wpS Tryz.prog ((ReflectliteType.relation "Implements" ReflectliteType.implements_) args) H (fun v H'=>K (.value v) H') E:=Azr (e:=ReflectliteType.relation "Implements" ReflectliteType.implements_) func171 (by kernel_rfl) (by kernel_rfl) (by kernel_rfl) (by kernel_rfl) args K E
theorem cf_TypeOf (args:Array Value) (H:Hp) (K:Next->Hp->Prop) (E:Value->Hp->Prop):wpS Tryz.prog (callFunc 133 args) H K E=wpS Tryz.prog ((ReflectliteType.typeOf) args) H (fun v H'=>K (.value v) H') E:=Azr (e:=ReflectliteType.typeOf) func133 (by kernel_rfl) (by kernel_rfl) (by kernel_rfl) (by kernel_rfl) args K E
theorem cf_AssignableTo (args:Array Value) (H:Hp) (K:Next->Hp->Prop) (E:Value->Hp->Prop):wpS Tryz.prog (callFunc 168 args) H K E=wpS Tryz.prog ((ReflectliteType.relation "AssignableTo" ReflectliteType.assignableTo) args) H (fun v H'=>K (.value v) H') E:=Azr (e:=ReflectliteType.relation "AssignableTo" ReflectliteType.assignableTo) func168 (by kernel_rfl) (by kernel_rfl) (by kernel_rfl) (by kernel_rfl) args K E
theorem cf_VElem (args:Array Value) (H:Hp) (K:Next->Hp->Prop) (E:Value->Hp->Prop):wpS Tryz.prog (callFunc 134 args) H K E=wpS Tryz.prog ((ReflectliteValue.method (ReflectliteValue.valueError "reflectlite.Value.Elem" 0) ReflectliteValue.elem) args) H (fun v H'=>K (.value v) H') E:=Azr (e:=ReflectliteValue.method (ReflectliteValue.valueError "reflectlite.Value.Elem" 0) ReflectliteValue.elem) func134 (by kernel_rfl) (by kernel_rfl) (by kernel_rfl) (by kernel_rfl) args K E
theorem cf_Set (args:Array Value) (H:Hp) (K:Next->Hp->Prop) (E:Value->Hp->Prop):wpS Tryz.prog (callFunc 135 args) H K E=wpS Tryz.prog ((ReflectliteValue.set) args) H (fun v H'=>K (.value v) H') E:=Azr (e:=ReflectliteValue.set) func135 (by kernel_rfl) (by kernel_rfl) (by kernel_rfl) (by kernel_rfl) args K E
theorem Cvd {P:Program} {t:TypeId} {d:TypeDesc} (hu:P.underlying t=some d) (hd:aggB d=false) (a:Addr) (H:Hp) (K:Value->Hp->Prop) (E:Value->Hp->Prop):wpS P (loadVar t a) H K E=∃v,H.cell a=some v/\K v H:=by
 unfold loadVar
 rw [Aqa,Akp hu,hd]
 simp only [Bool.false_eq_true,if_false]
 show (Mode.plain=.plain/\∃v,H.cell a=some v/\K v H)=_
 simp
theorem x_setE (v x:Value):ReflectliteValue.set #[v,x]=(do
 let (some (dst,a,fl),some (src,b,_)):=(<-ReflectliteValue.parts v,<-ReflectliteValue.parts x)
  | unsupported (.noEntry "extern/(internal/reflectlite.Value).Set.zeroValue")
 if fl/ReflectliteValue.flagAddr%2==0 then unsupported (.noEntry "extern/(internal/reflectlite.Value).Set.unaddressable")
 let val <- loadVar src b
 if <- Rtype.directlyAssignable dst src then storeVar dst a val
 else if <- Rtype.implements dst src then
  if (<-Rtype.kind src)==20 then
   match val with
   | .nilIface=>unsupported (.noEntry "extern/reflectlite: a nil value of one interface type handed on as a value of another")
   | _=>storeVar dst a val
  else storeVar dst a (.iface src val)
 else panicString ("reflectlite.Set: value of type " ++ (<-Rtype.spelt src) ++ " is not assignable to type " ++ (<-Rtype.spelt dst))
 pure (.tuple #[])):=rfl
end Go.Proofs.YtaehjjbekjglkaaGreatDoor
end
section
namespace Go.Proofs.YtaehjjbekjglkaaGreatDoor
open Go Go.X
structure Bd where
 lo:Int
 hi:Int
 some:Bool
def bd0:Bd:=⟨0,0,false⟩
def Bqg (b:Bd) (x:Int):Bd:=if b.some then ⟨min b.lo x,max b.hi x,true⟩ else ⟨x,x,true⟩
structure Dr where
 a:Int
 b:Int
 mn:Int
 mx:Int
structure Ns where
 pl:Int
 hr:Int
 sm:Bool
structure Sm where
 places:Int
 doors:List Dr
 hampers:List Int
 noses:List Ns
structure DrOk (places:Int) (d:Dr):Prop where
 a0:0<=d.a
 a1:d.a<places
 b0:0<=d.b
 b1:d.b<places
 ne:d.a≠d.b
 m0:1<=d.mn
 m1:d.mn<=d.mx
 m2:d.mx<=4
structure NsOk (places:Int) (n:Ns):Prop where
 p0:0<=n.pl
 p1:n.pl<places
 h0:0<=n.hr
 h1:n.hr<=12
structure SmOk (s:Sm):Prop where
 p0:1<=s.places
 p1:s.places<=6
 dl:s.doors.length<=6
 dk:∀d∈s.doors,DrOk s.places d
 h0:1<=s.hampers.length
 h1:s.hampers.length<=3
 hk:∀h∈s.hampers,0<=h/\h<s.places
 hd:s.hampers.Nodup
 nl:s.noses.length<=4
 nk:∀n∈s.noses,NsOk s.places n
def gI (c:List Int) (p:Int):Int:=c.getD p.toNat 0
def Akk (c:List Int) (d:Dr) (t:Int):List Int:=
 (c.set d.a.toNat (min (gI c d.a) (gI c d.b+t))).set d.b.toNat
  (min (gI (c.set d.a.toNat (min (gI c d.a) (gI c d.b+t))) d.b) (gI (c.set d.a.toNat (min (gI c d.a) (gI c d.b+t))) d.a+t))
def Ajg:List Dr->List Int->List Int->List Int
 | d::ds,t::ts,c=>Ajg ds ts (Akk c d t)
 | _,_,c=>c
def Avp (ds:List Dr) (ts:List Int):Nat->List Int->List Int
 | 0,c=>c
 | n+1,c=>if Ajg ds ts c=c then c else Avp ds ts n (Ajg ds ts c)
def Byt (p:Int):List Int:=(List.replicate 6 (99:Int)).set p.toNat 0
def Axk (ds:List Dr) (p:Int) (ts:List Int):List Int:=Avp ds ts 600 (Byt p)
def hrsF (d:Dr):List Int:=((List.range 5).map fun (n:Nat)=>(n:Int)).filter fun n=>decide (d.mn<=n/\n<=d.mx)
def Ax1:List Dr->List (List Int)
 | []=>[[]]
 | d::ds=>(hrsF d).flatMap fun n=>(Ax1 ds).map (n :: ·)
def pad6 (l:List Int):List Int:=l++List.replicate (6-l.length) 0
def begN:List Ns->List Int->Int->Int->Option (Int×Int)
 | [],_,lo,hi=>some (lo,hi)
 | n::ns,c,lo,hi=>
  if (n.sm=true/\gI c n.pl=99)∨(if n.sm then min hi (n.hr-gI c n.pl) else hi)<(if n.sm then lo else max lo (n.hr-gI c n.pl+1)) then none
  else begN ns c (if n.sm then lo else max lo (n.hr-gI c n.pl+1)) (if n.sm then min hi (n.hr-gI c n.pl) else hi)
def fitB (ns:List Ns) (c:List Int) (b:Int):Bool:=
 match begN ns c 0 12 with
 | none=>false
 | some (lo,hi)=>decide (lo<=b/\b<=hi)
structure Hint where
 bs:List Bd
 first:List Int
 some:Bool
def Czx:Hint:=⟨List.replicate 6 bd0,List.replicate 6 0,false⟩
def Ajy (places b:Int) (x:Hint) (tc:List Int×List Int):Hint:=
 ⟨x.bs.mapIdx fun p w=>if (p:Int)<places then Bqg w (min 99 (b+gI tc.2 p)) else w,if x.some then x.first else tc.1,true⟩
def trL (s:Sm) (p:Int):List (List Int×List Int):=(Ax1 s.doors).map fun t=>(pad6 t,Axk s.doors p (pad6 t))
def Cy6 (s:Sm) (L:List (List Int×List Int)) (b:Int):Hint:=(L.filter fun tc=>fitB s.noses tc.2 b).foldl (Ajy s.places b) Czx
def byL (s:Sm) (L:List (List Int×List Int)):List Hint:=(List.range 13).map fun (b:Nat)=>Cy6 s L b
structure Trail where
 ham:Int
 hs:List Hint
def Az0 (s:Sm) (i:Nat):Trail:=⟨i,byL s (trL s (s.hampers.getD i 0))⟩
def Axw (s:Sm):List Trail:=(List.range s.hampers.length).map (Az0 s)
def Bzw (t:Trail):List (Int×Int×Hint):=((t.hs.zipIdx).filter fun x=>x.1.some).map fun x=>(t.ham,(x.2:Int),x.1)
def Az7 (l:List Trail):List (Int×Int×Hint):=l.flatMap Bzw
theorem Cvv (c:List Int) (i:Nat) (v:Int):(c.set i v).length=c.length:=List.length_set
theorem Bj0 (c:List Int) (d:Dr) (t:Int):(Akk c d t).length=c.length:=by simp [Akk]
theorem Aws:∀(ds:List Dr) (ts c:List Int),(Ajg ds ts c).length=c.length
 | [],_,c=>by cases ‹List Int› <;> rfl
 | _::_,[],c=>rfl
 | d::ds,t::ts,c=>by rw [Ajg,Aws ds ts,Bj0]
theorem Bzo (ds:List Dr) (ts:List Int):∀(n:Nat) (c:List Int),(Avp ds ts n c).length=c.length
 | 0,_=>rfl
 | n+1,c=>by
  unfold Avp
  split
  ·rfl
  ·rw [Bzo ds ts n,Aws]
theorem Avo (ds:List Dr) (p:Int) (ts:List Int):(Axk ds p ts).length=6:=by simp [Axk,Bzo,Byt]
theorem Av4 {c:List Int} {p:Int} (h0:0<=p) (h1:p<c.length):c[p.toNat]?=some (gI c p):=by
 unfold gI
 rw [List.getD,List.getElem?_eq_getElem (by omega)]
 rfl
theorem Av5 {c:List Int} {p q v:Int} (hp0:0<=p) (hp:p<c.length) (hq:0<=q):gI (c.set p.toNat v) q=if p=q then v else gI c q:=by
 unfold gI
 rw [List.getD,List.getElem?_set]
 by_cases h:p=q
 ·subst h
  rw [if_pos rfl,if_pos rfl,if_pos (by omega)]
  rfl
 ·rw [if_neg (by omega),if_neg h]
  rfl
end Go.Proofs.YtaehjjbekjglkaaGreatDoor
end
