/- Texts WSoft WSync WSync2 WZero WZero2. -/
import Derived.Test.YtaehjjbekjglkaaGreatDoorJ02
set_option linter.defProp false
set_option linter.unusedSimpArgs false
set_option linter.unusedVariables false
set_option maxRecDepth 100000
set_option maxHeartbeats 2000000
section
namespace Go.X
open Go
open Go.Conc
open Go.ConcN (upd upd_same upd_ne)
section
variable {P:Program} {W:World} {γ:GhW} {H H':Hp} {gs gs':Array Goroutine} {w w':World} {t u:Trace} {μ:List Rw} {e:Nat} {q:Nat->PhW} {Sh Sh':Nat->Prop} {i:Nat} {ρ ρ':Rw} {g':Goroutine} {p':PhW} {es:Array Event} {fn:FuncId} {pos:String}
variable {c b n d:Nat} {ty:TypeId} {L:List Value} {D:Nat->Prop} {cl:Bool} {r st sm k:Nat} {rl:Option (Nat×Nat)}
structure Av1 (p p':PhW):Prop where
 mem:p'.mem=p.mem
 val:p'.val=p.val
 num:p'.num=p.num
 on:p'.on=p.on
 pend:p.pend=true->p'.pend=true
 off:(∃d,p=.off d)->∃d,p'=.off d
 mate:p.mate->p'.mate
 rel:∀s,p'=.rel s↔p=.rel s
 gone:p'=.gone->p=.gone
 work:((∃d,p=.off d)∨∃K v,p=.work K v)->(∃d,p'=.off d)∨∃K v,p'=.work K v
 sync:∀v rl st sm cl,Bqz p v rl st sm cl->Bqz p' v rl st sm cl
 sema:∀K,p'=.sema K->p=.sema K
theorem Av1.of_off {d d':Nat}:Av1 (.off d) (.off d'):=⟨rfl,rfl,rfl,rfl,id,fun _=>⟨_,rfl⟩,fun _=>.inl ⟨_,rfl⟩,by simp,by simp,fun _=>.inl ⟨_,rfl⟩,fun _ _ _ _ _ h=>h,by simp⟩
theorem Av1.of_tail {d d':Nat}:Av1 (.tail d) (.tail d'):=⟨rfl,rfl,rfl,rfl,id,by simp,fun _=>.inr (.inr (.inl ⟨_,rfl⟩)),by simp,by simp,by simp,fun _ _ _ _ _ h=>h,by simp⟩
theorem Av1.of_wait {K:Hp} {d d' m:Nat}:Av1 (.wait K d m) (.wait K d' m):=⟨rfl,rfl,rfl,rfl,id,by simp,by simp [PhW.mate],by simp,by simp,by simp,fun _ _ _ _ _ h=>h,by simp⟩
theorem Av1.of_acq {K:Hp}:Av1 (.shut K 0) (.late K):=⟨rfl,rfl,rfl,rfl,fun _=>rfl,by simp,by simp [PhW.mate],by simp,by simp,by simp,fun _ _ _ _ _ h=>h,by simp⟩
theorem Av1.of_shut {K:Hp} {d d':Nat}:Av1 (.shut K d) (.shut K d'):=⟨rfl,rfl,rfl,rfl,id,by simp,by simp [PhW.mate],by simp,by simp,by simp,fun _ _ _ _ _ h=>h,by simp⟩
theorem Av1.refl {p:PhW}:Av1 p p:=⟨rfl,rfl,rfl,rfl,id,id,id,fun _=>.rfl,id,id,fun _ _ _ _ _ h=>h,fun _ h=>h⟩
theorem Av1.on_upd {x:Nat} (hs:Av1 (q x) p') (y:Nat) (hy:OnW (upd q x p') y):OnW q y:=hy.imp id fun hy=>by
 by_cases hyi:y=x
 ·subst hyi;rw [upd_same,hs.on] at hy;exact hy
 ·rw [upd_ne _ _ hyi] at hy;exact hy
theorem Bxl {x:Nat} (hx:x≠0) (hm:p'.mem=(q x).mem):hpW H (upd q x p')=hpW H q:=by
 funext y
 by_cases hy0:y=0
 ·subst hy0;rfl
 ·rw [Axu hy0,Axu hy0]
  by_cases hyx:y=x
  ·subst hyx;rw [upd_same];exact hm
  ·rw [upd_ne _ _ hyx]
theorem Aww {x z:Nat} (hv:p'.val=(q x).val):Aji (upd q x p') z=Aji q z:=Ako fun j _=>by
 by_cases hj:j=x
 ·subst hj;rw [upd_same];exact hv
 ·rw [upd_ne _ _ hj]
theorem Ak8 {x z:Nat} (hv:p'.num=(q x).num):cntW (upd q x p') z=cntW q z:=Ak7 fun j _=>by
 by_cases hj:j=x
 ·subst hj;rw [upd_same];exact hv
 ·rw [upd_ne _ _ hj]
theorem Bxq (h:∃p op,t[p]?=some op/\op.act=.close c/\op.g=k/\t.heard p/\∀i z,t[i]?=some z->z.g=k->i<=p) (hu:∀op∈u,op.g≠k) :
  ∃p op,(t++u)[p]?=some op/\op.act=.close c/\op.g=k/\(t++u).heard p/\∀i z,(t++u)[i]?=some z->z.g=k->i<=p:=by
 obtain ⟨pp,op,h1,h2,h3,h4,h5⟩:=h
 have hlt:=lt_size_of_getElem? h1
 refine ⟨pp,op,by rw [getElem?_append_old hlt];exact h1,h2,h3,(heard_old hlt).2 h4,fun j z hz hzg=>?_⟩
 rcases getElem?_append_cases hz with ⟨hi',hz'⟩ | ⟨_,hz'⟩
 ·exact h5 j z hz' hzg
 ·exact absurd hzg (hu z hz')
theorem Aw3.soft (h:Aw3 W γ H gs.size w t q Sh) (hs:Av1 (q (i+1)) p') (hu:∀op∈u,op.act.touch?=none) (hx:∀op∈u,op.g=i+1) (hgn:q (i+1)=.gone->u=#[]):Aw3 W γ H gs.size w (t++u) (upd q (i+1) p') Sh:=by
 cases γ with
 | idle=>exact Cx0 (fun p=>∃d,p=.off d) (hs.off (h _)) fun j _=>h j
 | busy c b ty n d L cz D=>
  obtain ⟨cl,r,st,sm,k,hB,hz⟩:=h
  have hub:∀y:Nat,∀op∈u,∀a,op.act.touch?=some a->Awz a.loc≠some y:=fun y op hop a ha=>by rw [hu op hop] at ha;cases ha
  refine ⟨cl,r,st,sm,k,⟨hB.chan,hB.wg,by rw [Bxl (by omega) hs.mem];exact hB.none,hB.sh,hB.ne,hB.high,by rw [Aww hs.val];exact hB.perm,hB.small,hB.lent,hB.synb.mute (hub b) hs.on_upd,hB.sync.mute (hub c) hs.on_upd⟩,?_⟩
  cases cz with
  | false=>
   obtain ⟨h1,h2,h3,h4,h5⟩:=hz
   exact ⟨h1,h2,h3,h4,Cx0 (fun p=>(∃d,p=.off d)∨∃K v,p=.work K v) (hs.work (h5 _)) fun j _=>h5 j⟩
  | true=>
   obtain ⟨rl,hC⟩:=hz
   refine ⟨rl,hC.lt,fun j hj=>?_,fun j s=>?_,?_,fun hg=>?_⟩
   ·by_cases hji:j=i+1
    ·subst hji;rw [upd_same];exact hs.mate (hC.oth _ hj)
    ·rw [upd_ne _ _ hji];exact hC.oth j hj
   ·by_cases hji:j=i+1
    ·subst hji;rw [upd_same];exact (hs.rel s).trans (hC.rels _ s)
    ·rw [upd_ne _ _ hji];exact hC.rels j s
   ·rw [Ak8 hs.num]
    by_cases hki:k=i+1
    ·subst hki;rw [upd_same];exact hs.sync _ _ _ _ _ hC.syn
    ·rw [upd_ne _ _ hki];exact hC.syn
   ·by_cases hki:k=i+1
    ·subst hki
     rw [upd_same] at hg
     have hq:=hs.gone hg
     exact Bxq (hC.shut hq) fun op hop=>by rw [hgn hq] at hop;simp at hop
    ·rw [upd_ne _ _ hki] at hg
     exact Bxq (hC.shut hg) fun op hop=>by rw [hx op hop];exact Ne.symm hki
theorem Bkq {x:Nat} (hu:∀ev∈es,(MemAct.ofEvent ev).touch?=none):∀op∈MemOp.ofEvents x fn pos es,op.act.touch?=none:=fun op hop=>by
 obtain ⟨ev,hev,rfl⟩:=Go.Conc.mem_ofEvents hop
 exact hu ev hev
theorem WI.softO (h:WI P W γ H gs w t μ e q Sh) (hρ:μ[i]?=some ρ) (hgs:Azv P γ q gs gs' (i+1)) (hg:gs'[i+1]?=some g') (hs:Av1 (q (i+1)) p') (hu:∀ev∈es,(MemAct.ofEvent ev).touch?=none) (hnr:Ajo es) (hgn:q (i+1)=.gone->es=#[])
  (ho:∀j a,touchAt (t++MemOp.ofEvents (i+1) fn pos es) j=some a->Bvj (t++MemOp.ofEvents (i+1) fn pos es) γ.blk (upd q (i+1) p') Sh j a)
  (hd:deafBehind (q (i+1)).deaf es=p'.deaf) (hr:(∃K,p'=.sema K)->g'.status=.running) (hn:OthW P γ.chan γ.blk γ.ty ρ' g' p'):WI P W γ H gs' w (t++MemOp.ofEvents (i+1) fn pos es) (μ.set i ρ') 1 (upd q (i+1) p') Sh:=by
 have hu':=Bkq (x:=i+1) (fn:=fn) (pos:=pos) hu
 have hmem:=Bxl (H:=H) (by omega:i+1≠0) hs.mem
 refine h.put hρ hgs hg hn (by rw [hmem];exact h.mates.mute hu' (Nat.le_refl _) fun _ _ _ _ _ _=>rfl) Avy ho hnr.ops (by rw [hmem];exact h.shun) h.base (fun M b o hM hb=>?_) ?_ (fun st hw j x M hj hq=>?_) (h.still.soft hs hu' Avy fun hq=>by rw [hgn hq];rfl)
 ·exact h.owns (i+1) M b o (by rw [Axu (by omega),<-hs.mem];exact hM) hb
 ·rw [Deaf_own,h.deaf _ (by omega),hd]
 ·by_cases hji:j=i+1
  ·subst hji
   rw [upd_same] at hq
   rw [hg] at hj
   cases hj
   exact hr ⟨_,hq⟩
  ·rw [upd_ne _ _ hji] at hq
   have hj0:j≠0:=fun e=>by subst e;rw [h.zero] at hq;cases hq
   obtain ⟨y,hy,_,hyr⟩:=hgs.oth j x hji hj0 hj
   exact hyr (h.wake j y M st hy hq hw)
theorem WI.soft (h:WI P W γ H gs w t μ e q Sh) (hρ:μ[i]?=some ρ) (hgs:Azv P γ q gs gs' (i+1)) (hg:gs'[i+1]?=some g') (hs:Av1 (q (i+1)) p') (hu:∀ev∈es,(MemAct.ofEvent ev).touch?=none) (hnr:Ajo es) (hgn:q (i+1)=.gone->es=#[])
  (he:(q (i+1)).early=true->p'.early=true) (hd:deafBehind (q (i+1)).deaf es=p'.deaf) (hr:(∃K,p'=.sema K)->g'.status=.running) (hn:OthW P γ.chan γ.blk γ.ty ρ' g' p'):WI P W γ H gs' w (t++MemOp.ofEvents (i+1) fn pos es) (μ.set i ρ') 1 (upd q (i+1) p') Sh:=
 h.softO hρ hgs hg hs hu hnr hgn (Av8 (x:=i+1) h.over (fun _ h=>h) Avy (Ajq PhW.pend hs.pend) (Ajq PhW.early he) (.inr (.inr fun j op a hop ha=>by rw [Bkq (x:=i+1) hu op (Array.mem_of_getElem? hop)] at ha;cases ha))) hd hr hn
theorem Avl {o:Obj} (hb:b<w.heap.size):(World.lay w b o).heap[b]?=some o:=by simp [World.lay,hb]
theorem Avv {o:Obj} {y:Nat} (h:y≠b):(World.lay w b o).heap[y]?=w.heap[y]?:=by
 show (w.heap.setIfInBounds b o)[y]?=_
 rw [Array.getElem?_setIfInBounds_ne (Ne.symm h)]
theorem lay_size {o:Obj}:(World.lay w b o).heap.size=w.heap.size:=by simp [World.lay]
theorem Ay1 {o:Obj} (h:w.heap[b]?=some o):World.lay w b o=w:=by
 have:w.heap.setIfInBounds b o=w.heap:=by
  apply Array.ext_getElem?
  intro j
  by_cases hj:b=j
  ·subst hj
   rw [Array.getElem?_setIfInBounds_self_of_lt (Array.getElem?_eq_some_iff.1 h).1,h]
  ·rw [Array.getElem?_setIfInBounds_ne hj]
 cases w
 simp only [World.lay] at *
 rw [this]
theorem WI.syncB {st' sm':Nat} {rl':Option (Nat×Nat)} (h:WI P W (.busy c b ty n d L true D) H gs w t μ e q Sh) (hB:Dxa W c b ty n L D H gs.size w t q Sh cl r st sm k)
  (hρ:μ[i]?=some ρ) (hgs:Azv P (.busy c b ty n d L true D) q gs gs' (i+1)) (hg:gs'[i+1]?=some g') (hn:OthW P c b ty ρ' g' p') (hx:(q (i+1)).on=true)
  (hu:Bvk b k (i+1) (MemOp.ofEvents (i+1) fn pos es)) (hnr:Ajo es) (he:(q (i+1)).early=true->p'.early=true) (hmem:p'.mem=(q (i+1)).mem) (hval:p'.val=(q (i+1)).val)
  (ho:p'.pend=true∨((q (i+1)).pend=false/\∀j op a,(MemOp.ofEvents (i+1) fn pos es)[j]?=some op->op.act.touch?=some a->a.kind=.atomic/\¬(t++MemOp.ofEvents (i+1) fn pos es).heard (t.size+j)))
  (hd:deafBehind (q (i+1)).deaf es=p'.deaf)
  (hwk:sm'=1->∀j x K,gs'[j]?=some x->upd q (i+1) p' j=.sema K->x.status=.running)
  (hC:CzW gs.size (t++MemOp.ofEvents (i+1) fn pos es) (upd q (i+1) p') c cl st' sm' k rl') :
  WI P W (.busy c b ty n d L true D) H gs' (World.lay w b (wgO ty st' sm')) (t++MemOp.ofEvents (i+1) fn pos es) (μ.set i ρ') 1 (upd q (i+1) p') Sh:=by
 have hmemE:=Bxl (H:=H) (by omega:i+1≠0) hmem
 have hbl:=lt_of_heap hB.wg
 obtain ⟨hm,hsy⟩:=h.mates.sync (w':=World.lay w b (wgO ty st' sm')) hB.synb (.inr hx) hu (fun y M hy=>(hB.none y M hy).2) hbl (by rw [lay_size];exact Nat.le_refl _) fun y hy=>Avv hy
 have hon:∀y,OnW (upd q (i+1) p') y->OnW q y:=fun y hy=>hy.imp id fun hy=>by
  by_cases hyi:y=i+1
  ·subst hyi;exact hx
  ·rwa [upd_ne _ _ hyi] at hy
 refine h.put hρ hgs hg hn (by rw [hmemE];exact hm) Avy ?_ hnr.ops (by rw [hmemE,lay_size];exact h.shun) (h.base.chan hB.high.2) (fun M b o hM hb=>?_) ?_ (fun s hw j x M hj hq=>?_)
  ⟨cl,r,st',sm',k,⟨?_,Avl hbl,by rw [hmemE];exact hB.none,hB.sh,hB.ne,hB.high,by rw [Aww hval];exact hB.perm,hB.small,hB.lent,hsy _ hon,hB.sync.mute (fun op hop a ha=>?_) hon⟩,rl',hC⟩
 ·refine Av8 (x:=i+1) h.over (fun _ h=>h) Avy (Ajq PhW.pend fun hy=>?_) (Ajq PhW.early he) (.inr ?_)
  ·rcases ho with ho | ⟨ho,_⟩
   ·exact ho
   ·rw [ho] at hy;cases hy
  ·rcases ho with ho | ⟨_,ho⟩
   ·left;rw [upd_same];exact ho
   ·right
    intro j op a hop ha
    obtain ⟨h1,h2⟩:=ho j op a hop ha
    exact ⟨h1,h2,b,((hu op (Array.mem_of_getElem? hop)).2 a ha).1,hB.sh⟩
 ·exact h.owns (i+1) M b o (by rw [Axu (by omega),<-hmem];exact hM) hb
 ·rw [Deaf_own,h.deaf _ (by omega),hd]
 ·have e1:(World.lay w b (wgO ty st' sm')).heap[b]?=some (wgO ty s 1):=hw
  rw [Avl hbl] at e1
  have:sm'=1:=by simp [wgO] at e1;omega
  exact hwk this j x M hj hq
 ·rw [Avv hB.ne];exact hB.chan
 ·have:=(hu op hop).2 a ha
  rw [this.1]
  exact fun e=>hB.ne (Option.some.inj e).symm
end
end Go.X
end
section
namespace Go.X
open Go
open Go.Conc
open Go.ConcN (upd upd_same upd_ne)
section
variable {P:Program} {W:World} {H H':Hp} {gs gs':Array Goroutine} {w w':World} {t u:Trace} {μ:List Rw} {e:Nat} {q:Nat->PhW} {Sh Sh':Nat->Prop} {i:Nat} {ρ ρ':Rw} {g':Goroutine} {p':PhW} {es:Array Event} {fn:FuncId} {pos:String}
variable {c b n d:Nat} {ty:TypeId} {L:List Value} {D:Nat->Prop} {cl:Bool} {r st sm k:Nat} {rl:Option (Nat×Nat)}
theorem Bq6 {x j:Nat} {op:MemOp} (hd:Deaf t x≠0) (hu:∀op∈u,op.g=x) (hm:∀op∈u,∀m,op.act≠.mark m) (h:u[j]?=some op):¬(t++u).heard (t.size+j):=by
 rintro ⟨g,h1,h2⟩
 have hlt:=(Array.getElem?_eq_some_iff.1 h).1
 have hg:g=x:=by
  rw [Trace.g?,Ak0 h] at h1
  exact (Option.some.inj h1).symm.trans (hu op (Array.mem_of_getElem? h))
 subst hg
 rw [Ayx hm j (by omega)] at h2
 exact hd h2
theorem Cqn {x j:Nat} {a:Addr} {op:MemOp} {z:Touch} (h:(MemOp.ofEvents x fn pos (semEvents a))[j]?=some op) (ht:op.act.touch?=some z):¬(t++MemOp.ofEvents x fn pos (semEvents a)).heard (t.size+j):=by
 rintro ⟨g,h1,h2⟩
 have hop:=Array.mem_of_getElem? h
 have hg:g=x:=by
  rw [Trace.g?,Ak0 h] at h1
  exact (Option.some.inj h1).symm.trans (Avy op hop)
 subst hg
 have hU:MemOp.ofEvents g fn pos (semEvents a)=#[{ g:=g,fn:=fn,pos:=pos,act:=.mark .disable },{ g:=g,fn:=fn,pos:=pos,act:=.access ⟨.cell a,false,true⟩ },{ g:=g,fn:=fn,pos:=pos,act:=.access ⟨.cell a,true,true⟩ },{ g:=g,fn:=fn,pos:=pos,act:=.mark .enable }]:=by rw [ofEvents_eq];simp [semEvents,MemAct.ofEvent]
 rw [hU] at h h2
 generalize hV:(#[{ g:=g,fn:=fn,pos:=pos,act:=.mark .disable },{ g:=g,fn:=fn,pos:=pos,act:=.access ⟨.cell a,false,true⟩ },{ g:=g,fn:=fn,pos:=pos,act:=.access ⟨.cell a,true,true⟩ },{ g:=g,fn:=fn,pos:=pos,act:=.mark .enable }]:Trace)=V at h h2
 have v0:V[0]?=some { g:=g,fn:=fn,pos:=pos,act:=.mark .disable }:=by rw [<-hV];rfl
 have v1:V[1]?=some { g:=g,fn:=fn,pos:=pos,act:=.access ⟨.cell a,false,true⟩ }:=by rw [<-hV];rfl
 have v3:V[3]?=some { g:=g,fn:=fn,pos:=pos,act:=.mark .enable }:=by rw [<-hV];rfl
 have d1:(t++V).deaf g (t.size+1)=Deaf t g+1:=by
  rw [deaf_succ (Ak0 v0),Nat.add_zero,deaf_old (Nat.le_refl _)]
  simp [deafStep,Deaf]
 have d2:(t++V).deaf g (t.size+2)=Deaf t g+1:=by
  rw [show t.size+2=(t.size+1)+1 by omega,deaf_succ (Ak0 v1),d1]
  simp [deafStep]
 have hj:j<4:=by have:=(Array.getElem?_eq_some_iff.1 h).1;rw [<-hV] at this;simpa using this
 rcases (by omega:j=0∨j=1∨j=2∨j=3) with rfl | rfl | rfl | rfl
 ·rw [v0] at h;cases h;cases ht
 ·rw [d1] at h2;omega
 ·rw [d2] at h2;omega
 ·rw [v3] at h;cases h;cases ht
def AtB (b:Nat) (es:Array Event):Prop:=∀ev∈es,∃a wr,ev=⟨.cell a,wr,true⟩/\a.block=b
theorem AtB.flat (h:AtB b es) {x:Nat}:∀op∈MemOp.ofEvents x fn pos es,∀m,op.act≠.mark m:=fun op hop m=>by
 obtain ⟨ev,hev,rfl⟩:=Go.Conc.mem_ofEvents hop
 obtain ⟨a,wr,rfl,_⟩:=h ev hev
 simp [MemAct.ofEvent]
theorem AtB.syops (h:AtB b es) {x:Nat}:Bvk b k x (MemOp.ofEvents x fn pos es):=fun op hop=>by
 obtain ⟨ev,hev,rfl⟩:=Go.Conc.mem_ofEvents hop
 obtain ⟨a,wr,rfl,hb⟩:=h ev hev
 refine ⟨rfl,fun z hz=>?_⟩
 have hz:some (⟨.cell a,wr,.atomic⟩:Touch)=some z:=hz
 cases hz
 exact ⟨by rw [<-hb];rfl,.inl rfl⟩
theorem AtB.kind (h:AtB b es) {x:Nat} {op:MemOp} {z:Touch} (hop:op∈MemOp.ofEvents x fn pos es) (hz:op.act.touch?=some z):z.kind=.atomic:=by
 obtain ⟨ev,hev,rfl⟩:=Go.Conc.mem_ofEvents hop
 obtain ⟨a,wr,rfl,hb⟩:=h ev hev
 have hz:some (⟨.cell a,wr,.atomic⟩:Touch)=some z:=hz
 cases hz
 rfl
theorem AtB.still (h:AtB b es) (dd:Nat):deafBehind dd es=dd:=deafBehind_still (fun ev he=>by
 obtain ⟨a,wr,rfl,_⟩:=h ev he
 exact ⟨by simp,by simp⟩) dd
theorem AtB.norel (h:AtB b es):Ajo es:=fun ev he a hl=>by
 obtain ⟨a',wr,rfl,_⟩:=h ev he
 cases hl
theorem Bwk {a:Addr}:Ajo (semEvents a):=fun ev he x hl=>by
 simp [semEvents] at he
 rcases he with rfl | rfl | rfl | rfl<;>cases hl
theorem AtB.rd:AtB b #[rdE (stW b)]:=fun ev h=>by simp at h;subst h;exact ⟨_,_,rfl,rfl⟩
theorem AtB.wr:AtB b #[wrE (stW b)]:=fun ev h=>by simp at h;subst h;exact ⟨_,_,rfl,rfl⟩
theorem AtB.rdwr:AtB b #[rdE (stW b),wrE (stW b)]:=fun ev h=>by simp at h;rcases h with rfl | rfl<;>exact ⟨_,_,rfl,rfl⟩
theorem Bwm {x:Nat}:Bvk b k x (MemOp.ofEvents x fn pos (semEvents (smW b))):=fun op hop=>by
 obtain ⟨ev,hev,rfl⟩:=Go.Conc.mem_ofEvents hop
 refine ⟨rfl,fun z hz=>?_⟩
 simp [semEvents] at hev
 rcases hev with rfl | rfl | rfl | rfl
 ·cases hz
 ·have hz:some (⟨.cell (smW b),false,.atomic⟩:Touch)=some z:=hz
  cases hz;exact ⟨rfl,.inl rfl⟩
 ·have hz:some (⟨.cell (smW b),true,.atomic⟩:Touch)=some z:=hz
  cases hz;exact ⟨rfl,.inl rfl⟩
 ·cases hz
theorem Dqv {x:Nat} {op:MemOp} {z:Touch} (hop:op∈MemOp.ofEvents x fn pos (semEvents (smW b))) (hz:op.act.touch?=some z):z.kind=.atomic:=by
 obtain ⟨ev,hev,rfl⟩:=Go.Conc.mem_ofEvents hop
 simp [semEvents] at hev
 rcases hev with rfl | rfl | rfl | rfl
 ·cases hz
 ·have hz:some (⟨.cell (smW b),false,.atomic⟩:Touch)=some z:=hz
  cases hz;rfl
 ·have hz:some (⟨.cell (smW b),true,.atomic⟩:Touch)=some z:=hz
  cases hz;rfl
 ·cases hz
theorem Bwl {a:Addr} (dd:Nat):deafBehind dd (semEvents a)=dd:=by simp [deafBehind,semEvents]
theorem WI.inside (h:WI P W (.busy c b ty n d L true D) H gs w t μ e q Sh) {x:Nat} (hx:q x≠.off 0):x<gs.size:=by
 rcases Nat.lt_or_ge x gs.size with h1 | h1
 ·exact h1
 ·exact absurd (h.out x h1) hx
theorem CzW.alter {sz:Nat} {st' sm':Nat} {rl':Option (Nat×Nat)} {x:Nat} (hC:CzW sz t q c cl st sm k rl) (hx:x≠k->p'.mate)
  (hr:∀s,p'=.rel s↔rl'=some (x,s)) (hr':∀j s,j≠x->(rl=some (j,s)↔rl'=some (j,s)))
  (hs:Bqz (upd q x p' k) (cntW (upd q x p') sz) rl' st' sm' cl) (hg:upd q x p' k=.gone->q k=.gone/\∀op∈u,op.g≠k):CzW sz (t++u) (upd q x p') c cl st' sm' k rl' where
 lt:=hC.lt
 oth:=fun j hj=>by
  by_cases hji:j=x
  ·subst hji;rw [upd_same];exact hx hj
  ·rw [upd_ne _ _ hji];exact hC.oth j hj
 rels:=fun j s=>by
  by_cases hji:j=x
  ·subst hji;rw [upd_same];exact hr s
  ·rw [upd_ne _ _ hji];exact (hC.rels j s).trans (hr' j s hji)
 syn:=hs
 shut:=fun h=>Bxq (hC.shut (hg h).1) (hg h).2
theorem WI.addW (h:WI P W (.busy c b ty n d L true D) H gs w t μ e q Sh) (hq:q (i+1)=.tail 1) (hρ:μ[i]?=some ρ):∃v wt,v<100/\wt<=1/\w.heap[b]?=some (wgO ty ((v+1)*KW+wt) 0) /\
  ∀gs' g' ρ' fn pos,Azv P (.busy c b ty n d L true D) q gs gs' (i+1)->gs'[i+1]?=some g' ->
   (v=0/\wt=1->OthW P c b ty ρ' g' (.rel 2)->WI P W (.busy c b ty n d L true D) H gs' (World.lay w b (wgO ty (v*KW+wt) 0)) (t++MemOp.ofEvents (i+1) fn pos #[rdE (stW b),wrE (stW b)]) (μ.set i ρ') 1 (upd q (i+1) (.rel 2)) Sh) /\
   (¬(v=0/\wt=1)->OthW P c b ty ρ' g' (.off 1)->WI P W (.busy c b ty n d L true D) H gs' (World.lay w b (wgO ty (v*KW+wt) 0)) (t++MemOp.ofEvents (i+1) fn pos #[rdE (stW b),wrE (stW b)]) (μ.set i ρ') 1 (upd q (i+1) (.off 1)) Sh):=by
 obtain ⟨cl,r,st,sm,k,hB,rl,hC⟩:=h.still
 have hlt:=h.inside (x:=i+1) (by rw [hq];simp)
 have hdf:Deaf t (i+1)≠0:=by rw [h.deaf _ (by omega),hq];simp [PhW.deaf]
 have hsyn:=hC.syn
 have hki:i+1≠k:=fun ek=>by rw [<-ek,hq] at hsyn;exact hsyn.elim
 have hcu:∀p',cntW (upd q (i+1) p') gs.size+1=cntW q gs.size+p'.num:=fun p'=>by
  have:=Awl (q:=q) (p:=p') hlt
  rw [hq] at this
  exact this
 have h1:1<=cntW q gs.size:=by have:=hcu (.off 0);simp only [PhW.num] at this;omega
 have hc0:∀p':PhW,p'.num=0->cntW (upd q (i+1) p') gs.size=cntW q gs.size-1:=fun p' hp=>by have:=hcu p';omega
 generalize hV:cntW q gs.size=V at *
 obtain ⟨v,rfl⟩:∃v,V=v+1:=⟨V-1,by omega⟩
 have hx:(q (i+1)).on=true:=by rw [hq];rfl
 have hmem:∀p':PhW,p'.mem=none->p'.mem=(q (i+1)).mem:=fun p' hp=>by rw [hq,hp];rfl
 have hval:∀p':PhW,p'.val=none->p'.val=(q (i+1)).val:=fun p' hp=>by rw [hq,hp];rfl
 have ho:∀(fn:FuncId) (pos:String) (j:Nat) op a,(MemOp.ofEvents (i+1) fn pos #[rdE (stW b),wrE (stW b)])[j]?=some op->op.act.touch?=some a->a.kind=.atomic/\¬(t++MemOp.ofEvents (i+1) fn pos #[rdE (stW b),wrE (stW b)]).heard (t.size+j):=fun fn pos j op a hop ha=>
  ⟨AtB.rdwr.kind (Array.mem_of_getElem? hop) ha,Bq6 hdf Avy AtB.rdwr.flat hop⟩
 have hdd:∀p':PhW,p'.deaf=1->deafBehind (q (i+1)).deaf #[rdE (stW b),wrE (stW b)]=p'.deaf:=fun p' hp=>by rw [AtB.rdwr.still,hq,hp];rfl
 have hgone:∀p':PhW,upd q (i+1) p' k=.gone->q k=.gone:=fun p' hg=>by rwa [upd_ne _ _ (Ne.symm hki)] at hg
 rcases hqk:q k with dd | _ | ⟨K,v'⟩ | dd | s | ⟨K,dd,m⟩ | K | K | ⟨K,dd⟩ | K | K
 ·rw [hqk] at hsyn;exact hsyn.elim
 ·rw [hqk] at hsyn;exact absurd hsyn.1 (by omega)
 ·rw [hqk] at hsyn;exact hsyn.elim
 ·rw [hqk] at hsyn;exact hsyn.elim
 ·rw [hqk] at hsyn;exact hsyn.elim
 ·rw [hqk] at hsyn
  obtain ⟨s1,s2,s3,s4,s5,s6⟩:=hsyn
  refine ⟨v,0,by omega,by omega,(by rw [hB.wg,s1,s2];simp),fun gs' g' ρ' fn pos hN hg=>⟨fun hh=>absurd hh.2 (by omega),fun _ hn=>?_⟩⟩
  refine h.syncB hB hρ hN hg hn hx AtB.rdwr.syops AtB.rdwr.norel (by rw [hq];simp [PhW.early]) (hmem _ rfl) (hval _ rfl) (.inr ⟨by rw [hq];rfl,ho fn pos⟩) (hdd _ rfl) (fun hh=>absurd hh (by omega)) (rl':=none)
   (hC.alter (fun _=>.inl ⟨_,rfl⟩) (by simp) (fun j s _=>by rw [s3]) ?_ fun hg'=>by rw [hgone _ hg'] at hqk;cases hqk)
  rw [upd_ne _ _ (Ne.symm hki),hqk,hc0 _ rfl]
  exact ⟨by simp,rfl,rfl,by omega,s5,s6⟩
 ·rw [hqk] at hsyn
  obtain ⟨s6,hsyn⟩:=hsyn
  rcases hsyn with ⟨s1,s2,s3,s4,s5⟩ | ⟨s1,_⟩ | ⟨s1,_⟩ | ⟨s1,_⟩
  ·refine ⟨v,1,by omega,by omega,by rw [hB.wg,s3,s4],fun gs' g' ρ' fn pos hN hg=>⟨fun hh hn=>?_,fun hh hn=>?_⟩⟩
   ·obtain ⟨rfl,_⟩:=hh
    refine h.syncB hB hρ hN hg hn hx AtB.rdwr.syops AtB.rdwr.norel (by rw [hq];simp [PhW.early]) (hmem _ rfl) (hval _ rfl) (.inr ⟨by rw [hq];rfl,ho fn pos⟩) (hdd _ rfl) (fun hh=>absurd hh (by omega)) (rl':=some (i+1,2))
     (hC.alter (fun _=>.inr (.inr (.inr (.inl ⟨_,rfl⟩)))) (fun s=>?_) (fun j s hj=>?_) ?_ fun hg'=>by rw [hgone _ hg'] at hqk;cases hqk)
    ·simp [eq_comm]
    ·rw [s5];simp;omega
    ·rw [upd_ne _ _ (Ne.symm hki),hqk,hc0 _ rfl]
     exact ⟨s6,.inr (.inl ⟨rfl,by simp,rfl,_,_,rfl,.inl rfl⟩)⟩
   ·refine h.syncB hB hρ hN hg hn hx AtB.rdwr.syops AtB.rdwr.norel (by rw [hq];simp [PhW.early]) (hmem _ rfl) (hval _ rfl) (.inr ⟨by rw [hq];rfl,ho fn pos⟩) (hdd _ rfl) (fun hh=>absurd hh (by omega)) (rl':=none)
     (hC.alter (fun _=>.inl ⟨_,rfl⟩) (by simp) (fun j s _=>by rw [s5]) ?_ fun hg'=>by rw [hgone _ hg'] at hqk;cases hqk)
    rw [upd_ne _ _ (Ne.symm hki),hqk,hc0 _ rfl]
    exact ⟨s6,.inl ⟨by omega,by omega,by simp,rfl,rfl⟩⟩
  ·omega
  ·omega
  ·omega
 ·rw [hqk] at hsyn;exact absurd hsyn.1 (by omega)
 ·rw [hqk] at hsyn;exact absurd hsyn.1 (by omega)
 ·rw [hqk] at hsyn;exact hsyn.elim
 ·rw [hqk] at hsyn;exact absurd hsyn.1 (by omega)
end
end Go.X
end
section
namespace Go.X
open Go
open Go.Conc
open Go.ConcN (upd upd_same upd_ne)
section
variable {P:Program} {W:World} {H H':Hp} {gs gs':Array Goroutine} {w w':World} {t u:Trace} {μ:List Rw} {e:Nat} {q:Nat->PhW} {Sh Sh':Nat->Prop} {i:Nat} {ρ ρ':Rw} {g':Goroutine} {p':PhW} {es:Array Event} {fn:FuncId} {pos:String}
variable {c b n d:Nat} {ty:TypeId} {L:List Value} {D:Nat->Prop} {cl:Bool} {r st sm k:Nat} {rl:Option (Nat×Nat)}
theorem Cxz {p:PhW} {v:Nat} {j s:Nat} (h:Bqz p v (some (j,s)) st sm cl):∃K,p=.sema K/\cl=false/\v=0/\sm=0/\((st=1/\(s=2∨s=1))∨(st=0/\s=0)):=by
 cases p with
 | sema K=>
  obtain ⟨h0,h⟩:=h
  rcases h with ⟨_,_,_,_,h⟩ | ⟨h1,h2,h3,j',s',h4,h5⟩ | ⟨h1,h2,h3,j',h4⟩ | ⟨_,_,_,h⟩
  ·cases h
  ·cases h4;exact ⟨K,rfl,h0,h1,h3,.inl ⟨h2,h5⟩⟩
  ·cases h4;exact ⟨K,rfl,h0,h1,h3,.inr ⟨h2,rfl⟩⟩
  ·cases h
 | wait K d m=>exact absurd h.2.2.1 (by simp)
 | woke K=>exact absurd h.2.2.2.1 (by simp)
 | shut K d=>exact absurd h.2.1 (by simp)
 | gone=>exact absurd h.2.1 (by simp)
 | off d=>exact h.elim
 | work K v=>exact h.elim
 | tail d=>exact h.elim
 | rel s=>exact h.elim
 | sent K=>exact h.elim
 | late K=>exact absurd h.2.1 (by simp)
def Cvp (p:PhW) (x:Nat):Option (Nat×Nat):=match p with
 | .rel s=>some (x,s)
 | _=>none
theorem WI.relW {s s' st' sm':Nat} (h:WI P W (.busy c b ty n d L true D) H gs w t μ e q Sh) (hq:q (i+1)=.rel s) (hρ:μ[i]?=some ρ) (hN:Azv P (.busy c b ty n d L true D) q gs gs' (i+1)) (hg:gs'[i+1]?=some g')
  (hn:OthW P c b ty ρ' g' p') (hp:(p'=.rel s'/\sm'=0/\((st'=1/\(s'=2∨s'=1))∨(st'=0/\s'=0)))∨(p'=.off 1/\st'=0/\sm'=1))
  (hes:AtB b es∨es=semEvents (smW b)) (hrun:sm'=1->∀j x K,gs'[j]?=some x->q j=.sema K->x.status=.running) :
  WI P W (.busy c b ty n d L true D) H gs' (World.lay w b (wgO ty st' sm')) (t++MemOp.ofEvents (i+1) fn pos es) (μ.set i ρ') 1 (upd q (i+1) p') Sh:=by
 obtain ⟨cl,r,st,sm,k,hB,rl,hC⟩:=h.still
 have hrl:=(hC.rels (i+1) s).1 hq
 subst hrl
 obtain ⟨K,hqk,h0,h1,h2,h3⟩:=Cxz hC.syn
 have hki:i+1≠k:=fun ek=>by rw [<-ek,hq] at hqk;cases hqk
 have hdf:Deaf t (i+1)≠0:=by rw [h.deaf _ (by omega),hq];simp [PhW.deaf]
 have hpn:p'.num=0/\p'.mem=none/\p'.val=none/\p'.deaf=1/\p'.mate:=by
  rcases hp with ⟨rfl,_⟩ | ⟨rfl,_⟩
  ·exact ⟨rfl,rfl,rfl,rfl,.inr (.inr (.inr (.inl ⟨_,rfl⟩)))⟩
  ·exact ⟨rfl,rfl,rfl,rfl,.inl ⟨_,rfl⟩⟩
 obtain ⟨p1,p2,p3,p4,p5⟩:=hpn
 have hcn:cntW (upd q (i+1) p') gs.size=cntW q gs.size:=Ak8 (by rw [p1,hq];rfl)
 refine h.syncB (es:=es) hB hρ hN hg hn (by rw [hq];rfl) ?_ (hes.elim (fun h=>h.norel) fun h=>by rw [h];exact Bwk) (by rw [hq];simp [PhW.early]) (by rw [p2,hq];rfl) (by rw [p3,hq];rfl) (.inr ⟨by rw [hq];rfl,fun j op a hop ha=>?_⟩) ?_ (fun hs j x K hj hqj=>?_) (rl':=Cvp p' (i+1))
  (hC.alter (fun _=>p5) (fun s₁=>?_) (fun j s₁ hj=>?_) ?_ fun hg'=>?_)
 ·rcases hes with hes | rfl
  ·exact hes.syops
  ·exact Bwm
 ·rcases hes with hes | rfl
  ·exact ⟨hes.kind (Array.mem_of_getElem? hop) ha,Bq6 hdf Avy hes.flat hop⟩
  ·exact ⟨Dqv (Array.mem_of_getElem? hop) ha,Cqn hop ha⟩
 ·rw [hq,p4]
  rcases hes with hes | rfl
  ·exact hes.still _
  ·exact Bwl _
 ·refine hrun hs j x K hj ?_
  by_cases hji:j=i+1
  ·subst hji
   rw [upd_same] at hqj
   rcases hp with ⟨rfl,_⟩ | ⟨rfl,_⟩<;>cases hqj
  ·rwa [upd_ne _ _ hji] at hqj
 ·rcases hp with ⟨rfl,_⟩ | ⟨rfl,_⟩
  ·simp [Cvp,eq_comm]
  ·simp [Cvp]
 ·rcases hp with ⟨rfl,_⟩ | ⟨rfl,_⟩
  ·simp [Cvp];omega
  ·simp [Cvp];omega
 ·rw [upd_ne _ _ (Ne.symm hki),hqk,hcn,h1]
  rcases hp with ⟨rfl,rfl,h4⟩ | ⟨rfl,rfl,rfl⟩
  ·rcases h4 with ⟨rfl,h4⟩ | ⟨rfl,rfl⟩
   ·exact ⟨h0,.inr (.inl ⟨rfl,rfl,rfl,_,_,rfl,h4⟩)⟩
   ·exact ⟨h0,.inr (.inr (.inl ⟨rfl,rfl,rfl,_,rfl⟩))⟩
  ·exact ⟨h0,.inr (.inr (.inr ⟨rfl,rfl,rfl,rfl⟩))⟩
 ·rw [upd_ne _ _ (Ne.symm hki),hqk] at hg'
  cases hg'
theorem WI.relAt {s:Nat} (h:WI P W (.busy c b ty n d L true D) H gs w t μ e q Sh) (hq:q (i+1)=.rel s):(s=0/\w.heap[b]?=some (wgO ty 0 0))∨((s=2∨s=1)/\w.heap[b]?=some (wgO ty 1 0)):=by
 obtain ⟨cl,r,st,sm,k,hB,rl,hC⟩:=h.still
 have hrl:=(hC.rels (i+1) s).1 hq
 subst hrl
 obtain ⟨K,hqk,h0,h1,h2,h3⟩:=Cxz hC.syn
 subst h2
 rcases h3 with ⟨rfl,h3⟩ | ⟨rfl,h3⟩
 ·exact .inr ⟨h3,hB.wg⟩
 ·exact .inl ⟨h3,hB.wg⟩
theorem WI.waitW {K:Hp} {st' sm':Nat} (h:WI P W (.busy c b ty n d L true D) H gs w t μ e q Sh) (hB:Dxa W c b ty n L D H gs.size w t q Sh cl r st sm k) (hC:CzW gs.size t q c cl st sm k rl) (hk:i+1=k) (hm:(q (i+1)).mem=some K) (hρ:μ[i]?=some ρ)
  (hN:Azv P (.busy c b ty n d L true D) q gs gs' (i+1)) (hg:gs'[i+1]?=some g') (hn:OthW P c b ty ρ' g' p') (hp:p'.mem=some K/\p'.pend=true/\p'.val=none/\p'.num=0/\p'≠.gone/\p'.early=true/\∀s,p'≠.rel s) (hqv:(q (i+1)).val=none/\(q (i+1)).num=0/\∀s,q (i+1)≠.rel s)
  (hu:Bvk b k (i+1) (MemOp.ofEvents (i+1) fn pos es)) (hnr:Ajo es) (hd:deafBehind (q (i+1)).deaf es=p'.deaf) (hr:sm'=1->(∃K,p'=.sema K)->g'.status=.running) (hs:Bqz p' (cntW q gs.size) rl st' sm' cl) :
  WI P W (.busy c b ty n d L true D) H gs' (World.lay w b (wgO ty st' sm')) (t++MemOp.ofEvents (i+1) fn pos es) (μ.set i ρ') 1 (upd q (i+1) p') Sh:=by
 obtain ⟨p1,p2,p3,p4,p5,p7,p6⟩:=hp
 obtain ⟨q1,q2,q3⟩:=hqv
 refine h.syncB hB hρ hN hg hn (Dkg hm) hu hnr (fun _=>p7) (p1.trans hm.symm) (p3.trans q1.symm) (.inl p2) hd (fun h1 j x K' hj hqj=>?_) (rl':=rl) (hC.alter (fun hx=>absurd hk hx) (fun s=>⟨fun e=>absurd e (p6 s),fun e=>absurd ((hC.rels _ s).2 e) (q3 s)⟩) (fun _ _ _=>.rfl) ?_ fun hg'=>?_)
 ·by_cases hji:j=i+1
  ·subst hji
   rw [upd_same] at hqj
   rw [hg] at hj
   cases hj
   exact hr h1 ⟨_,hqj⟩
  ·rw [upd_ne _ _ hji] at hqj
   have:=hC.oth j (by omega)
   rw [hqj] at this
   rcases this with ⟨_,h⟩ | ⟨_,_,h⟩ | ⟨_,h⟩ | ⟨_,h⟩ | ⟨_,h⟩<;>cases h
 ·rw [<-hk,upd_same,Ak8 (by rw [p4,q2])]
  exact hs
 ·rw [<-hk,upd_same] at hg'
  exact absurd hg' p5
theorem CzW.me (hC:CzW gs.size t q c cl st sm k rl) (h:¬(q (i+1)).mate):i+1=k:=by
 rcases Nat.decEq (i+1) k with hne | he
 ·exact absurd (hC.oth _ hne) h
 ·exact he
theorem WI.loadW {K:Hp} {m:Nat} (h:WI P W (.busy c b ty n d L true D) H gs w t μ e q Sh) (hq:q (i+1)=.wait K 1 m) (hρ:μ[i]?=some ρ):∃v,v<=m/\v<100/\m<100/\w.heap[b]?=some (wgO ty (v*KW) 0) /\
  ∀gs' g' ρ' fn pos,Azv P (.busy c b ty n d L true D) q gs gs' (i+1)->gs'[i+1]?=some g' ->
   (v=0->OthW P c b ty ρ' g' (.shut K 1)->WI P W (.busy c b ty n d L true D) H gs' w (t++MemOp.ofEvents (i+1) fn pos #[rdE (stW b)]) (μ.set i ρ') 1 (upd q (i+1) (.shut K 1)) Sh) /\
   (OthW P c b ty ρ' g' (.wait K 1 v)->WI P W (.busy c b ty n d L true D) H gs' w (t++MemOp.ofEvents (i+1) fn pos #[rdE (stW b)]) (μ.set i ρ') 1 (upd q (i+1) (.wait K 1 v)) Sh) /\
   (v=m->m≠0->OthW P c b ty ρ' g' (.sema K)->WI P W (.busy c b ty n d L true D) H gs' (World.lay w b (wgO ty (m*KW+1) 0)) (t++MemOp.ofEvents (i+1) fn pos #[rdE (stW b),wrE (stW b)]) (μ.set i ρ') 1 (upd q (i+1) (.sema K)) Sh):=by
 obtain ⟨cl,r,st,sm,k,hB,rl,hC⟩:=h.still
 have hk:=hC.me (i:=i) (by rw [hq];simp [PhW.mate])
 have hsyn:=hC.syn
 rw [<-hk,hq] at hsyn
 obtain ⟨s1,s2,s3,s4,s5,s6⟩:=hsyn
 have hw:=hB.wg
 rw [s1,s2] at hw
 refine ⟨cntW q gs.size,s4,by omega,s5,hw,fun gs' g' ρ' fn pos hN hg=>⟨fun hv hn=>?_,fun hn=>?_,fun hv hm0 hn=>?_⟩⟩
 ·have:=h.waitW (st':=cntW q gs.size*KW) (sm':=0) (fn:=fn) (pos:=pos) (es:=#[rdE (stW b)]) hB hC hk (by rw [hq];rfl) hρ hN hg hn ⟨rfl,rfl,rfl,rfl,by simp,rfl,by simp⟩ (by rw [hq];exact ⟨rfl,rfl,by simp⟩) AtB.rd.syops AtB.rd.norel (by rw [AtB.rd.still,hq];rfl) (by simp) ⟨hv,s3,s6⟩
  rwa [Ay1 hw] at this
 ·have:=h.waitW (st':=cntW q gs.size*KW) (sm':=0) (fn:=fn) (pos:=pos) (es:=#[rdE (stW b)]) hB hC hk (by rw [hq];rfl) hρ hN hg hn ⟨rfl,rfl,rfl,rfl,by simp,rfl,by simp⟩ (by rw [hq];exact ⟨rfl,rfl,by simp⟩) AtB.rd.syops AtB.rd.norel (by rw [AtB.rd.still,hq];rfl) (by simp) ⟨rfl,rfl,s3,Nat.le_refl _,by omega,s6⟩
  rwa [Ay1 hw] at this
 ·exact h.waitW hB hC hk (by rw [hq];rfl) hρ hN hg hn ⟨rfl,rfl,rfl,rfl,by simp,rfl,by simp⟩ (by rw [hq];exact ⟨rfl,rfl,by simp⟩) AtB.rdwr.syops AtB.rdwr.norel (by rw [AtB.rdwr.still,hq];rfl) (by simp) ⟨s6,.inl ⟨by omega,by omega,by rw [hv],rfl,s3⟩⟩
theorem WI.sayW {K:Hp} (h:WI P W (.busy c b ty n d L true D) H gs w t μ e q Sh) (hq:q (i+1)=.sema K) (hρ:μ[i]?=some ρ) (hN:Azv P (.busy c b ty n d L true D) q gs gs' (i+1)) (hg:gs'[i+1]?=some g') (hn:OthW P c b ty ρ' g' (.sema K)) (hr:g'.status=.running) :
  WI P W (.busy c b ty n d L true D) H gs' w (t++MemOp.ofEvents (i+1) fn pos #[mkE (.write (smW b))]) (μ.set i ρ') 1 (upd q (i+1) (.sema K)) Sh:=by
 obtain ⟨cl,r,st,sm,k,hB,rl,hC⟩:=h.still
 have hk:=hC.me (i:=i) (by rw [hq];simp [PhW.mate])
 have hsyn:=hC.syn
 rw [<-hk,hq] at hsyn
 have:=h.waitW (st':=st) (sm':=sm) (fn:=fn) (pos:=pos) (es:=#[mkE (.write (smW b))]) hB hC hk (by rw [hq];rfl) hρ hN hg hn ⟨rfl,rfl,rfl,rfl,by simp,rfl,by simp⟩ (by rw [hq];exact ⟨rfl,rfl,by simp⟩) (fun op hop=>by
   obtain ⟨ev,hev,rfl⟩:=Go.Conc.mem_ofEvents hop
   simp at hev
   subst hev
   refine ⟨rfl,fun z hz=>?_⟩
   have hz:some (⟨.cell (smW b),true,.said⟩:Touch)=some z:=hz
   cases hz
   exact ⟨rfl,.inr ⟨rfl,hk⟩⟩) (fun ev he a hl=>by simp at he;subst he;cases hl) (by rw [hq];simp [deafBehind,mkE]) (fun _ _=>hr) hsyn
 rwa [Ay1 hB.wg] at this
theorem WI.acqW {K:Hp} (h:WI P W (.busy c b ty n d L true D) H gs w t μ e q Sh) (hq:q (i+1)=.sema K) (hρ:μ[i]?=some ρ):(∃st,w.heap[b]?=some (wgO ty st 0))∨(w.heap[b]?=some (wgO ty 0 1) /\
  ∀gs' g' ρ' fn pos,Azv P (.busy c b ty n d L true D) q gs gs' (i+1)->gs'[i+1]?=some g'->OthW P c b ty ρ' g' (.woke K) ->
   WI P W (.busy c b ty n d L true D) H gs' (World.lay w b (wgO ty 0 0)) (t++MemOp.ofEvents (i+1) fn pos (semEvents (smW b))) (μ.set i ρ') 1 (upd q (i+1) (.woke K)) Sh):=by
 obtain ⟨cl,r,st,sm,k,hB,rl,hC⟩:=h.still
 have hk:=hC.me (i:=i) (by rw [hq];simp [PhW.mate])
 have hsyn:=hC.syn
 rw [<-hk,hq] at hsyn
 obtain ⟨h0,hsyn⟩:=hsyn
 rcases hsyn with ⟨_,_,_,s4,_⟩ | ⟨_,_,s4,_⟩ | ⟨_,_,s4,_⟩ | ⟨s1,s2,s3,s4⟩
 ·exact .inl ⟨st,by rw [hB.wg,s4]⟩
 ·exact .inl ⟨st,by rw [hB.wg,s4]⟩
 ·exact .inl ⟨st,by rw [hB.wg,s4]⟩
 ·refine .inr ⟨by rw [hB.wg,s2,s3],fun gs' g' ρ' fn pos hN hg hn=>?_⟩
  exact h.waitW hB hC hk (by rw [hq];rfl) hρ hN hg hn ⟨rfl,rfl,rfl,rfl,by simp,rfl,by simp⟩ (by rw [hq];exact ⟨rfl,rfl,by simp⟩) Bwm Bwk (by rw [Bwl,hq];rfl) (by simp) ⟨s1,rfl,rfl,s4,h0⟩
theorem WI.blockW {K:Hp} {g₁:Goroutine} (h:WI P W (.busy c b ty n d L true D) H gs w t μ e q Sh) (hq:q (i+1)=.sema K) (hρ:μ[i]?=some ρ) (hN:Azv P (.busy c b ty n d L true D) q gs gs' (i+1)) (hg:gs'[i+1]?=some g₁) (hn:OthW P c b ty ρ g₁ (.sema K)) (hs:g₁.status=.blocked)
  (h0:∃st,w.heap[b]?=some (wgO ty st 0)):WI P W (.busy c b ty n d L true D) H gs' w (t++MemOp.ofEvents (i+1) fn pos #[]) μ 0 q Sh:=by
 obtain ⟨cl,r,st,sm,k,hB,rl,hC⟩:=id h.still
 have hk:=hC.me (i:=i) (by rw [hq];simp [PhW.mate])
 have e0:MemOp.ofEvents (i+1) fn pos #[]=#[]:=rfl
 rw [e0,Array.append_empty]
 have hS:=h.still
 refine { h with size:=by rw [hN.size];exact h.size,oth:=fun j x hx=>?_,out:=fun j hj=>h.out j (by rw [<-hN.size];exact hj),flag:=fun _ j x K' hj hqj=>?_,wake:=fun j x K' s hj hqj hw=>?_,still:=by rw [hN.size];exact hS }
 ·by_cases hj:j=i
  ·subst hj;rw [hg] at hx;cases hx;exact ⟨ρ,hρ,by rw [hq];exact hn⟩
  ·obtain ⟨y,hy,ho',_⟩:=hN.oth (j+1) x (by omega) (by omega) hx
   obtain ⟨ρ₁,h1,h2⟩:=h.oth j y hy
   exact ⟨ρ₁,h1,ho' _ h2⟩
 ·by_cases hji:j=i+1
  ·subst hji;rw [hg] at hj;cases hj;exact hs
  ·have:=hC.oth j (by omega)
   rw [hqj] at this
   rcases this with ⟨_,h⟩ | ⟨_,_,h⟩ | ⟨_,h⟩ | ⟨_,h⟩ | ⟨_,h⟩<;>cases h
 ·obtain ⟨s0,hs0⟩:=h0
  have e1:w.heap[b]?=some (wgO ty s 1):=hw
  rw [hs0] at e1
  simp [wgO] at e1
theorem WI.oloadW {K:Hp} (h:WI P W (.busy c b ty n d L true D) H gs w t μ e q Sh) (hq:q (i+1)=.woke K) (hρ:μ[i]?=some ρ):w.heap[b]?=some (wgO ty 0 0) /\
  ∀gs' g' ρ' fn pos,Azv P (.busy c b ty n d L true D) q gs gs' (i+1)->gs'[i+1]?=some g'->OthW P c b ty ρ' g' (.shut K 1) ->
   WI P W (.busy c b ty n d L true D) H gs' w (t++MemOp.ofEvents (i+1) fn pos #[rdE (stW b)]) (μ.set i ρ') 1 (upd q (i+1) (.shut K 1)) Sh:=by
 obtain ⟨cl,r,st,sm,k,hB,rl,hC⟩:=h.still
 have hk:=hC.me (i:=i) (by rw [hq];simp [PhW.mate])
 have hsyn:=hC.syn
 rw [<-hk,hq] at hsyn
 obtain ⟨s1,s2,s3,s4,s5⟩:=hsyn
 have hw:=hB.wg
 rw [s2,s3] at hw
 refine ⟨hw,fun gs' g' ρ' fn pos hN hg hn=>?_⟩
 have:=h.waitW (st':=0) (sm':=0) (fn:=fn) (pos:=pos) (es:=#[rdE (stW b)]) hB hC hk (by rw [hq];rfl) hρ hN hg hn ⟨rfl,rfl,rfl,rfl,by simp,rfl,by simp⟩ (by rw [hq];exact ⟨rfl,rfl,by simp⟩) AtB.rd.syops AtB.rd.norel (by rw [AtB.rd.still,hq];rfl) (by simp) ⟨s1,s4,s5⟩
 rwa [Ay1 hw] at this
end
end Go.X
end
section
namespace Go.X
open Go
open Go.Conc
open Go.ConcN (upd upd_same upd_ne)
section
variable {P:Program} {W:World} {γ:GhW} {H H':Hp} {gs gs':Array Goroutine} {w w':World} {t u:Trace} {μ:List Rw} {e:Nat} {q:Nat->PhW} {Sh Sh':Nat->Prop} {i:Nat} {ρ ρ':Rw} {g':Goroutine} {p':PhW} {es:Array Event} {fn:FuncId} {pos:String}
variable {c b n d:Nat} {ty:TypeId} {L:List Value} {D:Nat->Prop} {cz cl:Bool} {r st sm k:Nat} {rl:Option (Nat×Nat)}
theorem Cxo {x:Nat} {M:Hp} (hp:p'.mem=none) (hi:i≠0) (h:hpW H (upd q i p') x=some M):hpW H q x=some M:=by
 by_cases hx0:x=0
 ·subst hx0;exact h
 ·rw [Axu hx0] at h ⊢
  by_cases hxi:x=i
  ·subst hxi;rw [upd_same,hp] at h;cases h
  ·rwa [upd_ne _ _ hxi] at h
theorem Azf.drop {hq hp:Nat->Option Hp} (h:Azf t w hp) (hl:∀y L,hq y=some L->hp y=some L):Azf t w hq:=h.less fun y L hy=>⟨L,hl y L hy,fun b p o hb=>⟨p,hb,id⟩⟩
theorem WI.closeW {K:Hp} (h:WI P W (.busy c b ty n d L true D) H gs w t μ e q Sh) (hq:q (i+1)=.late K) (hρ:μ[i]?=some ρ):∃r,w.heap[c]?=some (.chan 0 #[] false r r false) /\
  ∀gs' g' ρ' fn pos,Azv P (.busy c b ty n d L true D) q gs gs' (i+1)->gs'[i+1]?=some g'->OthW P c b ty ρ' g' .gone ->
   WI P W (.busy c b ty n d L true D) H gs' (World.lay w c (.chan 0 #[] true r r false)) (t++MemOp.ofEvents (i+1) fn pos (clE c)) (μ.set i ρ') 1 (upd q (i+1) .gone) Sh:=by
 obtain ⟨cl,r,st,sm,k,hB,rl,hC⟩:=h.still
 have hk:=hC.me (i:=i) (by rw [hq];simp [PhW.mate])
 have hsyn:=hC.syn
 rw [<-hk,hq] at hsyn
 obtain ⟨s1,s2,s3⟩:=hsyn
 subst s3 s2
 refine ⟨r,hB.chan,fun gs' g' ρ' fn pos hN hg hn=>?_⟩
 have hcl:=lt_of_heap hB.chan
 have hbl:=lt_of_heap hB.wg
 have hdr:∀x M,hpW H (upd q (i+1) .gone) x=some M->hpW H q x=some M:=fun x M hx=>Cxo rfl (by omega) hx
 have hU:MemOp.ofEvents (i+1) fn pos (clE c)=#[{ g:=i+1,fn:=fn,pos:=pos,act:=.access ⟨.obj c,false,true⟩ },{ g:=i+1,fn:=fn,pos:=pos,act:=.close c }]:=by rw [ofEvents_eq];simp [clE,MemAct.ofEvent]
 have hu:Bvk c k (i+1) (MemOp.ofEvents (i+1) fn pos (clE c)):=fun op hop=>by
  rw [hU] at hop
  simp at hop
  rcases hop with rfl | rfl
  ·refine ⟨rfl,fun z hz=>?_⟩
   have hz:some (⟨.obj c,false,.atomic⟩:Touch)=some z:=hz
   cases hz;exact ⟨rfl,.inl rfl⟩
  ·exact ⟨rfl,fun z hz=>by cases hz⟩
 have hfl:∀op∈MemOp.ofEvents (i+1) fn pos (clE c),∀m,op.act≠.mark m:=fun op hop m=>by
  rw [hU] at hop
  simp at hop
  rcases hop with rfl | rfl<;>simp
 have hon:∀y,OnW (upd q (i+1) .gone) y->OnW q y:=fun y hy=>hy.imp id fun hy=>by
  by_cases hyi:y=i+1
  ·subst hyi;rw [hq];rfl
  ·rwa [upd_ne _ _ hyi] at hy
 obtain ⟨hm,hsy⟩:=h.mates.sync (w':=World.lay w c (.chan 0 #[] true r r false)) hB.sync (.inr (by rw [hq];rfl)) hu (fun y M hy=>(hB.none y M hy).1) hcl (by rw [lay_size];exact Nat.le_refl _) fun y hy=>Avv hy
 have hv:=hU▸hm
 refine h.put hρ hN hg hn (hm.drop hdr) Avy ?_ (fun op hop a=>?_) (fun y hy=>?_) (h.base.chan hB.high.1) (fun M b o hM hb=>by cases hM) ?_ (fun s hw j x M hj hqj=>?_)
  ⟨true,r,st,sm,k,⟨Avl hcl,?_,fun x M hx=>hB.none x M (hdr x M hx),hB.sh,hB.ne,hB.high,by rw [Aww (by rw [hq];rfl)];exact hB.perm,hB.small,hB.lent,hB.synb.mute (fun op hop a ha=>?_) hon,hsy _ hon⟩,none,hC.lt,fun j hj=>?_,fun j s=>?_,?_,fun _=>?_⟩
 ·exact Av8 (x:=i+1) h.over (fun _ h=>h) Avy (Ajq PhW.pend fun _=>rfl) (Ajq PhW.early fun hy=>by rw [hq] at hy;cases hy) (.inr (.inl (by rw [upd_same];rfl)))
 ·exact fun he=>hfl op hop _ he
 ·rw [lay_size]
  exact ⟨(h.shun y hy).1,fun x M hx=>(h.shun y hy).2 x M (hdr x M hx)⟩
 ·rw [Akg hfl,h.deaf _ (by omega),hq];rfl
 ·by_cases hji:j=i+1
  ·subst hji;rw [upd_same] at hqj;cases hqj
  ·rw [upd_ne _ _ hji] at hqj
   have:=hC.oth j (by omega)
   rw [hqj] at this
   rcases this with ⟨_,h⟩ | ⟨_,_,h⟩ | ⟨_,h⟩ | ⟨_,h⟩ | ⟨_,h⟩<;>cases h
 ·rw [Avv (Ne.symm hB.ne)];exact hB.wg
 ·rw [((hu op hop).2 a ha).1]
  exact fun e=>hB.ne (Option.some.inj e)
 ·have hji:j≠i+1:=by omega
  rw [upd_ne _ _ hji];exact hC.oth j hj
 ·by_cases hji:j=i+1
  ·subst hji
   rw [upd_same]
   simp
  ·rw [upd_ne _ _ hji];exact hC.rels j s
 ·rw [<-hk,upd_same,Ak8 (by rw [hq];rfl)]
  exact ⟨s1,rfl,rfl⟩
 ·have v1:(MemOp.ofEvents (i+1) fn pos (clE c))[1]?=some { g:=i+1,fn:=fn,pos:=pos,act:=.close c }:=by rw [hU];rfl
  refine ⟨t.size+1,_,Ak0 v1,rfl,hk,heard_new v1 hfl (show Deaf t (i+1)=0 by rw [h.deaf (i+1) (by omega),hq];rfl),fun j z hz hzg=>?_⟩
  have hsz:(MemOp.ofEvents (i+1) fn pos (clE c)).size=2:=by rw [hU];rfl
  have hlt:=(Array.getElem?_eq_some_iff.1 hz).1
  rw [Array.size_append,hsz] at hlt
  omega
theorem WI.zero_put {γ':GhW} (h:WI P W γ H gs w t μ e q Sh) (hN:Azv P γ q gs gs' 0) (hγ:γ'.chan=γ.chan/\γ'.blk=γ.blk/\γ'.ty=γ.ty) (hm:Azf (t++u) w' (hpW H' q)) (hu:∀op∈u,op.g=0) (hnr:∀op∈u,∀a,op.act≠.mark (.release a))
  (hsh:∀y,Sh y->y<w'.heap.size/\∀x K,hpW H' q x=some K->K y=none) (hb:Base W w') (hown:∀b o,H' b=some (true,o)->W.heap.size<=b) (hd:Deaf (t++u) 0=γ'.deaf)
  (hwk:(∃j K,q j=.sema K)->∀st,w'.heap[γ.blk]?=some (wgO γ.ty st 1)->w.heap[γ.blk]?=some (wgO γ.ty st 1)) (hst:Aw3 W γ' H' gs.size w' (t++u) q Sh):WI P W γ' H' gs' w' (t++u) μ 1 q Sh where
 mates:=hm
 size:=by rw [hN.size,h.size]
 oth:=fun j x hx=>by
  obtain ⟨y,hy,ho',_⟩:=hN.oth (j+1) x (by omega) (by omega) hx
  obtain ⟨ρ₁,h1,h2⟩:=h.oth j y hy
  rw [hγ.1,hγ.2.1,hγ.2.2]
  exact ⟨ρ₁,h1,ho' _ h2⟩
 out:=fun j hj=>h.out j (by rw [<-hN.size];exact hj)
 zero:=h.zero
 over:=by rw [hγ.2.1];exact Av8 (x:=0) h.over (fun _ h=>h) hu (fun _ h=>h) (fun _ h=>h) (.inl rfl)
 norel:=h.norel.app hnr
 shun:=hsh
 base:=hb
 owns:=fun x K b o hx hb=>by
  by_cases hx0:x=0
  ·subst hx0;cases hx;exact hown b o hb
  ·exact h.owns x K b o (by rw [Axu hx0] at hx ⊢;exact hx) hb
 deaf:=fun x hx=>by rw [Deaf_other t (Ne.symm hx) u hu];exact h.deaf x hx
 deaf0:=hd
 flag:=fun h0=>by cases h0
 wake:=fun j x K st hj hq hw=>by
  rw [hγ.2.1,hγ.2.2] at hw
  have hj0:j≠0:=fun e=>by subst e;rw [h.zero] at hq;cases hq
  obtain ⟨y,hy,_,hyr⟩:=hN.oth j x hj0 hj0 hj
  exact hyr (h.wake j y K st hy hq (hwk ⟨j,K,hq⟩ st hw))
 still:=by rw [hN.size];exact hst
theorem WI.move0 (h:WI P W γ H gs w t μ e q Sh) (hN:Azv P γ q gs gs' 0) (hm:Moves H w es H' w'):WI P W γ H' gs' w' (t++MemOp.ofEvents 0 fn pos es) μ 1 q Sh:=by
 have hsh:∀y,Sh y->y<w'.heap.size/\∀x K,hpW H' q x=some K->K y=none:=fun y hy=>by
  obtain ⟨h1,h2⟩:=h.shun y hy
  refine ⟨Nat.lt_of_lt_of_le h1 hm.size,fun x K hx=>?_⟩
  by_cases hx0:x=0
  ·subst hx0;cases hx;exact Akb hm (h2 0 H rfl) h1
  ·exact h2 x K (by rw [Axu hx0] at hx ⊢;exact hx)
 refine h.zero_put hN ⟨rfl,rfl,rfl⟩ (by have:=h.mates.own (Cxq H q) hm (fn:=fn) (pos:=pos);rwa [Dqz] at this) Avy (Ajo.moves hm).ops hsh (h.base.moves (fun b o hb=>h.owns 0 H b o rfl hb) hm) (fun b o hb=>?_) (by rw [Deaf_own,Bzd hm];exact h.deaf0) (fun hsm st hw=>?_) ?_
 ·rcases hm.own b true o hb with ⟨o',ho',_⟩ | ⟨h1,_⟩
  ·exact h.owns 0 H b o' rfl ho'
  ·exact Nat.le_trans h.base.size h1
 ·have hS:=h.still
  cases γ with
  | idle=>
   obtain ⟨j,K,hj⟩:=hsm
   obtain ⟨dd,hd⟩:=hS j
   rw [hj] at hd;cases hd
  | busy c b ty n d L cz D=>
   obtain ⟨cl,r,st',sm,k,hB,_⟩:=hS
   have hb0:=(hB.none 0 H rfl).2
   rw [<-hw]
   exact (Azb hm hb0 (lt_of_heap hB.wg)).symm
 ·have hS:=h.still
  cases γ with
  | idle=>exact hS
  | busy c b ty n d L cz D=>
   obtain ⟨cl,r,st,sm,k,hB,hz⟩:=hS
   obtain ⟨hc0,hb0⟩:=hB.none 0 H rfl
   have hcl:=lt_of_heap hB.chan
   have hbl:=lt_of_heap hB.wg
   refine ⟨cl,r,st,sm,k,⟨by rw [Azb hm hc0 hcl];exact hB.chan,by rw [Azb hm hb0 hbl];exact hB.wg,fun x K hx=>?_,hB.sh,hB.ne,hB.high,hB.perm,hB.small,hB.lent,hB.synb.own hm hb0 hbl fun _ h=>h,hB.sync.own hm hc0 hcl fun _ h=>h⟩,?_⟩
   ·by_cases hx0:x=0
    ·subst hx0;cases hx;exact ⟨Akb hm hc0 hcl,Akb hm hb0 hbl⟩
    ·exact hB.none x K (by rw [Axu hx0] at hx ⊢;exact hx)
   ·cases cz with
    | false=>exact hz
    | true=>
     obtain ⟨rl,hC⟩:=hz
     refine ⟨rl,hC.lt,hC.oth,hC.rels,hC.syn,fun hg=>Bxq (hC.shut hg) fun op hop hk=>absurd (hk.symm.trans (Avy op hop)) (by have:=hC.lt.1;omega)⟩
end
end Go.X
end
section
namespace Go.X
open Go
open Go.Conc
open Go.ConcN (upd upd_same upd_ne)
section
variable {P:Program} {W:World} {γ:GhW} {H H' Hc:Hp} {gs gs':Array Goroutine} {w w':World} {t u:Trace} {μ:List Rw} {e:Nat} {q:Nat->PhW} {Sh Sh':Nat->Prop} {i:Nat} {ρ ρ':Rw} {g' child:Goroutine} {p':PhW} {es:Array Event} {fn f₁ f₂:FuncId} {pos p₁ p₂:String}
variable {c b n d:Nat} {ty:TypeId} {L:List Value} {D:Nat->Prop} {cz cl:Bool} {r st sm k:Nat} {rl:Option (Nat×Nat)} {v:Value}
theorem WI.mark0 (h:WI P W (.busy c b ty n d L false D) H gs w t μ e q Sh) (hN:Azv P (.busy c b ty n d L false D) q gs gs' 0) (hes:es=#[]∨es=#[mkE .disable]∨es=#[mkE .enable]∨es=#[mkE (.read (smW b))]) :
  WI P W (.busy c b ty n (deafBehind d es) L false D) H gs' w (t++MemOp.ofEvents 0 fn pos es) μ 1 q Sh:=by
 obtain ⟨cl,r,st,sm,k,hB,rfl,rfl,h3,h4,h5⟩:=h.still
 have hu:Bvk b 0 0 (MemOp.ofEvents 0 fn pos es):=fun op hop=>by
  obtain ⟨ev,hev,rfl⟩:=Go.Conc.mem_ofEvents hop
  refine ⟨rfl,fun z hz=>?_⟩
  rcases hes with rfl | rfl | rfl | rfl
  ·simp at hev
  ·simp at hev;subst hev;cases hz
  ·simp at hev;subst hev;cases hz
  ·simp at hev
   subst hev
   have hz:some (⟨.cell (smW b),false,.said⟩:Touch)=some z:=hz
   cases hz
   exact ⟨rfl,.inr ⟨rfl,rfl⟩⟩
 obtain ⟨hm,hsy⟩:=h.mates.sync (w':=w) hB.synb (.inl rfl) hu (fun y M hy=>(hB.none y M hy).2) (lt_of_heap hB.wg) (Nat.le_refl _) fun _ _=>rfl
 refine h.zero_put hN ⟨rfl,rfl,rfl⟩ hm Avy (Ajo.ops fun ev he a hl=>by rcases hes with rfl | rfl | rfl | rfl<;>simp at he<;>subst he<;>cases hl) h.shun h.base (fun b o hb=>h.owns 0 H b o rfl hb) (by rw [Deaf_own,h.deaf0];rfl) (fun _ _ hw=>hw)
  ⟨false,r,st,sm,0,⟨hB.chan,hB.wg,hB.none,hB.sh,hB.ne,hB.high,hB.perm,hB.small,hB.lent,hsy _ fun _ h=>h,hB.sync.mute (fun op hop a ha=>?_) fun _ h=>h⟩,rfl,rfl,h3,h4,h5⟩
 rw [((hu op hop).2 a ha).1]
 exact fun e=>hB.ne (Option.some.inj e).symm
theorem WI.addAt (h:WI P W (.busy c b ty n d L false D) H gs w t μ e q Sh):w.heap[b]?=some (wgO ty (n*KW) 0):=by
 obtain ⟨cl,r,st,sm,k,hB,rfl,rfl,h3,h4,h5⟩:=h.still
 rw [hB.wg,h3,h4]
theorem WI.add0 (h:WI P W (.busy c b ty n d L false D) H gs w t μ e q Sh) (hn:n<99) (hN:Azv P (.busy c b ty n d L false D) q gs gs' 0) :
  WI P W (.busy c b ty (n+1) d L false D) H gs' (World.lay w b (wgO ty ((n+1)*KW) 0)) (t++MemOp.ofEvents 0 fn pos #[rdE (stW b),wrE (stW b)]) μ 1 q Sh:=by
 obtain ⟨cl,r,st,sm,k,hB,rfl,rfl,h3,h4,h5⟩:=h.still
 have hbl:=lt_of_heap hB.wg
 have hu:Bvk b 0 0 (MemOp.ofEvents 0 fn pos #[rdE (stW b),wrE (stW b)]):=AtB.rdwr.syops
 obtain ⟨hm,hsy⟩:=h.mates.sync (w':=World.lay w b (wgO ty ((n+1)*KW) 0)) hB.synb (.inl rfl) hu (fun y M hy=>(hB.none y M hy).2) hbl (by rw [lay_size];exact Nat.le_refl _) fun y hy=>Avv hy
 refine h.zero_put hN ⟨rfl,rfl,rfl⟩ hm Avy AtB.rdwr.norel.ops (by rw [lay_size];exact h.shun) (h.base.chan hB.high.2) (fun b o hb=>h.owns 0 H b o rfl hb) (by rw [Deaf_own,AtB.rdwr.still];exact h.deaf0) (fun _ s hw=>?_)
  ⟨false,r,_,_,0,⟨by rw [Avv hB.ne];exact hB.chan,Avl hbl,hB.none,hB.sh,hB.ne,hB.high,hB.perm,by omega,hB.lent,hsy _ fun _ h=>h,hB.sync.mute (fun op hop a ha=>?_) fun _ h=>h⟩,rfl,rfl,rfl,rfl,h5⟩
 ·have e1:(World.lay w b (wgO ty ((n+1)*KW) 0)).heap[b]?=some (wgO ty s 1):=hw
  rw [Avl hbl] at e1
  simp [wgO] at e1
 ·rw [((hu op hop).2 a ha).1]
  exact fun e=>hB.ne (Option.some.inj e).symm
theorem WI.opn (h:WI P W .idle H gs w t μ e q Sh) (hc:H c=some (true,.chan 0 #[] false 0 0 false)) (hb:H b=some (true,wgO ty 0 0)) (hD:∀x,D x->∃o,H x=some (true,o)) :
  WI P W (.busy c b ty 0 0 [] false D) ((H.del c).del b) gs w t μ e q (fun y=>y=b∨Sh y):=by
 have hoff:∀i,∃d,q i=.off d:=h.still
 have hne:c≠b:=fun e=>by rw [e,hb] at hc;simp [wgO] at hc
 have hdel:∀x z,((H.del c).del b) x=some z->H x=some z:=fun x z hx=>by
  unfold Hp.del at hx
  split at hx
  ·cases hx
  ·split at hx
   ·cases hx
   ·exact hx
 have honly:∀x M,hpW ((H.del c).del b) q x=some M->x=0/\M=(H.del c).del b:=fun x M hx=>by
  by_cases hx0:x=0
  ·subst hx0;cases hx;exact ⟨rfl,rfl⟩
  ·obtain ⟨dd,hd⟩:=hoff x
   rw [Axu hx0,hd] at hx;cases hx
 have hon:∀x,OnW q x->x=0:=fun x hx=>hx.elim id fun hx=>by
  obtain ⟨dd,hd⟩:=hoff x
  rw [hd] at hx;cases hx
 have hsyn:∀y o,H y=some (true,o)->SynW t y 0 (OnW q):=fun y o hy j a ha hab=>by
  have:=h.mates.kn 0 H rfl y true o hy j a ha hab
  have hk:Knows t 0 j:=this.elim id fun hh=>by cases hh.1
  exact ⟨fun _ x hx=>by rw [hon x hx];exact hk,fun _=>hk⟩
 refine { mates:=h.mates.less fun y M hM=>?_,size:=h.size,oth:=fun j x hx=>?_,out:=h.out,zero:=h.zero,over:=fun j a ha=>?_,norel:=h.norel,shun:=fun y hy=>?_,base:=h.base,owns:=fun x K b' o hx hb'=>?_,deaf:=h.deaf,deaf0:=h.deaf0,flag:=h.flag,wake:=fun j x K st hj hqj _=>?_,still:=⟨false,0,0,0,0,⟨h.mates.sat 0 H rfl c true _ hc,h.mates.sat 0 H rfl b true _ hb,fun x M hx=>?_,.inl rfl,hne,⟨h.owns 0 H c _ rfl hc,h.owns 0 H b _ rfl hb⟩,?_,by omega,fun y hy=>let ⟨o,ho⟩:=hD y hy;h.owns 0 H y o rfl ho,hsyn b _ hb,hsyn c _ hc⟩,rfl,rfl,by simp,rfl,fun j=>.inl (hoff j)⟩ }
 ·obtain ⟨rfl,rfl⟩:=honly y M hM
  exact ⟨H,rfl,fun b p o hb=>⟨p,hdel _ _ hb,id⟩⟩
 ·obtain ⟨ρ₁,h1,h2⟩:=h.oth j x hx
  obtain ⟨dd,hd⟩:=hoff (j+1)
  exact ⟨ρ₁,h1,h2.any hd _ _ _⟩
 ·rcases h.over j a ha with hk | ⟨x,hx,_⟩ | ⟨h1,h2,y,h3,h4⟩ | ⟨_,x,hx⟩
  ·exact .inl hk
  ·obtain ⟨dd,hd⟩:=hoff x;rw [hd] at hx;cases hx
  ·exact .inr (.inr (.inl ⟨h1,h2,y,h3,.inr h4⟩))
  ·obtain ⟨dd,hd⟩:=hoff x;rw [hd] at hx;cases hx
 ·rcases hy with rfl | hy
  ·refine ⟨(h.mates.sat 0 H rfl).lt hb,fun x M hx=>?_⟩
   obtain ⟨rfl,rfl⟩:=honly x M hx
   exact Hp.del_same _ _
  ·refine ⟨(h.shun y hy).1,fun x M hx=>?_⟩
   obtain ⟨rfl,rfl⟩:=honly x M hx
   cases hl:((H.del c).del b) y with
   | none=>rfl
   | some z=>exact absurd (hdel _ _ hl) (by rw [(h.shun y hy).2 0 H rfl];simp)
 ·obtain ⟨rfl,rfl⟩:=honly x K hx
  exact h.owns 0 H b' o rfl (hdel _ _ hb')
 ·obtain ⟨dd,hd⟩:=hoff j
  rw [hd] at hqj;cases hqj
 ·obtain ⟨rfl,rfl⟩:=honly x M hx
  refine ⟨?_,Hp.del_same _ _⟩
  unfold Hp.del
  simp [hne]
 ·have:∀m,Aji q m=[]:=fun m=>by
   induction m with
   | zero=>rfl
   | succ m ih=>obtain ⟨dd,hd⟩:=hoff m;rw [Aji,ih,hd];rfl
  rw [this]
theorem Cxd:∀ {m:Nat},(∀i,(∃d,q i=.off d)∨∃K v,q i=.work K v)->cntW q m=(Aji q m).length
 | 0,_=>rfl
 | m+1,h=>by
  rw [cntW,Aji,List.length_append,Cxd h]
  rcases h m with ⟨d,hd⟩ | ⟨K,v,hd⟩<;>rw [hd]<;>rfl
theorem Cxp {x:Nat} {M:Hp} {y:Nat} (hy:y≠0) (hp:p'.mem=some Hc) (hx:hpW H' (upd q y p') x=some M):(x=y/\M=Hc)∨(x=0/\M=H')∨(x≠0/\hpW H q x=some M):=by
 by_cases hx0:x=0
 ·subst hx0;cases hx;exact .inr (.inl ⟨rfl,rfl⟩)
 ·rw [Axu hx0] at hx
  by_cases hxy:x=y
  ·subst hxy;rw [upd_same,hp] at hx;exact .inl ⟨rfl,(Option.some.inj hx).symm⟩
  ·rw [upd_ne _ _ hxy] at hx;exact .inr (.inr ⟨hx0,by rw [Axu hx0];exact hx⟩)
theorem WI.start {L':List Value} {cz':Bool} (h:WI P W (.busy c b ty n 0 L false D) H gs w t μ e q Sh) (h0:0<gs.size) (hc:∀b p o,Hc b=some (p,o)->p=false/\H' b=some (false,o)) (hH:∀b p o,H' b=some (p,o)->∃p',H b=some (p',o)/\(p=true->p'=true))
  (hn:OthW P c b ty ρ child p') (hp:(p'=.work Hc v/\L'=v::L/\cz'=false)∨(p'=.wait Hc 0 n/\L'=L/\cz'=true/\n=L.length)) :
  WI P W (.busy c b ty n 0 L' cz' D) H' ((gs.setIfInBounds 0 g').push child) w (t++#[{ g:=0,fn:=f₁,pos:=p₁,act:=.go gs.size },{ g:=gs.size,fn:=f₂,pos:=p₂,act:=.start }]) (μ++[ρ]) 1 (upd q gs.size p') Sh:=by
 obtain ⟨cl,r,st,sm,k,hB,rfl,rfl,h3,h4,h5⟩:=h.still
 generalize hU:(#[({ g:=0,fn:=f₁,pos:=p₁,act:=.go gs.size }:MemOp),{ g:=gs.size,fn:=f₂,pos:=p₂,act:=.start }]:Trace)=U
 have hus:∀op∈U,op.act.touch?=none:=fun op hop=>by rw [<-hU] at hop;simp at hop;rcases hop with rfl | rfl<;>rfl
 have hum:∀op∈U,∀m,op.act≠.mark m:=fun op hop m hm=>by rw [<-hU] at hop;simp at hop;rcases hop with rfl | rfl<;>cases hm
 have hqn:q gs.size=.off 0:=h.out _ (Nat.le_refl _)
 have hmem:p'.mem=some Hc:=by rcases hp with ⟨rfl,_⟩ | ⟨rfl,_⟩<;>rfl
 have hpd:p'.deaf=0:=by rcases hp with ⟨rfl,_⟩ | ⟨rfl,_⟩<;>rfl
 have hps:∀K,p'≠.sema K:=by rcases hp with ⟨rfl,_⟩ | ⟨rfl,_⟩<;>simp
 have h00:Deaf t 0=0:=h.deaf0
 have hm1:Azf t w (hpW H' q):=h.mates.less fun y M hM=>by
  by_cases hy0:y=0
  ·subst hy0;cases hM;exact ⟨H,rfl,hH⟩
  ·exact ⟨M,by rw [Axu hy0] at hM ⊢;exact hM,fun b p o hb=>⟨p,hb,id⟩⟩
 obtain ⟨hm2,hkn⟩:=hm1.spawn (n:=gs.size) (f₁:=f₁) (f₂:=f₂) (p₁:=p₁) (p₂:=p₂) (Hc:=Hc) (Cxq H' q) (by rw [Axu (by omega),hqn];rfl) (by omega) h00 (by rw [h.deaf _ (by omega),hqn];rfl) hc
 rw [hU] at hm2 hkn
 rw [<-hmem,Cwa _ _ (by omega)] at hm2
 have hle:∀y,Sh y∨y=c∨y=b->∀x M,hpW H' (upd q gs.size p') x=some M->M y=none:=fun y hy x M hx=>by
  have hn0:∀x M,hpW H q x=some M->M y=none:=fun x M hx=>by
   rcases hy with hy | rfl | rfl
   ·exact (h.shun y hy).2 x M hx
   ·exact (hB.none x M hx).1
   ·exact (hB.none x M hx).2
  have hH0:H' y=none:=by
   cases hl:H' y with
   | none=>rfl
   | some z=>obtain ⟨p,o⟩:=z;obtain ⟨p',h1,_⟩:=hH y p o hl;rw [hn0 0 H rfl] at h1;cases h1
  rcases Cxp (H:=H) (by omega) hmem hx with ⟨_,rfl⟩ | ⟨_,rfl⟩ | ⟨_,hx⟩
  ·cases hl:M y with
   | none=>rfl
   | some z=>obtain ⟨p,o⟩:=z;have:=(hc y p o hl).2;rw [hH0] at this;cases this
  ·exact hH0
  ·exact hn0 x M hx
 have hA:∀x,OnW (upd q gs.size p') x->∃y,OnW q y/\∀i,Knows t y i->Knows (t++U) x i:=fun x hx=>by
  by_cases hxn:x=gs.size
  ·subst hxn;exact ⟨0,.inl rfl,hkn⟩
  ·refine ⟨x,hx.imp id fun hx=>by rwa [upd_ne _ _ hxn] at hx,fun i hi=>hi.app _⟩
 have hsz:((gs.setIfInBounds 0 g').push child).size=gs.size+1:=by simp
 have hK:∀k',(k'=0∨k'=gs.size)->∀i,Knows t 0 i->Knows (t++U) k' i:=fun k' hk' i hi=>by
  rcases hk' with rfl | rfl
  ·exact hi.app _
  ·exact hkn i hi
 refine { mates:=hm2,size:=by rw [hsz,h.size];simp,oth:=fun j y hy=>?_,out:=fun j hj=>?_,zero:=by rw [upd_ne _ _ (by omega)];exact h.zero,over:=fun j a ha=>?_,norel:=h.norel.app fun op hop a=>hum op hop _,shun:=fun y hy=>⟨(h.shun y hy).1,hle y (.inl hy)⟩,base:=h.base,owns:=fun x K b' o hx hb'=>?_,deaf:=fun x hx=>?_,deaf0:=?_,flag:=fun h1=>(by cases h1),wake:=fun j x K s hj hqj hw=>?_,still:=?_ }
 ·rw [Array.getElem?_push] at hy
  have hss:(gs.setIfInBounds 0 g').size=gs.size:=by simp
  split at hy
  ·rename_i hjs
   rw [hss] at hjs
   cases hy
   refine ⟨ρ,?_,by rw [hjs,upd_same];exact hn⟩
   have:j=μ.length:=by have:=h.size;omega
   subst this;simp
  ·rename_i hjs
   rw [hss] at hjs
   rw [Array.getElem?_setIfInBounds_ne (by omega)] at hy
   obtain ⟨ρ₁,h1,h2⟩:=h.oth j y hy
   refine ⟨ρ₁,?_,by rw [upd_ne _ _ hjs];exact h2⟩
   rw [List.getElem?_append_left (List.getElem?_eq_some_iff.1 h1).1];exact h1
 ·rw [hsz] at hj
  rw [upd_ne _ _ (by omega)];exact h.out j (by omega)
 ·rcases touchAt_new ha with ⟨hj,ha'⟩ | ⟨_,op,hop,_,hoa⟩
  ·exact (h.over j a ha').app U hj (fun _ h=>h) (Ajq PhW.pend fun hh=>by rw [hqn] at hh;cases hh) (Ajq PhW.early fun hh=>by rw [hqn] at hh;cases hh)
  ·rw [hus op hop] at hoa;cases hoa
 ·rcases Cxp (H:=H) (by omega) hmem hx with ⟨_,rfl⟩ | ⟨_,rfl⟩ | ⟨_,hx⟩
  ·exact absurd (hc b' true o hb').1 (by simp)
  ·obtain ⟨p1,h1,h2⟩:=hH b' true o hb'
   rw [h2 rfl] at h1
   exact h.owns 0 H b' o rfl h1
  ·exact h.owns x K b' o hx hb'
 ·rw [Akg hum]
  by_cases hxn:x=gs.size
  ·subst hxn;rw [upd_same,hpd,h.deaf _ hx,hqn];rfl
  ·rw [upd_ne _ _ hxn];exact h.deaf x hx
 ·rw [Akg hum];exact h.deaf0
 ·have hjn:j≠gs.size:=fun e=>by subst e;rw [upd_same] at hqj;exact hps K hqj
  rw [upd_ne _ _ hjn] at hqj
  rcases h5 j with ⟨dd,hd⟩ | ⟨K',v',hd⟩<;>rw [hd] at hqj<;>cases hqj
 ·rw [hsz]
  have hval:Aji (upd q gs.size p') (gs.size+1)=Aji q gs.size++p'.val.toList:=by
   rw [Aji,upd_same,Ako fun i hi=>by rw [upd_ne _ _ (by omega)]]
  have hcnt:cntW (upd q gs.size p') (gs.size+1)=cntW q gs.size+p'.num:=by
   rw [cntW,upd_same,Ak7 fun i hi=>by rw [upd_ne _ _ (by omega)]]
  rcases hp with ⟨rfl,rfl,rfl⟩ | ⟨rfl,rfl,rfl,hl⟩
  ·refine ⟨false,r,st,sm,0,⟨hB.chan,hB.wg,fun x M hx=>⟨hle c (.inr (.inl rfl)) x M hx,hle b (.inr (.inr rfl)) x M hx⟩,hB.sh,hB.ne,hB.high,?_,hB.small,hB.lent,hB.synb.to hus (hK 0 (.inl rfl)) hA,hB.sync.to hus (hK 0 (.inl rfl)) hA⟩,rfl,rfl,h3,h4,
    Cx0 (fun p=>(∃d,p=.off d)∨∃K v,p=.work K v) (.inr ⟨_,_,rfl⟩) fun j _=>h5 j⟩
   rw [hval]
   exact (hB.perm.cons v).trans (List.perm_append_comm (l₁:=[v]) (l₂:=Aji q gs.size))
  ·refine ⟨false,r,st,sm,gs.size,⟨hB.chan,hB.wg,fun x M hx=>⟨hle c (.inr (.inl rfl)) x M hx,hle b (.inr (.inr rfl)) x M hx⟩,hB.sh,hB.ne,hB.high,?_,hB.small,hB.lent,hB.synb.to hus (hK _ (.inr rfl)) hA,hB.sync.to hus (hK _ (.inr rfl)) hA⟩,none,
    ⟨by omega,by omega⟩,fun j hj=>?_,fun j s=>?_,?_,fun hg=>by rw [upd_same] at hg;cases hg⟩
   ·rw [hval];simpa [PhW.val] using hB.perm
   ·rw [upd_ne _ _ hj]
    rcases h5 j with ⟨dd,hd⟩ | ⟨K,v',hd⟩<;>rw [hd]
    ·exact .inl ⟨_,rfl⟩
    ·exact .inr (.inl ⟨_,_,rfl⟩)
   ·by_cases hj:j=gs.size
    ·subst hj;rw [upd_same];simp
    ·rw [upd_ne _ _ hj]
     rcases h5 j with ⟨dd,hd⟩ | ⟨K,v',hd⟩<;>rw [hd]<;>simp
   ·rw [upd_same,hcnt,Cxd h5,<-hB.perm.length_eq,<-hl]
    exact ⟨h3,h4,rfl,Nat.le_refl _,hB.small,rfl⟩
end
end Go.X
end
