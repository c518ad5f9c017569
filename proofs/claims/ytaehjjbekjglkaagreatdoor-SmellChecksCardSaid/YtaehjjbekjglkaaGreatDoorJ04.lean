/- Texts WComm WRel WRun WEnds. -/
import Derived.Test.YtaehjjbekjglkaaGreatDoorJ03
set_option linter.defProp false
set_option linter.unusedSimpArgs false
set_option linter.unusedVariables false
set_option maxRecDepth 100000
set_option maxHeartbeats 2000000
section
namespace Go.X
open Go
open Go.Conc
open Go.ConcN (upd upd_same upd_ne)
section
variable {P:Program} {W:World} {γ:GhW} {H H' Hc:Hp} {gs gs':Array Goroutine} {w w':World} {t u:Trace} {μ:List Rw} {e:Nat} {q:Nat->PhW} {Sh Sh':Nat->Prop} {i:Nat} {ρ ρ':Rw} {g' child:Goroutine} {p':PhW} {es:Array Event} {fn f₁ f₂:FuncId} {pos p₁ p₂:String}
variable {c b n d:Nat} {ty:TypeId} {L:List Value} {D:Nat->Prop} {cz cl:Bool} {r st sm k:Nat} {rl:Option (Nat×Nat)} {v:Value}
theorem WI.meetW {K:Hp} (h:WI P W (.busy c b ty n 0 L true D) H gs w t μ e q Sh) (hq:q (i+1)=.work K v) (hρ:μ[i]?=some ρ):∃r L',w.heap[c]?=some (.chan 0 #[] false r r false)/\L.Perm (v::L') /\
  ∀gs' g' ρ' f₁ f₂ p₁ p₂,Azv P (.busy c b ty n 0 L true D) q gs gs' (i+1)->gs'[i+1]?=some g'->OthW P c b ty ρ' g' (.sent K) ->
   WI P W (.busy c b ty n 0 L' true D) H gs' (w.setChan c 0 #[] false (r+1) (r+1) false)
    (t++#[{ g:=i+1,fn:=f₁,pos:=p₁,act:=.send c r },{ g:=0,fn:=f₂,pos:=p₂,act:=.recv c r 0 },{ g:=i+1,fn:=f₁,pos:=p₁,act:=.sendDone c r },{ g:=0,fn:=f₂,pos:=p₂,act:=.recvDone c r }]) (μ.set i ρ') 1 (upd q (i+1) (.sent K)) Sh:=by
 obtain ⟨cl,r,st,sm,k,hB,rl,hC⟩:=h.still
 have hlt:=h.inside (x:=i+1) (by rw [hq];simp)
 have hsyn:=hC.syn
 have hki:i+1≠k:=fun ek=>by rw [<-ek,hq] at hsyn;exact hsyn.elim
 have hcnt:cntW (upd q (i+1) (.sent K)) gs.size=cntW q gs.size:=Ak8 (by rw [hq];rfl)
 have h1:1<=cntW q gs.size:=by
  have:=Awl (q:=q) (p:=.off 0) hlt
  rw [hq] at this
  simp only [PhW.num] at this
  omega
 have hcl:cl=false:=by
  cases hqk:q k<;>rw [hqk] at hsyn<;>first | exact hsyn.elim | skip
  ·exact absurd hsyn.1 (by omega)
  ·exact hsyn.2.2.2.2.2
  ·exact hsyn.1
  ·exact absurd hsyn.1 (by omega)
  ·exact absurd hsyn.1 (by omega)
  ·exact absurd hsyn.1 (by omega)
 subst hcl
 have hp:L.Perm (v::Aji (upd q (i+1) (.sent K)) gs.size):=hB.perm.trans (Bwu (by rw [hq];rfl) rfl hlt)
 refine ⟨r,_,hB.chan,hp,fun gs' g' ρ' f₁ f₂ p₁ p₂ hN hg hn=>?_⟩
 generalize hU:(#[({ g:=i+1,fn:=f₁,pos:=p₁,act:=.send c r }:MemOp),{ g:=0,fn:=f₂,pos:=p₂,act:=.recv c r 0 },{ g:=i+1,fn:=f₁,pos:=p₁,act:=.sendDone c r },{ g:=0,fn:=f₂,pos:=p₂,act:=.recvDone c r }]:Trace)=U
 have hus:∀op∈U,op.act.touch?=none:=fun op hop=>by rw [<-hU] at hop;simp at hop;rcases hop with rfl | rfl | rfl | rfl<;>rfl
 have hum:∀op∈U,∀m,op.act≠.mark m:=fun op hop m hm=>by rw [<-hU] at hop;simp at hop;rcases hop with rfl | rfl | rfl | rfl<;>cases hm
 have u0:U[0]?=some { g:=i+1,fn:=f₁,pos:=p₁,act:=.send c r }:=by rw [<-hU];rfl
 have u3:U[3]?=some { g:=0,fn:=f₂,pos:=p₂,act:=.recvDone c r }:=by rw [<-hU];rfl
 have hcb:=lt_of_heap hB.chan
 have hsm:hpW H (upd q (i+1) (.sent K))=hpW H q:=Bxl (by omega) (by rw [hq];rfl)
 have hdr:∀x M,hpW H (upd q (i+1) (.sent K)) x=some M->hpW H q x=some M:=fun x M hx=>by rwa [hsm] at hx
 have hon:∀y,OnW (upd q (i+1) (.sent K)) y->OnW q y:=fun y hy=>hy.imp id fun hy=>by
  by_cases hyi:y=i+1
  ·subst hyi;rw [hq];rfl
  ·rwa [upd_ne _ _ hyi] at hy
 have hd1:Deaf t (i+1)=0:=by rw [h.deaf _ (by omega),hq];rfl
 have hd0:Deaf t 0=0:=h.deaf0
 have hub:∀y:Nat,∀op∈U,∀a,op.act.touch?=some a->Awz a.loc≠some y:=fun y op hop a ha=>by rw [hus op hop] at ha;cases ha
 have hm1:Azf (t++U) (w.setChan c 0 #[] false (r+1) (r+1) false) (hpW H q):=h.mates.mute hus (by simp [World.setChan]) fun y M b' z hy hb'=>by
  have:b'≠c:=fun e=>by rw [e,(hB.none y M hy).1] at hb';cases hb'
  show (w.heap.setIfInBounds c _)[b']?=_
  rw [Array.getElem?_setIfInBounds_ne (Ne.symm this)]
 have hS:Aw3 W (.busy c b ty n 0 (Aji (upd q (i+1) (.sent K)) gs.size) true D) H gs.size (w.setChan c 0 #[] false (r+1) (r+1) false) (t++U) (upd q (i+1) (.sent K)) Sh:=by
  refine ⟨false,r+1,st,sm,k,⟨?_,?_,fun x M hx=>hB.none x M (hdr x M hx),hB.sh,hB.ne,hB.high,List.Perm.refl _,hB.small,hB.lent,hB.synb.mute (hub b) hon,hB.sync.mute (hub c) hon⟩,rl,
   hC.alter (fun _=>.inr (.inr (.inr (.inr ⟨_,rfl⟩)))) (fun s=>⟨fun e=>(by cases e),fun e=>(by have:=(hC.rels _ s).2 e;rw [hq] at this;cases this)⟩) (fun _ _ _=>.rfl) (by rw [upd_ne _ _ (Ne.symm hki),hcnt];exact hsyn) fun hg'=>⟨by rwa [upd_ne _ _ (Ne.symm hki)] at hg',fun op hop=>by
    have hk0:=hC.lt.1
    rw [<-hU] at hop
    simp at hop
    rcases hop with rfl | rfl | rfl | rfl
    ·exact hki
    ·exact fun e=>absurd (show (0:Nat)=k from e) (by omega)
    ·exact hki
    ·exact fun e=>absurd (show (0:Nat)=k from e) (by omega)⟩⟩
  ·show (w.heap.setIfInBounds c _)[c]?=_
   rw [Array.getElem?_setIfInBounds_self_of_lt hcb]
  ·show (w.heap.setIfInBounds c _)[b]?=_
   rw [Array.getElem?_setIfInBounds_ne hB.ne];exact hB.wg
 refine { mates:=hm1.drop hdr,size:=by rw [hN.size,h.size];simp,oth:=fun j x hx=>?_,out:=fun j hj=>?_,zero:=by rw [upd_ne _ _ (by omega)];exact h.zero,over:=fun j a ha=>?_,norel:=h.norel.app fun op hop a=>hum op hop _,shun:=fun y hy=>⟨by simpa [World.setChan] using (h.shun y hy).1,fun x M hx=>(h.shun y hy).2 x M (hdr x M hx)⟩,base:=h.base.chan hB.high.1,owns:=fun x K b' o hx hb'=>h.owns x K b' o (hdr x K hx) hb',deaf:=fun x hx=>?_,deaf0:=?_,flag:=fun h1=>(by cases h1),wake:=fun j x K s hj hqj hw=>?_,still:=by rw [hN.size];exact hS }
 ·have hl:=(List.getElem?_eq_some_iff.1 hρ).1
  by_cases hj:j=i
  ·subst hj;rw [hg] at hx;cases hx;exact ⟨ρ',by simp [hl],by rw [upd_same];exact hn⟩
  ·obtain ⟨y,hy,ho',_⟩:=hN.oth (j+1) x (by omega) (by omega) hx
   obtain ⟨ρ₁,h1,h2⟩:=h.oth j y hy
   exact ⟨ρ₁,by rw [List.getElem?_set_ne (Ne.symm hj)];exact h1,by rw [upd_ne _ _ (by omega)];exact ho' _ h2⟩
 ·rw [hN.size] at hj
  rw [upd_ne _ _ (by omega)];exact h.out j hj
 ·rcases touchAt_new ha with ⟨hj,ha'⟩ | ⟨_,op,hop,_,hoa⟩
  ·exact (h.over j a ha').app U hj (fun _ h=>h) (Ajq PhW.pend fun _=>rfl) (Ajq PhW.early fun hh=>by rw [hq] at hh;cases hh)
  ·rw [hus op hop] at hoa;cases hoa
 ·rw [Akg hum]
  by_cases hxi:x=i+1
  ·subst hxi;rw [upd_same,hd1];rfl
  ·rw [upd_ne _ _ hxi];exact h.deaf x hx
 ·rw [Akg hum];exact h.deaf0
 ·have hji:j≠i+1:=fun e=>by subst e;rw [upd_same] at hqj;cases hqj
  rw [upd_ne _ _ hji] at hqj
  have hj0:j≠0:=fun e=>by subst e;rw [h.zero] at hqj;cases hqj
  obtain ⟨y,hy,_,hyr⟩:=hN.oth j x hji hj0 hj
  refine hyr (h.wake j y K s hy hqj ?_)
  have hw2:(w.heap.setIfInBounds c (.chan 0 #[] false (r+1) (r+1) false))[b]?=some (wgO ty s 1):=hw
  rw [Array.getElem?_setIfInBounds_ne hB.ne] at hw2
  exact hw2
theorem WI.openW (h:WI P W (.busy c b ty n d L true D) H gs w t μ e q Sh):∃cl r,w.heap[c]?=some (.chan 0 #[] cl r r false)/\(cl=true->L=[]/\∀j,(∃d,q j=.off d)∨q j=.gone):=by
 obtain ⟨cl,r,st,sm,k,hB,rl,hC⟩:=h.still
 refine ⟨cl,r,hB.chan,fun hcl=>?_⟩
 subst hcl
 have hsyn:=hC.syn
 have hgone:q k=.gone/\cntW q gs.size=0/\rl=none:=by
  cases hqk:q k<;>rw [hqk] at hsyn<;>first | exact hsyn.elim | skip
  ·exact ⟨rfl,hsyn.1,hsyn.2.1⟩
  ·exact absurd hsyn.2.2.2.2.2 (by simp)
  ·exact absurd hsyn.1 (by simp)
  ·exact absurd hsyn.2.2.2.2 (by simp)
  ·exact absurd hsyn.2.2 (by simp)
  ·exact absurd hsyn.2.2 (by simp)
 obtain ⟨h1,h2,h3⟩:=hgone
 have hno:∀j,(q j).num=0:=fun j=>by
  by_cases hj:j<gs.size
  ·have:cntW (upd q j (.off 0)) gs.size+(q j).num=cntW q gs.size+0:=Awl hj
   omega
  ·rw [h.out j (by omega)];rfl
 have hall:∀j,(∃d,q j=.off d)∨q j=.gone:=fun j=>by
  by_cases hjk:j=k
  ·subst hjk;exact .inr h1
  ·rcases hC.oth j hjk with ⟨dd,hd⟩ | ⟨K,v,hd⟩ | ⟨dd,hd⟩ | ⟨s,hd⟩ | ⟨K,hd⟩
   ·exact .inl ⟨dd,hd⟩
   ·have:=hno j;rw [hd] at this;cases this
   ·have:=hno j;rw [hd] at this;cases this
   ·have:=(hC.rels j s).1 hd;rw [h3] at this;cases this
   ·have:=hno j;rw [hd] at this;cases this
 refine ⟨?_,hall⟩
 have hv:∀m,Aji q m=[]:=fun m=>by
  induction m with
  | zero=>rfl
  | succ m ih=>
   rw [Aji,ih]
   rcases hall m with ⟨dd,hd⟩ | hd<;>rw [hd]<;>rfl
 have:=hB.perm
 rw [hv] at this
 exact List.Perm.eq_nil this
theorem WI.shutW {G:Hp} (h:WI P W (.busy c b ty n 0 [] true D) H gs w t μ e q Sh) (hcl:∃r,w.heap[c]?=some (.chan 0 #[] true r r false)) (hN:Azv P (.busy c b ty n 0 [] true D) q gs gs' 0)
  (hG:∀b p o,G b=some (p,o)->∃p',H b=some (p',o)/\(p=true->p'=true∨D b)):∃q',WI P W .idle G gs' w (t++#[{ g:=0,fn:=f₁,pos:=p₁,act:=.recvClosed c }]) μ 1 q' Sh:=by
 obtain ⟨cl,r,hch,hcl2⟩:=h.openW
 obtain ⟨r',hr'⟩:=hcl
 rw [hr'] at hch
 have hclt:cl=true:=by simp at hch;first | exact hch.1 | exact hch.1.symm
 obtain ⟨_,hall⟩:=hcl2 hclt
 obtain ⟨cl',r2,st,sm,k,hB,rl,hC⟩:=h.still
 have hct:cl'=true:=by have:=hB.chan;rw [hr'] at this;simp at this;first | exact this.1 | exact this.1.symm
 subst hct
 generalize hU:(#[({ g:=0,fn:=f₁,pos:=p₁,act:=.recvClosed c }:MemOp)]:Trace)=U
 have hus:∀op∈U,op.act.touch?=none:=fun op hop=>by rw [<-hU] at hop;simp at hop;subst hop;rfl
 have hum:∀op∈U,∀m,op.act≠.mark m:=fun op hop m hm=>by rw [<-hU] at hop;simp at hop;subst hop;cases hm
 have u0:U[0]?=some { g:=0,fn:=f₁,pos:=p₁,act:=.recvClosed c }:=by rw [<-hU];rfl
 obtain ⟨q',hq'⟩:∃q':Nat->PhW,∀j,q' j=match q j with | .gone=>.off 0 | p=>p:=⟨fun j=>match q j with | .gone=>.off 0 | p=>p,fun _=>rfl⟩
 have hoff:∀j,∃d,q' j=.off d/\(q j=.off d∨(q j=.gone/\d=0)):=fun j=>by
  rcases hall j with ⟨dd,hd⟩ | hd
  ·exact ⟨dd,by rw [hq',hd],.inl hd⟩
  ·exact ⟨0,by rw [hq',hd],.inr ⟨hd,rfl⟩⟩
 have hd0:Deaf t 0=0:=h.deaf0
 have hkn:∀j a,touchAt t j=some a->Knows (t++U) 0 j∨(a.kind=.atomic/\¬(t++U).heard j/\∃y,Awz a.loc=some y/\Sh y):=fun j a ha=>by
  have hj:j<t.size:=by
   rcases Nat.lt_or_ge j t.size with h1 | h1
   ·exact h1
   ·simp [touchAt,Trace.act?,Array.getElem?_eq_none h1] at ha
  rcases h.over j a ha with hk | ⟨x,hx,qq,z,hz,hzg,hzb⟩ | ⟨h1,h2,h3⟩ | ⟨_,x,hx⟩
  ·exact .inl (hk.app _)
  ·have hxo:¬ ∃dd,q x=.off dd:=fun ⟨dd,hd⟩=>by rw [hd] at hx;cases hx
   have hgo:q x=.gone:=(hall x).resolve_left hxo
   have hxk:x=k:=by
    rcases Nat.decEq x k with hne | he
    ·rcases hC.oth x hne with hd | ⟨K,v,hd⟩ | ⟨dd,hd⟩ | ⟨s,hd⟩ | ⟨K,hd⟩
     ·exact absurd hd hxo
     ·rw [hgo] at hd;cases hd
     ·rw [hgo] at hd;cases hd
     ·rw [hgo] at hd;cases hd
     ·rw [hgo] at hd;cases hd
    ·exact he
   subst hxk
   obtain ⟨pp,op',s1,s2,s3,s4,s5⟩:=hC.shut hgo
   have hlt:=lt_size_of_getElem? s1
   have e0:(t++U)[pp]?=some op':=by rw [getElem?_append_old hlt];exact s1
   have hle:=s5 qq z hz hzg
   have hjb:Before (t++U) j pp:=by
    rcases Nat.lt_or_ge qq pp with hlt2 | hge
    ·have po:=hb_po (t:=t++U) hlt2 (by rw [getElem?_append_old (by omega)];exact hz) e0 (hzg.trans s3.symm)
     exact (hzb.app U).trans (.inr po)
    ·obtain rfl:qq=pp:=by omega
     exact hzb.app U
   exact .inl ⟨t.size+0,_,Ak0 u0,rfl,hjb.trans (.inr (.single (.inr ⟨.closed (c:=c) (by rw [Trace.act?,e0,Option.map_some,s2]) (by rw [Trace.act?,Ak0 u0];rfl),(heard_old hlt).2 s4,heard_new u0 hum hd0⟩)))⟩
  ·exact .inr ⟨h1,by rwa [heard_old hj],h3⟩
  ·exfalso
   rcases hall x with ⟨dd,hd⟩ | hd<;>rw [hd] at hx<;>cases hx
 have honly:∀x M,hpW G q' x=some M->x=0/\M=G:=fun x M hx=>by
  by_cases hx0:x=0
  ·subst hx0;cases hx;exact ⟨rfl,rfl⟩
  ·obtain ⟨dd,hd,_⟩:=hoff x
   rw [Axu hx0,hd] at hx;cases hx
 have hshG:∀y,Sh y->G y=none:=fun y hy=>by
  cases hl:G y with
  | none=>rfl
  | some z=>obtain ⟨p,o⟩:=z;obtain ⟨p',h1,_⟩:=hG y p o hl;rw [(h.shun y hy).2 0 H rfl] at h1;cases h1
 have hm:Azf (t++U) w (hpW G q'):=by
  have hm1:Azf (t++U) w (hpW H q):=h.mates.mute hus (Nat.le_refl _) fun _ _ _ _ _ _=>rfl
  refine ⟨fun x M hx=>?_,fun x y M M' hxy hx hy=>?_,fun x M hx b' p o hb' j a ha hab=>?_,hm1.clean,hm1.low⟩
  ·obtain ⟨rfl,rfl⟩:=honly x M hx
   intro b' p o hb'
   obtain ⟨p',h1,_⟩:=hG b' p o hb'
   exact h.mates.sat 0 H rfl b' p' o h1
  ·exact absurd ((honly x M hx).1.trans (honly y M' hy).1.symm) hxy
  ·obtain ⟨rfl,rfl⟩:=honly x M hx
   rcases touchAt_new ha with ⟨hj,ha'⟩ | ⟨_,op,hop,_,hoa⟩
   ·rcases hkn j a ha' with hk | ⟨_,_,y,h3,h4⟩
    ·exact .inl hk
    ·obtain rfl:y=b':=Option.some.inj (h3.symm.trans hab)
     rw [hshG y h4] at hb';cases hb'
   ·rw [hus op hop] at hoa;cases hoa
 refine ⟨q',{ mates:=hm,size:=by rw [hN.size,h.size],oth:=fun j x hx=>?_,out:=fun j hj=>(by have:=hq' j;rw [h.out j (by rw [<-hN.size];exact hj)] at this;exact this),zero:=(by have:=hq' 0;rw [h.zero] at this;exact this),over:=fun j a ha=>?_,norel:=h.norel.app fun op hop a=>hum op hop _,shun:=fun y hy=>⟨(h.shun y hy).1,fun x M hx=>?_⟩,base:=h.base,owns:=fun x M b' o hx hb'=>?_,deaf:=fun x hx=>?_,deaf0:=by rw [Akg hum];exact hd0,flag:=fun h1=>(by cases h1),wake:=fun j x K s hj hqj hw=>?_,still:=fun j=>(let ⟨dd,hd,_⟩:=hoff j;⟨dd,hd⟩) }⟩
 ·obtain ⟨y,hy,ho',_⟩:=hN.oth (j+1) x (by omega) (by omega) hx
  obtain ⟨ρ₁,h1,h2⟩:=h.oth j y hy
  have h3:=ho' _ h2
  obtain ⟨dd,hd,hdd⟩:=hoff (j+1)
  refine ⟨ρ₁,h1,?_⟩
  rw [hd]
  rcases hdd with hdd | ⟨hdd,rfl⟩
  ·rw [hdd] at h3;exact h3.any rfl _ _ _
  ·rw [hdd] at h3;exact (h3.left rfl).any rfl _ _ _
 ·rcases touchAt_new ha with ⟨hj,ha'⟩ | ⟨_,op,hop,_,hoa⟩
  ·rcases hkn j a ha' with hk | hk
   ·exact .inl hk
   ·exact .inr (.inr (.inl hk))
  ·rw [hus op hop] at hoa;cases hoa
 ·obtain ⟨rfl,rfl⟩:=honly x M hx
  exact hshG y hy
 ·obtain ⟨rfl,rfl⟩:=honly x M hx
  obtain ⟨p',h1,h2⟩:=hG b' true o hb'
  rcases h2 rfl with rfl | hDb
  ·exact h.owns 0 H b' o rfl h1
  ·exact hB.lent b' hDb
 ·rw [Akg hum,h.deaf x hx]
  obtain ⟨dd,hd,hdd⟩:=hoff x
  rw [hd]
  rcases hdd with hdd | ⟨hdd,rfl⟩<;>rw [hdd]<;>rfl
 ·obtain ⟨dd,hd,_⟩:=hoff j
  rw [hd] at hqj;cases hqj
end
end Go.X
end
section
namespace Go.X
open Go
open Go.Conc
open Go.ConcN (upd upd_same upd_ne)
section
variable {P:Program} {W:World} {γ:GhW} {H H' Hc:Hp} {gs gs':Array Goroutine} {w w':World} {t u:Trace} {μ:List Rw} {e:Nat} {q:Nat->PhW} {Sh Sh':Nat->Prop} {i:Nat} {ρ ρ':Rw} {g' child:Goroutine} {p':PhW} {es:Array Event} {fn f₁ f₂:FuncId} {pos p₁ p₂:String}
variable {c b n d:Nat} {ty:TypeId} {L:List Value} {D:Nat->Prop} {cz cl:Bool} {r st sm k:Nat} {rl:Option (Nat×Nat)} {v:Value}
theorem Byz (x:Nat) (m:Mark):(t++MemOp.ofEvents x fn pos #[mkE m])[t.size]?=some { g:=x,fn:=fn,pos:=pos,act:=.mark m }:=by
 have:(MemOp.ofEvents x fn pos #[mkE m])[0]?=some { g:=x,fn:=fn,pos:=pos,act:=.mark m }:=by rw [ofEvents_eq];simp [mkE,MemAct.ofEvent]
 have:=Ak0 (t:=t) this
 rwa [Nat.add_zero] at this
theorem Bjt (x:Nat) (m:Mark) (hd:Deaf t x=0):(t++MemOp.ofEvents x fn pos #[mkE m]).heard t.size:=
 ⟨x,by simp [Trace.g?,Byz],by rw [deaf_old (Nat.le_refl _)];exact hd⟩
theorem Bv8 {x:Nat} {m:Mark} (hm:(MemAct.mark m).touch?=none):∀op∈MemOp.ofEvents x fn pos #[mkE m],op.act.touch?=none:=Bkq fun ev he=>by
 simp at he;subst he;exact hm
theorem CzW.early {sz:Nat} (hC:CzW sz t q c cl st sm k rl) (h1:1<=cntW q sz):(q k).early=true:=by
 have hsyn:=hC.syn
 cases hqk:q k<;>rw [hqk] at hsyn<;>first | exact hsyn.elim | rfl | exact absurd hsyn.1 (by omega)
theorem WI.trelW {K:Hp} (h:WI P W (.busy c b ty n d L true D) H gs w t μ e q Sh) (hq:q (i+1)=.sent K) (hρ:μ[i]?=some ρ) (hN:Azv P (.busy c b ty n d L true D) q gs gs' (i+1)) (hg:gs'[i+1]?=some g') (hn:OthW P c b ty ρ' g' (.tail 0)) :
  WI P W (.busy c b ty n d L true D) H gs' w (t++MemOp.ofEvents (i+1) fn pos #[mkE (.releaseMerge (stW b))]) (μ.set i ρ') 1 (upd q (i+1) (.tail 0)) Sh:=by
 obtain ⟨cl,r,st,sm,k,hB,rl,hC⟩:=h.still
 have hlt:=h.inside (x:=i+1) (by rw [hq];simp)
 have hsyn:=hC.syn
 have hki:i+1≠k:=fun ek=>by rw [<-ek,hq] at hsyn;exact hsyn.elim
 have h1:1<=cntW q gs.size:=by
  have:=Awl (q:=q) (p:=.off 0) hlt
  rw [hq] at this
  simp only [PhW.num] at this
  omega
 have hd1:Deaf t (i+1)=0:=by rw [h.deaf _ (by omega),hq];rfl
 have hu:=Bv8 (fn:=fn) (pos:=pos) (x:=i+1) (m:=.releaseMerge (stW b)) rfl
 have ha:=Byz (t:=t) (fn:=fn) (pos:=pos) (i+1) (.releaseMerge (stW b))
 have hh:=Bjt (t:=t) (fn:=fn) (pos:=pos) (i+1) (.releaseMerge (stW b)) hd1
 have hog:∀op∈MemOp.ofEvents (i+1) fn pos #[mkE (.releaseMerge (stW b))],op.g=i+1:=Avy
 have hdd:deafBehind 0 #[mkE (.releaseMerge (stW b))]=0:=by simp [deafBehind,mkE]
 have hnr:∀op∈MemOp.ofEvents (i+1) fn pos #[mkE (.releaseMerge (stW b))],∀a,op.act≠.mark (.release a):=Ajo.ops fun ev he a hl=>by simp at he;subst he;cases hl
 have hde:Deaf (t++MemOp.ofEvents (i+1) fn pos #[mkE (.releaseMerge (stW b))]) (i+1)=0:=by rw [Deaf_own,hd1,hdd]
 generalize MemOp.ofEvents (i+1) fn pos #[mkE (.releaseMerge (stW b))]=U at *
 have hdr:∀x M,hpW H (upd q (i+1) (.tail 0)) x=some M->hpW H q x=some M:=fun x M hx=>Cxo rfl (by omega) hx
 have hon:∀y,OnW (upd q (i+1) (.tail 0)) y->OnW q y:=fun y hy=>hy.imp id fun hy=>by
  by_cases hyi:y=i+1
  ·subst hyi;rw [hq];rfl
  ·rwa [upd_ne _ _ hyi] at hy
 have hub:∀y:Nat,∀op∈U,∀a,op.act.touch?=some a->Awz a.loc≠some y:=fun y op hop a ha=>by rw [hu op hop] at ha;cases ha
 refine h.put hρ hN hg hn ((h.mates.mute hu (Nat.le_refl _) fun _ _ _ _ _ _=>rfl).drop hdr) hog (fun j a hja=>?_) hnr (fun y hy=>⟨(h.shun y hy).1,fun x M hx=>(h.shun y hy).2 x M (hdr x M hx)⟩) h.base (fun M b o hM=>by cases hM) hde (fun s hw j x M hj hqj=>?_)
  ⟨cl,r,st,sm,k,⟨hB.chan,hB.wg,fun x M hx=>hB.none x M (hdr x M hx),hB.sh,hB.ne,hB.high,by rw [Aww (by rw [hq];rfl)];exact hB.perm,hB.small,hB.lent,hB.synb.mute (hub b) hon,hB.sync.mute (hub c) hon⟩,rl,
   hC.alter (fun _=>.inr (.inr (.inl ⟨_,rfl⟩))) (fun s=>⟨fun e=>(by cases e),fun e=>(by have:=(hC.rels _ s).2 e;rw [hq] at this;cases this)⟩) (fun _ _ _=>.rfl) (by rw [upd_ne _ _ (Ne.symm hki),Ak8 (by rw [hq];rfl)];exact hsyn) fun hg'=>⟨by rwa [upd_ne _ _ (Ne.symm hki)] at hg',fun op hop=>by rw [hog op hop];exact hki⟩⟩
 ·rcases touchAt_new hja with ⟨hj,ha'⟩ | ⟨_,op,hop,_,hoa⟩
  ·have hek:∃x,(upd q (i+1) (.tail 0) x).early=true:=⟨k,by rw [upd_ne _ _ (Ne.symm hki)];exact hC.early h1⟩
   rcases h.over j a ha' with hk | ⟨x,hx,hk⟩ | ⟨h1,h2,y,h3,h4⟩ | ⟨hr,x,hx⟩
   ·exact .inl (hk.app _)
   ·by_cases hxi:x=i+1
    ·subst hxi
     exact .inr (.inr (.inr ⟨⟨t.size,_,ha,rfl,hh,.inr (hk.hb_new (Nat.le_refl _) ha rfl)⟩,hek⟩))
    ·exact .inr (.inl ⟨x,by rw [upd_ne _ _ hxi];exact hx,hk.app _⟩)
   ·exact .inr (.inr (.inl ⟨h1,by rwa [heard_old hj],y,h3,h4⟩))
   ·exact .inr (.inr (.inr ⟨hr.app _,hek⟩))
  ·rw [hu op hop] at hoa;cases hoa
 ·have hji:j≠i+1:=fun e=>by subst e;rw [upd_same] at hqj;cases hqj
  rw [upd_ne _ _ hji] at hqj
  have hj0:j≠0:=fun e=>by subst e;rw [h.zero] at hqj;cases hqj
  obtain ⟨y,hy,_,hyr⟩:=hN.oth j x hji hj0 hj
  exact hyr (h.wake j y M s hy hqj hw)
theorem WI.sacqW {K:Hp} (h:WI P W (.busy c b ty n d L true D) H gs w t μ e q Sh) (hq:q (i+1)=.shut K 0) (hρ:μ[i]?=some ρ) (hN:Azv P (.busy c b ty n d L true D) q gs gs' (i+1)) (hg:gs'[i+1]?=some g') (hn:OthW P c b ty ρ' g' (.late K)) :
  WI P W (.busy c b ty n d L true D) H gs' w (t++MemOp.ofEvents (i+1) fn pos #[mkE (.acquire (stW b))]) (μ.set i ρ') 1 (upd q (i+1) (.late K)) Sh:=by
 have hd1:Deaf t (i+1)=0:=by rw [h.deaf _ (by omega),hq];rfl
 have hu:=Bv8 (fn:=fn) (pos:=pos) (x:=i+1) (m:=.acquire (stW b)) rfl
 have ha:=Byz (t:=t) (fn:=fn) (pos:=pos) (i+1) (.acquire (stW b))
 have hh:=Bjt (t:=t) (fn:=fn) (pos:=pos) (i+1) (.acquire (stW b)) hd1
 have hnr:Ajo #[mkE (.acquire (stW b))]:=fun ev he a hl=>by simp at he;subst he;cases hl
 refine h.softO hρ hN hg (by rw [hq];exact .of_acq) (fun ev he=>by simp at he;subst he;rfl) hnr (fun hgn=>by rw [hq] at hgn;cases hgn) (fun j a hja=>?_) (by rw [hq];simp [deafBehind,mkE];rfl) (fun ⟨K',hK⟩=>by cases hK) hn
 have hnt:=h.norel.app (hnr.ops (x:=i+1) (fn:=fn) (pos:=pos))
 generalize MemOp.ofEvents (i+1) fn pos #[mkE (.acquire (stW b))]=U at *
 rcases touchAt_new hja with ⟨hj,ha'⟩ | ⟨_,op,hop,_,hoa⟩
 ·rcases h.over j a ha' with hk | ⟨x,hx,hk⟩ | ⟨h1,h2,y,h3,h4⟩ | ⟨⟨p,op,r1,r2,r3,r4⟩,x,hx⟩
  ·exact .inl (hk.app _)
  ·exact .inr (.inl ⟨x,Ajq PhW.pend (fun _=>rfl) x hx,hk.app _⟩)
  ·exact .inr (.inr (.inl ⟨h1,by rwa [heard_old hj],y,h3,h4⟩))
  ·have hlt:=lt_size_of_getElem? r1
   refine .inr (.inl ⟨i+1,by rw [upd_same];rfl,t.size,_,ha,rfl,(r4.app U).trans (.inr (.single (.inr ⟨.marked (a:=stW b) hlt (.inr ?_) (by rw [Trace.act?,ha];rfl) fun k' _ _ hk'=>?_,(heard_old hlt).2 r3,hh⟩)))⟩)
   ·rw [Trace.act?,getElem?_append_old hlt,r1,Option.map_some,r2];rfl
   ·rw [Trace.act?] at hk'
    cases ho:(t++U)[k']? with
    | none=>rw [ho] at hk';cases hk'
    | some op'=>
     rw [ho] at hk'
     exact hnt k' op' _ ho (Option.some.inj hk')
 ·rw [hu op hop] at hoa;cases hoa
end
end Go.X
end
section
namespace Go.X
open Go
open Go.Conc
open Go.ConcN (upd upd_same upd_ne)
section
variable {P:Program} {W:World} {γ:GhW} {H H' Hc:Hp} {gs gs':Array Goroutine} {w w':World} {t u:Trace} {μ:List Rw} {e:Nat} {q:Nat->PhW} {Sh Sh':Nat->Prop} {i:Nat} {ρ ρ':Rw} {g' x a:Goroutine} {p':PhW} {es:Array Event} {sl:Option (Nat×Nat)}
variable {c b n d:Nat} {ty:TypeId} {L:List Value} {D:Nat->Prop} {cz cl:Bool} {r st sm k:Nat} {rl:Option (Nat×Nat)} {v:Value}
theorem WI.openC (h:WI P W γ H gs w t μ e q Sh):(∃cap buf s r tm,w.heap[γ.chan]?=some (.chan cap buf false s r tm))∨∀j K v,q j≠.work K v:=by
 cases γ with
 | idle=>exact .inr fun j K v hj=>by obtain ⟨d,hd⟩:=h.still j;rw [hj] at hd;cases hd
 | busy c b ty n d L cz D=>
  cases cz with
  | false=>
   obtain ⟨cl,r,st,sm,k,hB,rfl,rfl,_⟩:=h.still
   exact .inl ⟨_,_,_,_,_,hB.chan⟩
  | true=>
   obtain ⟨cl,r,hch,hcl⟩:=h.openW
   cases cl with
   | false=>exact .inl ⟨_,_,_,_,_,hch⟩
   | true=>
    obtain ⟨_,hall⟩:=hcl rfl
    exact .inr fun j K v hj=>by rcases hall j with ⟨d,hd⟩ | hd<;>rw [hj] at hd<;>cases hd
theorem WI.busyC (h:WI P W γ H gs w t μ e q Sh) {j:Nat} (h1:∀d,q j≠.off d) (h2:∀K v,q j≠.work K v):∃c b ty n d L D,γ=.busy c b ty n d L true D:=by
 cases γ with
 | idle=>obtain ⟨d,hd⟩:=h.still j;exact absurd hd (h1 d)
 | busy c b ty n d L cz D=>
  cases cz with
  | true=>exact ⟨_,_,_,_,_,_,_,rfl⟩
  | false=>
   obtain ⟨cl,r,st,sm,k,hB,_,_,_,_,h5⟩:=h.still
   rcases h5 j with ⟨d,hd⟩ | ⟨K,v,hd⟩
   ·exact absurd hd (h1 d)
   ·exact absurd hd (h2 K v)
theorem WI.wgC (h:WI P W (.busy c b ty n d L cz D) H gs w t μ e q Sh):∃st sm,w.heap[b]?=some (wgO ty st sm):=by
 obtain ⟨cl,r,st,sm,k,hB,_⟩:=h.still
 exact ⟨st,sm,hB.wg⟩
theorem Cz6 {ev:Event} (h:ev.mute=true):(MemAct.ofEvent ev).touch?=none:=by
 obtain ⟨loc,wr,sy⟩:=ev
 cases loc with
 | mark m=>cases m<;>simp [Event.mute] at h<;>rfl
 | _=>simp [Event.mute] at h
theorem OthW.blk {p:PhW} {x:Goroutine} (h:OthW P c b ty ρ x p) (hb:x.status=.blocked) (hw:∀K v,p=.work K v->x.status=.running):∃K,p=.sema K:=by
 rcases h.status with hs | (⟨hs,_⟩ | ⟨hs,_⟩) | ⟨K,v,_,_,hp,_⟩ | ⟨K,hp,_⟩
 ·rw [hs] at hb;cases hb
 ·rw [hs] at hb;cases hb
 ·rw [hs] at hb;cases hb
 ·rw [hw K v hp] at hb;cases hb
 ·exact ⟨K,hp⟩
theorem Cws (o:Goroutine) (w'':World):o.again w''=o∨(o.again w'').status=.running:=by
 unfold Goroutine.again
 split
 ·dsimp only
  split<;>first | exact .inr rfl | exact .inl rfl
 ·exact .inr rfl
 ·exact .inr rfl
 ·exact .inl rfl
theorem Cwe {x g₁ y:Goroutine} {w'':World} (h:(woken P x g₁ w'' y).status=.blocked):y.status=.blocked/\woken P x g₁ w'' y=y:=by
 have:woken P x g₁ w'' y=y∨(woken P x g₁ w'' y).status=.running:=by
  unfold Go.Conc.woken
  split
  ·exact Cws _ _
  ·exact .inl rfl
 rcases this with he | he
 ·exact ⟨by rw [he] at h;exact h,he⟩
 ·rw [he] at h;cases h
inductive Djn (P:Program) (W:World) (γ:GhW) (H:Hp) (gs:Array Goroutine) (w:World) (t:Trace) (μ:List Rw) (e:Nat) (q:Nat->PhW) (Sh:Nat->Prop) (sl:Option (Nat×Nat)) (i:Nat) (x a:Goroutine):Prop
 | go {gs':Array Goroutine} {w':World} {ops:Array MemOp} {μ':List Rw} {e':Nat} {q':Nat->PhW} (hrun:runT P (crowd gs w sl) (i+1)=(.next (crowd gs' w' sl),ops)) (hl:LexW (μ',e') (μ,e)) (h:WI P W γ H gs' w' (t++ops) μ' e' q' Sh) (h0:gs'[0]?=some a)
  (hch:w'.heap[γ.chan]?=w.heap[γ.chan]?∨γ=.idle) (hbl:(∀j x,gs[j+1]?=some x->x.status=.blocked->∃K,q (j+1)=.sema K)->∀j x,gs'[j+1]?=some x->x.status=.blocked->∃K,q' (j+1)=.sema K)
 | send {K:Hp} {v:Value} {g₁:Goroutine} {z:Value} {ρ ρ₁ ρ₂:Rw} (hq:q (i+1)=.work K v) (hρ:μ[i]?=some ρ) (hs:stepG P false x w=.comm g₁ #[scase γ.chan v z] true .send w #[]) (l1:Rw.lt ρ₁ ρ) (l2:Rw.lt ρ₂ ρ)
  (hp:OthW P γ.chan γ.blk γ.ty ρ₁ (parked g₁ #[scase γ.chan v z] .send) (.work K v)) (hn:OthW P γ.chan γ.blk γ.ty ρ₂ (Go.Conc.served g₁ undef) (.sent K))
 | shut {c b n d:Nat} {ty:TypeId} {L:List Value} {D:Nat->Prop} {r:Nat} {g₁:Goroutine} {ops:Array MemOp} {μ':List Rw} {q':Nat->PhW} (hγ:γ=.busy c b ty n d L true D)
  (hrun:runT P (crowd gs w sl) (i+1)=(.next (crowd ((gs.map (woken P x g₁ (World.lay w c (.chan 0 #[] true r r false)))).setIfInBounds (i+1) g₁) (World.lay w c (.chan 0 #[] true r r false)) sl),ops)) (hc:c<w.heap.size) (hw:mayWake P x=true) (hgr:g₁.status=.running) (hl:LexW (μ',1) (μ,e))
  (h:WI P W γ H ((gs.map (woken P x g₁ (World.lay w c (.chan 0 #[] true r r false)))).setIfInBounds (i+1) g₁) (World.lay w c (.chan 0 #[] true r r false)) (t++ops) μ' 1 q' Sh)
theorem WI.other (h:WI P W γ H gs w t μ e q Sh) (hx:gs[i+1]?=some x) (hr:x.status=.running) (h0:gs[0]?=some a)
  (ha:∀w' g g',((∃r,w'.heap[γ.chan]?=some (.chan 0 #[] false r r false))∨γ=.idle∨w'.heap[γ.chan]?=w.heap[γ.chan]?)->woken P g g' w' a=a):Djn P W γ H gs w t μ e q Sh sl i x a:=by
 obtain ⟨ρ,hρ,ho⟩:=h.oth i x hx
 have hlt:i+1<gs.size:=(Array.getElem?_eq_some_iff.1 hx).1
 have hi0:(i+1==0)=false:=by simp
 have hopen:=h.openC
 have hN:∀ {w'':World} {g₁:Goroutine},(w''.heap[γ.chan]?=w.heap[γ.chan]?∨∀j K v,q j≠.work K v)->Azv P γ q gs ((gs.map (woken P x g₁ w'')).setIfInBounds (i+1) g₁) (i+1):=fun {w'' g₁} hh=>Azv.woken h (by
  rcases hopen with ⟨cap,buf,s,r,tm,ho⟩ | ho
  ·rcases hh with hh | hh
   ·exact .inl ⟨cap,buf,s,r,tm,by rw [hh];exact ho⟩
   ·exact .inr hh
  ·exact .inr ho)
 have hgi:∀ {w'':World} {g₁:Goroutine},((gs.map (woken P x g₁ w'')).setIfInBounds (i+1) g₁)[i+1]?=some g₁:=fun {w'' g₁}=>Array.getElem?_setIfInBounds_self_of_lt (by simpa using hlt)
 have hg0:∀ {w'':World} {g₁:Goroutine},woken P x g₁ w'' a=a->((gs.map (woken P x g₁ w'')).setIfInBounds (i+1) g₁)[0]?=some a:=fun {w'' g₁} hh=>by
  rw [Array.getElem?_setIfInBounds_ne (by omega),Array.getElem?_map,h0,Option.map_some,hh]
 have hgo:∀ {g₁:Goroutine} {w'':World} {es:Array Event},stepG P false x w=.go g₁ w'' es->runT P (crowd gs w sl) (i+1)=(.next (crowd ((gs.map (woken P x g₁ w'')).setIfInBounds (i+1) g₁) w'' sl),MemOp.ofEvents (i+1) x.frame.fn x.frame.place es):=fun {g₁ w'' es} hs=>runT_crowd_go hx (by rw [hi0];exact hs)
 have hdn:∀ {ρ':Rw},Rw.lt ρ' ρ->LexW (μ.set i ρ',1) (μ,e):=fun hl=>.down (Bqf.set hρ hl)
 have hsame:w.heap[γ.chan]?=w.heap[γ.chan]?∨∀j K v,q j≠.work K v:=.inl rfl
 have ha0:∀g g',woken P g g' w a=a:=fun g g'=>ha w g g' (.inr (.inr rfl))
 have mk:∀ {g₁:Goroutine} {w'':World} {es:Array Event} {p':PhW} {μ':List Rw} {e':Nat} {q':Nat->PhW},stepG P false x w=.go g₁ w'' es->LexW (μ',e') (μ,e) ->
   WI P W γ H ((gs.map (woken P x g₁ w'')).setIfInBounds (i+1) g₁) w'' (t++MemOp.ofEvents (i+1) x.frame.fn x.frame.place es) μ' e' q' Sh->woken P x g₁ w'' a=a->(w''.heap[γ.chan]?=w.heap[γ.chan]?∨γ=.idle)->q'=upd q (i+1) p'->(∀K v,p'=.work K v->g₁.status=.running)->Djn P W γ H gs w t μ e q Sh sl i x a:=by
  intro g₁ w'' es p' μ' e' q' hs hl hF hh hch hq' hw
  subst hq'
  refine .go (hgo hs) hl hF (hg0 hh) hch fun hb j y hy hyb=>?_
  by_cases hj:j=i
  ·subst hj
   rw [hgi] at hy
   cases hy
   obtain ⟨ρ₁,_,h2⟩:=hF.oth j _ hgi
   rw [upd_same] at h2 ⊢
   exact h2.blk hyb hw
  ·rw [Array.getElem?_setIfInBounds_ne (by omega),Array.getElem?_map] at hy
   cases hgj:gs[j+1]? with
   | none=>rw [hgj] at hy;cases hy
   | some y0=>
    rw [hgj] at hy
    obtain rfl:=Option.some.inj hy
    obtain ⟨h1,_⟩:=Cwe hyb
    rw [upd_ne _ _ (by omega)]
    exact hb j y0 hgj h1
 generalize hq:q (i+1)=p at ho
 cases ho with
 | fin hf=>rw [hf] at hr;cases hr
 | gfin hf=>rw [hf] at hr;cases hr
 | park y hn=>cases hr
 | slip y hs hm hst hn=>
  exact mk (hst w) (hdn (.sub _ y)) (h.soft hρ (hN hsame) hgi (by rw [hq];exact .of_off) (fun ev hev=>Cz6 (hm ev hev)) (Ajo.mute hm) (by rw [hq];simp) (by rw [hq];exact id) (by rw [hq];rfl) (fun ⟨K,hK⟩=>by cases hK) hn) (ha0 _ _) (.inl rfl) rfl (fun _ _ e=>by cases e)
 | step S hs hst ht hSr=>
  rename_i f K v
  obtain ⟨g',w',es,K',h1,hm,hS⟩:=hst w (h.mates.sat (i+1) K (by rw [Axu (by omega),hq];rfl))
  have hch:γ=.idle∨w'.heap[γ.chan]?=w.heap[γ.chan]?:=by
   cases γ with
   | idle=>exact .inl rfl
   | busy c b ty n d L cz D=>
    obtain ⟨cl,r,st,sm,k,hB,_⟩:=h.still
    exact .inr (Azb hm (hB.none (i+1) K (by rw [Axu (by omega),hq];rfl)).1 (lt_of_heap hB.chan))
  have hch':w'.heap[γ.chan]?=w.heap[γ.chan]?∨∀j K v,q j≠.work K v:=by
   rcases hch with rfl | hch
   ·obtain ⟨d,hd⟩:=h.still (i+1);rw [hq] at hd;cases hd
   ·exact .inl hch
  exact mk h1 (hdn (.sub _ _)) (h.moveI hρ (hN hch') hgi (by rw [hq];rfl) (by rw [hq];exact .inl ⟨_,_,_,rfl,rfl⟩) rfl hm (ht g' K' hS)) (ha _ _ _ (.inr hch)) (hch.elim .inr .inl) rfl (fun _ _ _=>hSr _ _ hS)
 | send y z hs hst hp hn=>
  rename_i f g₁ zz K v
  exact .send hq hρ (hst w (h.mates.sat (i+1) K (by rw [Axu (by omega),hq];rfl))) (.sub _ y) (.sub _ z) hp hn
 | tail y hs hm hst hn=>
  obtain ⟨c,b,ty,n,d,L,D,rfl⟩:=h.busyC (j:=i+1) (by rw [hq];simp) (by rw [hq];simp)
  obtain ⟨st,sm,hw⟩:=h.wgC
  exact mk (hst w st sm hw) (hdn (.sub _ y)) (h.soft hρ (hN hsame) hgi (by rw [hq];exact .of_tail) (fun ev hev=>by rcases hm with rfl | rfl | rfl<;>simp at hev<;>subst hev<;>rfl) (fun ev hev a hl=>by rcases hm with rfl | rfl | rfl<;>simp at hev<;>subst hev<;>cases hl) (by rw [hq];simp) (by rw [hq];exact id) (by rw [hq];rfl) (fun ⟨K,hK⟩=>by cases hK) hn) (ha0 _ _) (.inl rfl) rfl (fun _ _ e=>by cases e)
 | add S hs hst h1 h2=>
  obtain ⟨c,b,ty,n,d,L,D,rfl⟩:=h.busyC (j:=i+1) (by rw [hq];simp) (by rw [hq];simp)
  obtain ⟨v,wt,hv,hwt,hw,hres⟩:=h.addW hq hρ
  obtain ⟨g',hgs,hS⟩:=hst w v wt hv hwt hw
  have hne:c≠b:=by obtain ⟨_,_,_,_,_,hB,_⟩:=h.still;exact hB.ne
  have hcc:(World.lay w b (wgO ty (v*KW+wt) 0)).heap[c]?=w.heap[c]?:=Avv hne
  have hh:=ha _ x g' (.inr (.inr hcc))
  by_cases hz:v=0/\wt=1
  ·exact mk hgs (hdn (.sub _ _)) ((hres _ g' _ x.frame.fn x.frame.place (hN (.inl hcc)) hgi).1 hz (h1 g' (by obtain ⟨rfl,rfl⟩:=hz;exact hS))) hh (.inl hcc) rfl (fun _ _ e=>by cases e)
  ·exact mk hgs (hdn (.sub _ _)) ((hres _ g' _ x.frame.fn x.frame.place (hN (.inl hcc)) hgi).2 hz (h2 v wt g' hv hwt hz hS)) hh (.inl hcc) rfl (fun _ _ e=>by cases e)
 | rstep y hs hst hn=>
  obtain ⟨c,b,ty,n,d,L,D,rfl⟩:=h.busyC (j:=i+1) (by rw [hq];simp) (by rw [hq];simp)
  obtain ⟨st,sm,hw⟩:=h.wgC
  exact mk (hst w st sm hw) (hdn (.sub _ y)) (h.soft hρ (hN hsame) hgi (by rw [hq];exact .refl) (fun ev hev=>by simp at hev) Ajo.nil (fun _=>rfl) (by rw [hq];exact id) (by rw [hq];rfl) (fun ⟨K,hK⟩=>by cases hK) hn) (ha0 _ _) (.inl rfl) rfl (fun _ _ e=>by cases e)
 | rload y hs hst hn=>
  obtain ⟨c,b,ty,n,d,L,D,rfl⟩:=h.busyC (j:=i+1) (by rw [hq];simp) (by rw [hq];simp)
  have hw:w.heap[b]?=some (wgO ty 1 0):=by
   rcases h.relAt hq with ⟨h1,_⟩ | ⟨_,h2⟩
   ·cases h1
   ·exact h2
  have:=h.relW (s':=1) (st':=1) (sm':=0) (fn:=x.frame.fn) (pos:=x.frame.place) (es:=#[rdE (stW b)]) hq hρ (hN hsame) hgi hn (.inl ⟨rfl,rfl,.inl ⟨rfl,.inr rfl⟩⟩) (.inl .rd) (by simp)
  rw [Ay1 hw] at this
  exact mk (hst w hw) (hdn (.sub _ y)) this (ha0 _ _) (.inl rfl) rfl (fun _ _ e=>by cases e)
 | rstore y hs hst hn=>
  obtain ⟨c,b,ty,n,d,L,D,rfl⟩:=h.busyC (j:=i+1) (by rw [hq];simp) (by rw [hq];simp)
  have hne:c≠b:=by obtain ⟨_,_,_,_,_,hB,_⟩:=h.still;exact hB.ne
  have hw:w.heap[b]?=some (wgO ty 1 0):=by
   rcases h.relAt hq with ⟨h1,_⟩ | ⟨_,h2⟩
   ·cases h1
   ·exact h2
  have hcc:(World.lay w b (wgO ty 0 0)).heap[c]?=w.heap[c]?:=Avv hne
  exact mk (hst w hw) (hdn (.sub _ y)) (h.relW (s':=0) (st':=0) (sm':=0) hq hρ (hN (.inl hcc)) hgi hn (.inl ⟨rfl,rfl,.inr ⟨rfl,rfl⟩⟩) (.inl .wr) (by simp)) (ha _ _ _ (.inr (.inr hcc))) (.inl hcc) rfl (fun _ _ e=>by cases e)
 | rrel y hs hmw hst hgr hn=>
  rename_i f g₁
  obtain ⟨c,b,ty,n,d,L,D,rfl⟩:=h.busyC (j:=i+1) (by rw [hq];simp) (by rw [hq];simp)
  have hne:c≠b:=by obtain ⟨_,_,_,_,_,hB,_⟩:=h.still;exact hB.ne
  have hw:w.heap[b]?=some (wgO ty 0 0):=by
   rcases h.relAt hq with ⟨_,h2⟩ | ⟨h1,_⟩
   ·exact h2
   ·rcases h1 with h1 | h1<;>cases h1
  have hcc:(World.lay w b (wgO ty 0 1)).heap[c]?=w.heap[c]?:=Avv hne
  refine mk (hst w hw) (hdn (.sub _ y)) (h.relW (s':=0) (st':=0) (sm':=1) hq hρ (hN (.inl hcc)) hgi hn (.inr ⟨rfl,rfl,rfl⟩) (.inr rfl) (fun _ j z K hj hqj=>?_)) (ha _ _ _ (.inr (.inr hcc))) (.inl hcc) rfl (fun _ _ e=>by cases e)
  have hji:i+1≠j:=fun e=>by subst e;rw [hq] at hqj;cases hqj
  have hj0:j≠0:=fun e=>by subst e;rw [h.zero] at hqj;cases hqj
  rw [Array.getElem?_setIfInBounds_ne hji,Array.getElem?_map] at hj
  cases hgj:gs[j]? with
  | none=>rw [hgj] at hj;cases hj
  | some y0=>
   rw [hgj] at hj
   obtain rfl:=Option.some.inj hj
   obtain ⟨j',rfl⟩:∃j',j=j'+1:=⟨j-1,by omega⟩
   obtain ⟨ρ₁,_,h2⟩:=h.oth j' y0 hgj
   rw [hqj] at h2
   have hwk:woken P x g₁ (World.lay w b (wgO ty 0 1)) y0=y0.again (World.lay w b (wgO ty 0 1)):=by simp [woken,hmw,hgr]
   show (woken P x g₁ (World.lay w b (wgO ty 0 1)) y0).status=.running
   rw [hwk]
   rcases h2.status with hs' | (⟨_,hs'⟩ | ⟨_,hs'⟩) | ⟨K',v',g₁,z,hp,_⟩ | ⟨K',_,hs',ho'⟩
   ·rw [again_running _ (.inl hs')];exact hs'
   ·cases hs'
   ·cases hs'
   ·cases hp
   ·simp [Goroutine.again,hs',ho']
 | wstep S hs hst ht=>
  rename_i f K d₀ m
  obtain ⟨g',w',es,K',h1,hm,hS⟩:=hst w (h.mates.sat (i+1) K (by rw [Axu (by omega),hq];rfl))
  obtain ⟨c,b,ty,n,d,L,D,rfl⟩:=h.busyC (j:=i+1) (by rw [hq];simp) (by rw [hq];simp)
  have hcc:w'.heap[c]?=w.heap[c]?:=by
   obtain ⟨cl,r,st,sm,k,hB,_⟩:=h.still
   exact Azb hm (hB.none (i+1) K (by rw [Axu (by omega),hq];rfl)).1 (lt_of_heap hB.chan)
  exact mk h1 (hdn (.sub _ _)) (h.moveI hρ (hN (.inl hcc)) hgi (by rw [hq];rfl) (by rw [hq];exact .inr (.inl ⟨_,_,_,_,rfl,rfl⟩)) rfl hm (ht g' K' hS)) (ha _ _ _ (.inr (.inr hcc))) (.inl hcc) rfl (fun _ _ e=>by cases e)
 | wmark y hs hm hst hn=>
  obtain ⟨c,b,ty,n,d,L,D,rfl⟩:=h.busyC (j:=i+1) (by rw [hq];simp) (by rw [hq];simp)
  obtain ⟨st,sm,hw⟩:=h.wgC
  exact mk (hst w st sm hw) (hdn (.sub _ y)) (h.soft hρ (hN hsame) hgi (by rw [hq];exact .of_wait) (fun ev hev=>by rcases hm with rfl | rfl<;>simp at hev;subst hev;rfl) (fun ev hev a hl=>by rcases hm with rfl | rfl<;>simp at hev<;>subst hev<;>cases hl) (by rw [hq];simp) (by rw [hq];exact id) (by rw [hq];rfl) (fun ⟨K,hK⟩=>by cases hK) hn) (ha0 _ _) (.inl rfl) rfl (fun _ _ e=>by cases e)
 | load S hs hst h0' h1=>
  obtain ⟨c,b,ty,n,d,L,D,rfl⟩:=h.busyC (j:=i+1) (by rw [hq];simp) (by rw [hq];simp)
  obtain ⟨v,hv,hv1,hm1,hw,hres⟩:=h.loadW hq hρ
  obtain ⟨g',hgs,hS⟩:=hst w v hv hv1 hw
  by_cases hv0:v=0
  ·subst hv0
   exact mk hgs (hdn (.sub _ _)) ((hres _ g' _ x.frame.fn x.frame.place (hN hsame) hgi).1 rfl (h0' g' hS)) (ha0 _ _) (.inl rfl) rfl (fun _ _ e=>by cases e)
  ·exact mk hgs (hdn (.sub _ _)) ((hres _ g' _ x.frame.fn x.frame.place (hN hsame) hgi).2.1 (h1 v g' hv hv1 hv0 hS)) (ha0 _ _) (.inl rfl) rfl (fun _ _ e=>by cases e)
 | cas S hs hm0 hst hst' h0' h1=>
  rename_i f K m
  obtain ⟨c,b,ty,n,d,L,D,rfl⟩:=h.busyC (j:=i+1) (by rw [hq];simp) (by rw [hq];simp)
  have hne:c≠b:=by obtain ⟨_,_,_,_,_,hB,_⟩:=h.still;exact hB.ne
  obtain ⟨v,hv,hv1,hm1,hw,hres⟩:=h.loadW hq hρ
  by_cases hvm:v=m
  ·subst hvm
   obtain ⟨g',hgs,hS⟩:=hst w hm1 hw
   have hcc:(World.lay w b (wgO ty (v*KW+1) 0)).heap[c]?=w.heap[c]?:=Avv hne
   exact mk hgs (hdn (.sub _ _)) ((hres _ g' _ x.frame.fn x.frame.place (hN (.inl hcc)) hgi).2.2 rfl hm0 (h0' g' hS)) (ha _ _ _ (.inr (.inr hcc))) (.inl hcc) rfl (fun _ _ e=>by cases e)
  ·obtain ⟨g',hgs,hS⟩:=hst' w v (by omega) hm1 hw
   exact mk hgs (hdn (.sub _ _)) ((hres _ g' _ x.frame.fn x.frame.place (hN hsame) hgi).2.1 (h1 v g' (by omega) hm1 hS)) (ha0 _ _) (.inl rfl) rfl (fun _ _ e=>by cases e)
 | qstep y hs hm hst hgr hn=>
  obtain ⟨c,b,ty,n,d,L,D,rfl⟩:=h.busyC (j:=i+1) (by rw [hq];simp) (by rw [hq];simp)
  obtain ⟨st,sm,hw⟩:=h.wgC
  rcases hm with rfl | rfl
  ·exact mk (hst w st sm hw) (hdn (.sub _ y)) (h.soft hρ (hN hsame) hgi (by rw [hq];exact .refl) (fun ev hev=>by simp at hev) Ajo.nil (fun _=>rfl) (by rw [hq];exact id) (by rw [hq];rfl) (fun _=>hgr) hn) (ha0 _ _) (.inl rfl) rfl (fun _ _ e=>by cases e)
  ·exact mk (hst w st sm hw) (hdn (.sub _ y)) (h.sayW hq hρ (hN hsame) hgi hn hgr) (ha0 _ _) (.inl rfl) rfl (fun _ _ e=>by cases e)
 | acq y hr0 ho0 hb hac hn hg=>
  rename_i f g₀ g₁ K
  obtain ⟨c,b,ty,n,d,L,D,rfl⟩:=h.busyC (j:=i+1) (by rw [hq];simp) (by rw [hq];simp)
  have hne:c≠b:=by obtain ⟨_,_,_,_,_,hB,_⟩:=h.still;exact hB.ne
  rcases hg with rfl | rfl
  ·rcases h.acqW hq hρ with ⟨st,hw⟩ | ⟨hw,hres⟩
   ·have he:e≠0:=fun he=>by have:=h.flag he (i+1) x K hx hq;rw [hr] at this;cases this
    refine mk (p':=.sema K) (hb w st hw) (.flag (by omega:0<e)) (h.blockW hq hρ (hN hsame) hgi (.acq y hr0 ho0 hb hac hn (.inr rfl)) rfl ⟨st,hw⟩) (ha0 _ _) (.inl rfl) ?_ (fun _ _ e=>by cases e)
    funext j
    by_cases hj:j=i+1
    ·subst hj;rw [upd_same,hq]
    ·rw [upd_ne _ _ hj]
   ·have hcc:(World.lay w b (wgO ty 0 0)).heap[c]?=w.heap[c]?:=Avv hne
    exact mk (hac w hw) (hdn (.sub _ y)) (hres _ _ _ x.frame.fn x.frame.place (hN (.inl hcc)) hgi hn) (ha _ _ _ (.inr (.inr hcc))) (.inl hcc) rfl (fun _ _ e=>by cases e)
  ·cases hr
 | ostep y hs hst hn=>
  obtain ⟨c,b,ty,n,d,L,D,rfl⟩:=h.busyC (j:=i+1) (by rw [hq];simp) (by rw [hq];simp)
  obtain ⟨st,sm,hw⟩:=h.wgC
  exact mk (hst w st sm hw) (hdn (.sub _ y)) (h.soft hρ (hN hsame) hgi (by rw [hq];exact .refl) (fun ev hev=>by simp at hev) Ajo.nil (fun _=>rfl) (by rw [hq];exact id) (by rw [hq];rfl) (fun ⟨K,hK⟩=>by cases hK) hn) (ha0 _ _) (.inl rfl) rfl (fun _ _ e=>by cases e)
 | oload y hs hst hn=>
  obtain ⟨c,b,ty,n,d,L,D,rfl⟩:=h.busyC (j:=i+1) (by rw [hq];simp) (by rw [hq];simp)
  obtain ⟨hw,hres⟩:=h.oloadW hq hρ
  exact mk (hst w hw) (hdn (.sub _ y)) (hres _ _ _ x.frame.fn x.frame.place (hN hsame) hgi hn) (ha0 _ _) (.inl rfl) rfl (fun _ _ e=>by cases e)
 | tstep S hs hst ht=>
  rename_i f K
  obtain ⟨g',w',es,K',h1,hm,hS⟩:=hst w (h.mates.sat (i+1) K (by rw [Axu (by omega),hq];rfl))
  obtain ⟨c,b,ty,n,d,L,D,rfl⟩:=h.busyC (j:=i+1) (by rw [hq];simp) (by rw [hq];simp)
  have hcc:w'.heap[c]?=w.heap[c]?:=by
   obtain ⟨cl,r,st,sm,k,hB,_⟩:=h.still
   exact Azb hm (hB.none (i+1) K (by rw [Axu (by omega),hq];rfl)).1 (lt_of_heap hB.chan)
  exact mk h1 (hdn (.sub _ _)) (h.moveI hρ (hN (.inl hcc)) hgi (by rw [hq];rfl) (by rw [hq];exact .inr (.inr (.inl ⟨_,_,rfl,rfl⟩))) rfl hm (ht g' K' hS)) (ha _ _ _ (.inr (.inr hcc))) (.inl hcc) rfl (fun _ _ e=>by cases e)
 | tquiet y hs hst hn=>
  obtain ⟨c,b,ty,n,d,L,D,rfl⟩:=h.busyC (j:=i+1) (by rw [hq];simp) (by rw [hq];simp)
  obtain ⟨st,sm,hw⟩:=h.wgC
  exact mk (hst w st sm hw) (hdn (.sub _ y)) (h.soft hρ (hN hsame) hgi (by rw [hq];exact .refl) (fun ev hev=>by simp at hev) Ajo.nil (fun _=>rfl) (by rw [hq];exact id) (by rw [hq];rfl) (fun ⟨K,hK⟩=>by cases hK) hn) (ha0 _ _) (.inl rfl) rfl (fun _ _ e=>by cases e)
 | trel y hs hst hn=>
  obtain ⟨c,b,ty,n,d,L,D,rfl⟩:=h.busyC (j:=i+1) (by rw [hq];simp) (by rw [hq];simp)
  obtain ⟨st,sm,hw⟩:=h.wgC
  exact mk (hst w st sm hw) (hdn (.sub _ y)) (h.trelW hq hρ (hN hsame) hgi hn) (ha0 _ _) (.inl rfl) rfl (fun _ _ e=>by cases e)
 | lstep S hs hst ht=>
  rename_i f K
  obtain ⟨g',w',es,K',h1,hm,hS⟩:=hst w (h.mates.sat (i+1) K (by rw [Axu (by omega),hq];rfl))
  obtain ⟨c,b,ty,n,d,L,D,rfl⟩:=h.busyC (j:=i+1) (by rw [hq];simp) (by rw [hq];simp)
  have hcc:w'.heap[c]?=w.heap[c]?:=by
   obtain ⟨cl,r,st,sm,k,hB,_⟩:=h.still
   exact Azb hm (hB.none (i+1) K (by rw [Axu (by omega),hq];rfl)).1 (lt_of_heap hB.chan)
  exact mk h1 (hdn (.sub _ _)) (h.moveI hρ (hN (.inl hcc)) hgi (by rw [hq];rfl) (by rw [hq];exact .inr (.inr (.inr ⟨_,_,rfl,rfl⟩))) rfl hm (ht g' K' hS)) (ha _ _ _ (.inr (.inr hcc))) (.inl hcc) rfl (fun _ _ e=>by cases e)
 | lquiet y hs hst hn=>
  obtain ⟨c,b,ty,n,d,L,D,rfl⟩:=h.busyC (j:=i+1) (by rw [hq];simp) (by rw [hq];simp)
  obtain ⟨st,sm,hw⟩:=h.wgC
  exact mk (hst w st sm hw) (hdn (.sub _ y)) (h.soft hρ (hN hsame) hgi (by rw [hq];exact .refl) (fun ev hev=>by simp at hev) Ajo.nil (fun _=>rfl) (by rw [hq];exact id) (by rw [hq];rfl) (fun ⟨K,hK⟩=>by cases hK) hn) (ha0 _ _) (.inl rfl) rfl (fun _ _ e=>by cases e)
 | sacq y hs hst hn=>
  obtain ⟨c,b,ty,n,d,L,D,rfl⟩:=h.busyC (j:=i+1) (by rw [hq];simp) (by rw [hq];simp)
  obtain ⟨st,sm,hw⟩:=h.wgC
  exact mk (hst w st sm hw) (hdn (.sub _ y)) (h.sacqW hq hρ (hN hsame) hgi hn) (ha0 _ _) (.inl rfl) rfl (fun _ _ e=>by cases e)
 | smark y hs hm hst hn=>
  obtain ⟨c,b,ty,n,d,L,D,rfl⟩:=h.busyC (j:=i+1) (by rw [hq];simp) (by rw [hq];simp)
  obtain ⟨st,sm,hw⟩:=h.wgC
  exact mk (hst w st sm hw) (hdn (.sub _ y)) (h.soft hρ (hN hsame) hgi (by rw [hq];exact .of_shut) (fun ev hev=>by rcases hm with rfl | rfl<;>simp at hev<;>subst hev<;>rfl) (fun ev hev a hl=>by rcases hm with rfl | rfl<;>simp at hev<;>subst hev<;>cases hl) (by rw [hq];simp) (by rw [hq];exact id) (by rw [hq];rfl) (fun ⟨K,hK⟩=>by cases hK) hn) (ha0 _ _) (.inl rfl) rfl (fun _ _ e=>by cases e)
 | close y hs hmw hst hgr hn=>
  rename_i f g₁ K
  obtain ⟨c,b,ty,n,d,L,D,rfl⟩:=h.busyC (j:=i+1) (by rw [hq];simp) (by rw [hq];simp)
  obtain ⟨r,hw,hres⟩:=h.closeW hq hρ
  have hnw:∀j K v,q j≠.work K v:=fun j K' v' hj=>by
   obtain ⟨cl,r,st,sm,k,hB,rl,hC⟩:=h.still
   have hk:=hC.me (i:=i) (by rw [hq];simp [PhW.mate])
   have hsyn:=hC.syn
   rw [<-hk,hq] at hsyn
   have hjl:=h.inside (x:=j) (by rw [hj];simp)
   have hcu:=Awl (q:=q) (p:=.off 0) hjl
   rw [hj] at hcu
   have h0:cntW q gs.size=0:=hsyn.1
   simp only [PhW.num] at hcu
   omega
  exact .shut rfl (hgo (hst w r (h.mates.sat (i+1) K (by rw [Axu (by omega),hq];rfl)) hw)) (lt_of_heap hw) hmw hgr (hdn (.sub _ y)) (hres _ _ _ x.frame.fn x.frame.place (hN (.inr hnw)) hgi hn)
 | gslip y hs hst hn=>
  exact mk (hst w) (hdn (.sub _ y)) (h.soft hρ (hN hsame) hgi (by rw [hq];exact .refl) (fun ev hev=>by simp at hev) Ajo.nil (fun _=>rfl) (by rw [hq];exact id) (by rw [hq];rfl) (fun ⟨K,hK⟩=>by cases hK) hn) (ha0 _ _) (.inl rfl) rfl (fun _ _ e=>by cases e)
end
end Go.X
end
section
namespace Go.X
open Go
open Go.Conc
open Go.ConcN (upd upd_same upd_ne)
section
variable {P:Program} {W:World} {γ:GhW} {H H' Hc:Hp} {gs gs':Array Goroutine} {w w':World} {t u:Trace} {μ:List Rw} {e:Nat} {q:Nat->PhW} {Sh Sh':Nat->Prop} {i:Nat} {ρ ρ':Rw} {g' x a:Goroutine} {p':PhW} {es:Array Event} {sl:Option (Nat×Nat)}
variable {c b n d:Nat} {ty:TypeId} {L:List Value} {D:Nat->Prop} {cz cl:Bool} {r st sm k:Nat} {rl:Option (Nat×Nat)} {v:Value}
theorem WI.awakeW (h:WI P W γ H gs w t μ e q Sh) (h0:gs[0]?=some a) (ha:awake a):∀g∈gs,awake g:=by
 intro g hg
 obtain ⟨j,hj⟩:=Array.mem_iff_getElem?.1 hg
 cases j with
 | zero=>rw [h0] at hj;cases hj;exact ha
 | succ j=>
  obtain ⟨ρ,_,h2⟩:=h.oth j g hj
  intro tt e
  rcases h2.status with hs | (⟨hs,_⟩ | ⟨hs,_⟩) | ⟨_,_,_,_,_,rfl⟩ | ⟨_,_,hs,_⟩
  ·rw [hs] at e;cases e
  ·rw [hs] at e;cases e
  ·rw [hs] at e;cases e
  ·cases e
  ·rw [hs] at e;cases e
theorem WI.offerR (h:WI P W γ H gs w t μ e q Sh) {j:Nat} {y:Goroutine} (hj:gs[j+1]?=some y):offersAt y γ.chan false=[]:=by
 obtain ⟨ρ,_,h2⟩:=h.oth j y hj
 rcases h2.status with hs | (⟨hs,_⟩ | ⟨hs,_⟩) | ⟨_,_,_,_,_,rfl⟩ | ⟨_,_,hs,ho⟩
 ·exact offersAt_of_not_blocked (by rw [hs];simp) _ _
 ·exact offersAt_of_not_blocked (by rw [hs];simp) _ _
 ·exact offersAt_of_not_blocked (by rw [hs];simp) _ _
 ·exact offersAt_parked_send' _ _ _ _ _ _
 ·simp [offersAt,hs,ho]
theorem WI.offerS (h:WI P W γ H gs w t μ e q Sh) {j m:Nat} {y:Goroutine} (hj:gs[j+1]?=some y) (hm:m∈offersAt y γ.chan true):m=0/\∃K v g₁ z,q (j+1)=.work K v/\y=parked g₁ #[scase γ.chan v z] .send:=by
 obtain ⟨ρ,_,h2⟩:=h.oth j y hj
 rcases h2.status with hs | (⟨hs,_⟩ | ⟨hs,_⟩) | ⟨K,v,g₁,z,hq,rfl⟩ | ⟨_,_,hs,ho⟩
 ·rw [offersAt_of_not_blocked (by rw [hs];simp)] at hm;cases hm
 ·rw [offersAt_of_not_blocked (by rw [hs];simp)] at hm;cases hm
 ·rw [offersAt_of_not_blocked (by rw [hs];simp)] at hm;cases hm
 ·rw [offersAt_parked_send,if_pos rfl] at hm
  exact ⟨by simpa using hm,K,v,g₁,z,hq,rfl⟩
 ·simp [offersAt,hs,ho] at hm
theorem Bwa {g:Array Goroutine} {v z:Value} (hc:w.heap[c]?=some (.chan 0 #[] false r r false)) (hp:partners g c false=[]):∀cc∈#[scase c v z],NoWays w g cc:=fun cc hcc=>by
 simp at hcc
 subst hcc
 exact ⟨made_send v z hc,by simp [ways,scase,hc,hp]⟩
theorem Bv9 {g:Array Goroutine} {z:Value} (hc:w.heap[c]?=some (.chan 0 #[] false r r false)) (hp:partners g c true=[]):∀cc∈#[rcase c z],NoWays w g cc:=fun cc hcc=>by
 simp at hcc
 subst hcc
 exact ⟨made_recv z hc,by simp [ways,rcase,hc,hp]⟩
theorem Ajb {Post:Value->World->Prop} {g:Goroutine} (hrun:g.status=.running)
  (hmain:∀gs w sl t μ e q Sh d sl',WI P W γ H gs (w.at d) t μ e q Sh->gs[0]?=some g->stepT P (crowd gs w sl)=runT P (crowd gs (w.at d) sl') 0->Ends P Post (crowd gs w sl) t) :
  ∀(y:List Rw×Nat) gs w sl t q Sh,WI P W γ H gs w t y.1 y.2 q Sh->gs[0]?=some g->Ends P Post (crowd gs w sl) t:=by
 intro y
 induction LexW.acc y with
 | intro y _ ih=>
  intro gs w sl t q Sh h h0
  obtain ⟨i,x,d,sl',hi,hx,hst⟩:=crowd_pick (P:=P) (w:=w) (sl:=sl) (h.awakeW h0 (Bji (.inl hrun))) ⟨0,g,h0,hrun⟩
  cases i with
  | zero=>exact hmain gs w sl t y.1 y.2 q Sh d sl' (h.at d) h0 hst
  | succ i=>
   cases (h.at d).other (sl:=sl') hi hx h0 (fun _ _ _ _=>woken_run hrun) with
   | go hr hl hF h0' _ _=>exact Ends.next (hst.trans hr) (ih _ hl _ _ _ _ _ _ hF h0')
   | shut hγ hr hc hw hgr hl hF=>
    refine Ends.next (hst.trans hr) (ih _ hl _ _ _ _ _ _ hF ?_)
    rw [Array.getElem?_setIfInBounds_ne (by omega),Array.getElem?_map,h0,Option.map_some,woken_run hrun]
   | send hq hρ hs l1 l2 hp hn=>
    rename_i K v g₁ z ρ ρ₁ ρ₂
    have hopen:∃r,(w.at d).heap[γ.chan]?=some (.chan 0 #[] false r r false):=by
     have hS:=(h.at d).still
     cases γ with
     | idle=>obtain ⟨dd,hd⟩:=hS (i+1);rw [hq] at hd;cases hd
     | busy c b ty n d L cz D=>
      cases cz with
      | false=>obtain ⟨cl,r,st,sm,k,hB,rfl,rfl,_⟩:=hS;exact ⟨r,hB.chan⟩
      | true=>
       obtain ⟨cl,r,hch,hcl⟩:=(h.at _).openW
       cases cl with
       | false=>exact ⟨r,hch⟩
       | true=>rcases (hcl rfl).2 (i+1) with ⟨dd,hd⟩ | hd<;>rw [hq] at hd<;>cases hd
    obtain ⟨r,hch⟩:=hopen
    have hpn:partners (gs.setIfInBounds (i+1) ph) γ.chan false=[]:=partners_nil fun j y hj=>by
     rcases getElem?_stand gs (i+1) j y hj with ⟨_,rfl⟩ | ⟨_,hj⟩
     ·exact offersAt_ph _ _
     ·cases j with
      | zero=>rw [h0] at hj;cases hj;exact offersAt_of_not_blocked (by rw [hrun];simp) _ _
      | succ j=>exact h.offerR hj
    have hrT:=crowd_waits (P:=P) (sl:=sl') (i:=i+1) hi (by rw [show (i+1==0)=false by simp];exact hs) (Bwa hch hpn)
    refine Ends.next (hst.trans hrT) (ih (y.1.set i ρ₁,1) (.down (Bqf.set hρ l1)) _ _ _ _ q Sh ?_ (by rw [Array.getElem?_setIfInBounds_ne (by omega)];exact h0))
    have hlt:=(Array.getElem?_eq_some_iff.1 hi).1
    have:=(h.at d).soft (fn:=x.frame.fn) (pos:=x.frame.place) (es:=#[]) (p':=q (i+1)) hρ (Azv.set (g':=parked g₁ #[scase γ.chan v z] .send)) (Array.getElem?_setIfInBounds_self_of_lt hlt) .refl (by simp) Ajo.nil (fun _=>rfl) id rfl (fun ⟨K',hK⟩=>by rw [hq] at hK;cases hK) (by rw [hq];exact hp)
    have hup:upd q (i+1) (q (i+1))=q:=by
     funext j
     by_cases hj:j=i+1
     ·subst hj;rw [upd_same]
     ·rw [upd_ne _ _ hj]
    rw [hup] at this
    exact this
theorem WI.runs (h:WI P W (.busy c b ty n d L true D) H gs w t μ e q Sh) (hch:∃r,w.heap[c]?=some (.chan 0 #[] false r r false)) (hnp:∀j x,gs[j+1]?=some x->x.status=.blocked->∃K,q (j+1)=.sema K) :
  ∃j x,gs[j+1]?=some x/\x.status=.running:=by
 obtain ⟨cl,r,st,sm,k,hB,rl,hC⟩:=h.still
 obtain ⟨r',hch⟩:=hch
 have hcl:cl=false:=by have:=hB.chan;rw [hch] at this;simp at this;first | exact this.1 | exact this.1.symm
 have get:∀j,0<j->j<gs.size->∃x ρ,gs[j]?=some x/\OthW P c b ty ρ x (q j):=fun j h0 hj=>by
  obtain ⟨j,rfl⟩:∃j',j=j'+1:=⟨j-1,by omega⟩
  obtain ⟨ρ,_,h2⟩:=h.oth j _ (Array.getElem?_eq_getElem hj)
  exact ⟨_,ρ,Array.getElem?_eq_getElem hj,h2⟩
 have out:∀j,0<j->j<gs.size->(∀x ρ,gs[j]?=some x->OthW P c b ty ρ x (q j)->x.status=.running)->∃j x,gs[j+1]?=some x/\x.status=.running:=fun j h0 hj hh=>by
  obtain ⟨x,ρ,hx,ho⟩:=get j h0 hj
  obtain ⟨j,rfl⟩:∃j',j=j'+1:=⟨j-1,by omega⟩
  exact ⟨j,x,hx,hh x ρ hx ho⟩
 have plain:∀ {ρ:Rw} {x:Goroutine} {p:PhW},OthW P c b ty ρ x p->p.on=true->p≠.gone->(∀K v,p≠.work K v)->(∀K,p≠.sema K)->x.status=.running:=fun {ρ x p} ho h1 h2 h3 h4=>by
  rcases ho.status with hs | (⟨_,hs⟩ | ⟨_,hs⟩) | ⟨K,v,_,_,hs,_⟩ | ⟨K,hs,_⟩
  ·exact hs
  ·rw [h1] at hs;cases hs
  ·exact absurd hs h2
  ·exact absurd hs (h3 K v)
  ·exact absurd hs (h4 K)
 have hsyn:=hC.syn
 rcases hqk:q k with dd | _ | ⟨K,v'⟩ | dd | s | ⟨K,dd,m⟩ | K | K | ⟨K,dd⟩ | K | K
 ·rw [hqk] at hsyn;exact hsyn.elim
 ·rw [hqk] at hsyn;exact absurd hsyn.2.2 (by rw [hcl];simp)
 ·rw [hqk] at hsyn;exact hsyn.elim
 ·rw [hqk] at hsyn;exact hsyn.elim
 ·rw [hqk] at hsyn;exact hsyn.elim
 ·exact out k hC.lt.1 hC.lt.2 fun x ρ _ ho=>by rw [hqk] at ho;exact plain ho rfl (by simp) (by simp) (by simp)
 ·rw [hqk] at hsyn
  obtain ⟨_,hsyn⟩:=hsyn
  rcases hsyn with ⟨s1,_⟩ | ⟨_,_,_,j,s,hrl,_⟩ | ⟨_,_,_,j,hrl⟩ | ⟨_,s2,s3,_⟩
  ·obtain ⟨j,hj,hnum⟩:=Cxc s1
   have hj0:0<j:=by
    rcases Nat.eq_zero_or_pos j with rfl | hp
    ·rw [h.zero] at hnum;simp [PhW.num] at hnum
    ·exact hp
   refine out j hj0 hj fun x ρ hx ho=>?_
   rcases Dqg hnum with ⟨K',v',hw⟩ | ⟨dd,hw⟩ | ⟨K',hw⟩
   ·rcases ho.status with hs | (⟨_,hs⟩ | ⟨_,hs⟩) | ⟨K,v,g₁,z,hs,rfl⟩ | ⟨K,hs,_⟩
    ·exact hs
    ·rw [hw] at hs;cases hs
    ·rw [hw] at hs;cases hs
    ·obtain ⟨j,rfl⟩:∃j',j=j'+1:=⟨j-1,by omega⟩
     obtain ⟨K2,h2⟩:=hnp j _ hx rfl
     rw [hw] at h2;cases h2
    ·rw [hw] at hs;cases hs
   ·rw [hw] at ho;exact plain ho rfl (by simp) (by simp) (by simp)
   ·rw [hw] at ho;exact plain ho rfl (by simp) (by simp) (by simp)
  ·have hqj:=(hC.rels j s).2 hrl
   have hjl:=h.inside (x:=j) (by rw [hqj];simp)
   have hj0:0<j:=by
    rcases Nat.eq_zero_or_pos j with rfl | hp
    ·rw [h.zero] at hqj;cases hqj
    ·exact hp
   exact out j hj0 hjl fun x ρ _ ho=>by rw [hqj] at ho;exact plain ho rfl (by simp) (by simp) (by simp)
  ·have hqj:=(hC.rels j 0).2 hrl
   have hjl:=h.inside (x:=j) (by rw [hqj];simp)
   have hj0:0<j:=by
    rcases Nat.eq_zero_or_pos j with rfl | hp
    ·rw [h.zero] at hqj;cases hqj
    ·exact hp
   exact out j hj0 hjl fun x ρ _ ho=>by rw [hqj] at ho;exact plain ho rfl (by simp) (by simp) (by simp)
  ·refine out k hC.lt.1 hC.lt.2 fun x ρ hx ho=>?_
   have hw:=hB.wg
   rw [s2,s3] at hw
   exact h.wake k x K 0 hx hqk hw
 ·exact out k hC.lt.1 hC.lt.2 fun x ρ _ ho=>by rw [hqk] at ho;exact plain ho rfl (by simp) (by simp) (by simp)
 ·exact out k hC.lt.1 hC.lt.2 fun x ρ _ ho=>by rw [hqk] at ho;exact plain ho rfl (by simp) (by simp) (by simp)
 ·rw [hqk] at hsyn;exact hsyn.elim
 ·exact out k hC.lt.1 hC.lt.2 fun x ρ _ ho=>by rw [hqk] at ho;exact plain ho rfl (by simp) (by simp) (by simp)
end
end Go.X
end
