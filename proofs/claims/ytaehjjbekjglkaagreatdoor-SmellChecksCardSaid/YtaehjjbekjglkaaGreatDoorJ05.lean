/- Texts WGood. -/
import Derived.Test.YtaehjjbekjglkaaGreatDoorJ04
set_option linter.defProp false
set_option linter.unusedSimpArgs false
set_option linter.unusedVariables false
set_option maxRecDepth 100000
set_option maxHeartbeats 2000000
section
namespace Go.X
open Go
open Go.Conc
open Go.ConcN (upd upd_same upd_ne)
section
variable {P:Program} {W:World} {γ:GhW} {H H' Hc:Hp} {gs gs':Array Goroutine} {w w':World} {t u:Trace} {μ:List Rw} {e:Nat} {q:Nat->PhW} {Sh Sh':Nat->Prop} {i:Nat} {ρ ρ':Rw} {g' x a:Goroutine} {p':PhW} {es:Array Event} {sl:Option (Nat×Nat)}
variable {c b n d:Nat} {ty:TypeId} {L:List Value} {D:Nat->Prop} {cz cl:Bool} {r st sm k:Nat} {rl:Option (Nat×Nat)} {v:Value}
theorem Cz9 {g g₁:Goroutine} {cs cs':Array CommCase} {sh sh':CommShape} (h:parked g cs sh=parked g₁ cs' sh') (cs₂:Array CommCase) (k:Int) (v:Value) (ok:Bool):g.finishComm P cs₂ .send k v ok=g₁.finishComm P cs₂ .send k v ok:=by
 rw [<-finishComm_parked P g cs₂ cs .send sh k v ok,h,finishComm_parked]
theorem Cji {Post:Value->World->Prop} {g₁:Goroutine} {z:Value}
  (hn:∀v L',L.Perm (v::L')->∀gs w sl t μ e q Sh,WI P W (.busy c b ty n 0 L' true D) H gs w t μ e q Sh->gs[0]?=some (g₁.finishComm P #[rcase c z] (.recv true) 0 v true)->Ends P Post (crowd gs w sl) t)
  (hs:L=[]->∀gs w sl t μ e q Sh,WI P W (.busy c b ty n 0 [] true D) H gs w t μ e q Sh->(∃r,w.heap[c]?=some (.chan 0 #[] true r r false))->gs[0]?=some { parked g₁ #[rcase c z] (.recv true) with status:=.running }->Ends P Post (crowd gs w sl) t) :
  ∀(y:List Rw×Nat) gs w sl t q Sh,WI P W (.busy c b ty n 0 L true D) H gs w t y.1 y.2 q Sh->(∃r,w.heap[c]?=some (.chan 0 #[] false r r false))->(∀j x,gs[j+1]?=some x->x.status=.blocked->∃K,q (j+1)=.sema K) ->
   gs[0]?=some (parked g₁ #[rcase c z] (.recv true))->Ends P Post (crowd gs w sl) t:=by
 intro y
 induction LexW.acc y with
 | intro y _ ih=>
  intro gs w sl t q Sh h hch hnp h0
  obtain ⟨j,xr,hj,hjr⟩:=h.runs hch hnp
  have hpk:awake (parked g₁ #[rcase c z] (.recv true)):=fun t e=>by cases e
  obtain ⟨i,x,d,sl',hi,hx,hst⟩:=crowd_pick (P:=P) (w:=w) (sl:=sl) (h.awakeW h0 hpk) ⟨j+1,xr,hj,hjr⟩
  obtain ⟨r,hch⟩:=hch
  cases i with
  | zero=>rw [h0] at hi;cases hi;cases hx
  | succ i=>
   have hlt:=(Array.getElem?_eq_some_iff.1 hi).1
   cases (h.at d).other (sl:=sl') hi hx h0 (fun w' g g' hw'=>by
    rcases hw' with ⟨r',hw'⟩ | hw' | hw'
    ·exact woken_recv_open _ _ hw'
    ·cases hw'
    ·exact woken_recv_open (r:=r) (s:=r) (cap:=0) (buf:=#[]) (tm:=false) _ _ (by have e1:w'.heap[c]?=(w.at d).heap[c]?:=hw';rw [e1];exact hch)) with
   | go hr hl hF h0' hch' hbl=>
    refine Ends.next (hst.trans hr) (ih _ hl _ _ _ _ _ _ hF ?_ (hbl hnp) h0')
    rcases hch' with hch' | hch'
    ·exact ⟨r,by rw [<-hch];exact hch'⟩
    ·cases hch'
   | shut hγ hr hc hw hgr hl hF=>
    rename_i c' b' n' d' ty' L₂ D' r' g₂ ops μ' q'
    cases hγ
    have hcl:(World.lay (w.at d) c (.chan 0 #[] true r' r' false)).heap[c]?=some (.chan 0 #[] true r' r' false):=Avl hc
    have hL:L=[]:=by
     obtain ⟨cl,r2,h1,h2⟩:=hF.openW
     rw [hcl] at h1
     have:cl=true:=by simp at h1;first | exact h1.1 | exact h1.1.symm
     exact (h2 this).1
    subst hL
    refine Ends.next (hst.trans hr) (hs rfl _ _ _ _ _ _ _ _ hF ⟨r',hcl⟩ ?_)
    rw [Array.getElem?_setIfInBounds_ne (by omega),Array.getElem?_map,h0,Option.map_some]
    have:woken P x g₂ (World.lay (w.at d) c (.chan 0 #[] true r' r' false)) (parked g₁ #[rcase c z] (.recv true))=(parked g₁ #[rcase c z] (.recv true)).again (World.lay (w.at d) c (.chan 0 #[] true r' r' false)):=by simp [woken,hw,hgr]
    rw [this,again_recv_closed hcl]
   | send hq hρ hsn l1 l2 hp hn'=>
    rename_i K v g₂ zz ρ ρ₁ ρ₂
    obtain ⟨r',L',hch',hperm,hres⟩:=(h.at d).meetW hq hρ
    have hpn:partners (gs.setIfInBounds (i+1) ph) c false=[(0,0)]:=by
     rw [partners_one (j:=0) (stand_get (by omega) h0) fun j y hj0 hy=>?_]
     ·rw [offersAt_parked_recv,if_pos rfl];rfl
     ·rcases getElem?_stand gs (i+1) j y hy with ⟨_,rfl⟩ | ⟨_,hy⟩
      ·exact offersAt_ph _ _
      ·obtain ⟨j,rfl⟩:∃j',j=j'+1:=⟨j-1,by omega⟩
       exact h.offerR hy
    have hrT:=crowd_send_meets (P:=P) (sl:=sl') (i:=i+1) (j:=0) hi (by rw [show (i+1==0)=false by simp];exact hsn) hch' (by omega) h0 hpn
    have e0:MemOp.ofEvents (i+1) x.frame.fn x.frame.place #[]=#[]:=rfl
    rw [e0,Array.empty_append] at hrT
    refine Ends.next (hst.trans hrT) (hn v L' hperm _ _ _ _ _ _ _ _ (hres _ _ _ _ _ _ _ ⟨by simp,fun j y' hj hj0 hy=>⟨y',?_,fun _ h=>h,id⟩⟩ ?_ hn') ?_)
    ·rwa [Array.getElem?_setIfInBounds_ne (Ne.symm hj),Array.getElem?_setIfInBounds_ne (Ne.symm hj0)] at hy
    ·exact Array.getElem?_setIfInBounds_self_of_lt (by simpa using hlt)
    ·rw [Array.getElem?_setIfInBounds_ne (by omega),Array.getElem?_setIfInBounds_self_of_lt (Array.getElem?_eq_some_iff.1 h0).1]
theorem Bwe {Post:Value->World->Prop} {g g₁:Goroutine} {z:Value} (hrun:g.status=.running) (hst:∀w,Sat H w->stepG P true g w=.comm g₁ #[rcase c z] true (.recv true) w #[])
  (hn:∀v L',L.Perm (v::L')->∀gs w sl t μ e q Sh,WI P W (.busy c b ty n 0 L' true D) H gs w t μ e q Sh->gs[0]?=some (g₁.finishComm P #[rcase c z] (.recv true) 0 v true)->Ends P Post (crowd gs w sl) t)
  (hs:L=[]->∀gs w sl t μ e q Sh,WI P W (.busy c b ty n 0 [] true D) H gs w t μ e q Sh->(∃r,w.heap[c]?=some (.chan 0 #[] true r r false))->gs[0]?=some { parked g₁ #[rcase c z] (.recv true) with status:=.running }->Ends P Post (crowd gs w sl) t)
  (hc:L=[]->∀gs w sl t μ e q Sh f p,WI P W (.busy c b ty n 0 [] true D) H gs w t μ e q Sh->(∃r,w.heap[c]?=some (.chan 0 #[] true r r false))->gs[0]?=some g->Ends P Post (crowd (gs.setIfInBounds 0 (g₁.finishComm P #[rcase c z] (.recv true) 0 z false)) w sl) (t++#[{ g:=0,fn:=f,pos:=p,act:=.recvClosed c }])) :
  ∀gs w sl t μ e q Sh,WI P W (.busy c b ty n 0 L true D) H gs w t μ e q Sh->gs[0]?=some g->Ends P Post (crowd gs w sl) t:=by
 intro gs w sl t μ e q Sh hW0 h00
 refine Ajb (W:=W) hrun (fun gs w sl t μ e q Sh d sl' hF h0 hst'=>?_) (μ,e) gs w sl t q Sh hW0 h00
 have hlt:=(Array.getElem?_eq_some_iff.1 h0).1
 have hcm:=hst (w.at d) (hF.mates.sat 0 H rfl)
 have hcm':stepG P (0==0) g (w.at d)=.comm g₁ #[rcase c z] true (.recv true) (w.at d) #[]:=hcm
 have e0:MemOp.ofEvents 0 g.frame.fn g.frame.place #[]=#[]:=rfl
 obtain ⟨cl,r,hch,hcl⟩:=hF.openW
 by_cases hp:partners (gs.setIfInBounds 0 ph) c true=[]
 ·cases cl with
  | true=>
   have hrT:=crowd_recv_closed (P:=P) (sl:=sl') (i:=0) h0 hcm' hch hp
   rw [e0,Array.empty_append] at hrT
   obtain ⟨rfl,_⟩:=hcl rfl
   exact Ends.next (hst'.trans hrT) (hc rfl _ _ _ _ _ _ _ _ _ _ hF ⟨r,hch⟩ h0)
  | false=>
   have hrT:=crowd_waits (P:=P) (sl:=sl') (i:=0) h0 hcm' (Bv9 hch hp)
   rw [e0] at hrT
   refine Ends.next (hst'.trans hrT) ?_
   rw [Array.append_empty]
   have hF':WI P W (.busy c b ty n 0 L true D) H (gs.setIfInBounds 0 (parked g₁ #[rcase c z] (.recv true))) (w.at d) t μ 1 q Sh:=by
    have:=hF.zero_put (γ':=.busy c b ty n 0 L true D) (u:=#[]) (H':=H) (w':=w.at d) (Azv.set (g':=parked g₁ #[rcase c z] (.recv true))) ⟨rfl,rfl,rfl⟩ (by rw [Array.append_empty];exact hF.mates) (by simp) (by simp) hF.shun hF.base (fun b o hb=>hF.owns 0 H b o rfl hb) (by rw [Array.append_empty];exact hF.deaf0) (fun _ _ h=>h) (by rw [Array.append_empty];exact hF.still)
    rwa [Array.append_empty] at this
   refine Cji (W:=W) hn hs (μ,1) _ _ _ _ _ _ hF' ⟨r,hch⟩ (fun j y hj hb=>?_) (Array.getElem?_setIfInBounds_self_of_lt hlt)
   obtain ⟨ρ,_,h2⟩:=hF'.oth j y hj
   refine h2.blk hb fun K v hq=>?_
   rcases h2.status with hs | (⟨_,hs⟩ | ⟨_,hs⟩) | ⟨K',v',g₂,zz,hq',rfl⟩ | ⟨K',hs,_⟩
   ·exact hs
   ·rw [hq] at hs;cases hs
   ·rw [hq] at hs;cases hs
   ·exfalso
    rw [Array.getElem?_setIfInBounds_ne (by omega)] at hj
    have:(j+1,0)∈partners (gs.setIfInBounds 0 ph) c true:=mem_partners.2 ⟨_,by rw [Array.getElem?_setIfInBounds_ne (by omega)];exact hj,by rw [show GhW.chan (.busy c b ty n 0 L true D)=c from rfl,offersAt_parked_send,if_pos rfl];simp⟩
    rw [hp] at this;cases this
   ·rw [hq] at hs;cases hs
 ·have hall:∀j k,(j,k)∈partners (gs.setIfInBounds 0 ph) c true->k=0/\∃j',j=j'+1/\∃K v g₂ zz,q (j'+1)=.work K v/\gs[j'+1]?=some (parked g₂ #[scase c v zz] .send):=fun j k hm=>by
   obtain ⟨y,hy,hk⟩:=mem_partners.1 hm
   rcases getElem?_stand gs 0 j y hy with ⟨_,rfl⟩ | ⟨hj0,hy⟩
   ·rw [offersAt_ph] at hk;cases hk
   ·obtain ⟨j',rfl⟩:∃j',j=j'+1:=⟨j-1,by omega⟩
    obtain ⟨h1,K,v,g₂,zz,h2,h3⟩:=hF.offerS hy hk
    exact ⟨h1,j',rfl,K,v,g₂,zz,h2,hy.trans (congrArg some h3)⟩
  have hclf:cl=false:=by
   cases cl with
   | false=>rfl
   | true=>
    obtain ⟨⟨j,k⟩,hjk⟩:=List.exists_mem_of_ne_nil _ hp
    obtain ⟨_,j',rfl,K,v,_,_,hq,_⟩:=hall j k hjk
    rcases (hcl rfl).2 (j'+1) with ⟨dd,hd⟩ | hd<;>rw [hq] at hd<;>cases hd
  subst hclf
  obtain ⟨j,gj,vj,zj,shj,d2,hj0,hgj,hrT⟩:=crowd_recv_meets_some (P:=P) (sl:=sl') (i:=0) h0 hcm' hch hp (fun j k hm=>by
   obtain ⟨h1,j',rfl,K,v,g₂,zz,_,h3⟩:=hall j k hm
   exact ⟨h1,by omega,_,_,_,_,h3⟩)
  obtain ⟨j,rfl⟩:∃j',j=j'+1:=⟨j-1,by omega⟩
  have hltj:=(Array.getElem?_eq_some_iff.1 hgj).1
  obtain ⟨ρ,hρ,h2⟩:=hF.oth j _ hgj
  generalize hqj:q (j+1)=pj at h2
  have hpar:∃K g₂ zz ρ₂,pj=.work K vj/\shj=.send/\parked gj #[scase c vj zj] shj=parked g₂ #[scase c vj zz] .send/\OthW P c b ty ρ₂ (Go.Conc.served g₂ undef) (.sent K):=by
   have hb:(parked gj #[scase c vj zj] shj).status=.blocked:=rfl
   have hof:(parked gj #[scase c vj zj] shj).offers=some (#[scase c vj zj],shj):=rfl
   generalize hy:parked gj #[scase c vj zj] shj=y at h2 hb hof
   cases h2 with
   | park x hn=>
    rename_i g₂ zz K v
    have h3:some (#[scase c v zz],CommShape.send)=some (#[scase c vj zj],shj):=hof
    simp [scase] at h3
    obtain ⟨⟨rfl,rfl⟩,rfl⟩:=h3
    exact ⟨K,g₂,_,_,rfl,rfl,rfl,hn⟩
   | fin hf=>rw [hf] at hb;cases hb
   | gfin hf=>rw [hf] at hb;cases hb
   | acq x hr ho hb' ha hn hg=>
    rcases hg with rfl | rfl
    ·rw [hr] at hb;cases hb
    ·have h3:some (#[scase c vj zj],shj)=(none:Option (Array CommCase×CommShape)):=hof.symm.trans ho
     cases h3
   | _=>exact absurd ((‹y.status=.running›).symm.trans hb) (by simp)
  obtain ⟨K,g₂,zz,ρ₂,rfl,rfl,hpe,hn2⟩:=hpar
  have hF2:=hF.at d2
  obtain ⟨r',L',hch',hperm,hres⟩:=hF2.meetW hqj hρ
  rw [e0,Array.empty_append] at hrT
  have hrr:r'=r:=by have:(w.at d).heap[c]?=some (.chan 0 #[] false r' r' false):=hch';rw [hch] at this;simp at this;omega
  subst hrr
  refine Ends.next (hst'.trans hrT) (hn vj L' hperm _ _ _ _ _ _ _ _ (hres _ _ _ _ _ _ _ ⟨by simp,fun m y' hm hm0 hy=>⟨y',?_,fun _ h=>h,id⟩⟩ ?_ hn2) ?_)
  ·rwa [Array.getElem?_setIfInBounds_ne (Ne.symm hm0),Array.getElem?_setIfInBounds_ne (Ne.symm hm)] at hy
  ·rw [Array.getElem?_setIfInBounds_ne (by omega),Array.getElem?_setIfInBounds_self_of_lt hltj,Cz9 hpe,finishComm_send]
  ·exact Array.getElem?_setIfInBounds_self_of_lt (by simpa using hlt)
theorem By8 {Post:Value->World->Prop} {g:Goroutine} (hrun:g.status=.running)
  (hmain:∀gs w sl t μ e q Sh d sl',WI P W (.busy c b ty n 0 [] true D) H gs (w.at d) t μ e q Sh->(∃r,(w.at d).heap[c]?=some (.chan 0 #[] true r r false))->gs[0]?=some g->stepT P (crowd gs w sl)=runT P (crowd gs (w.at d) sl') 0->Ends P Post (crowd gs w sl) t) :
  ∀(y:List Rw×Nat) gs w sl t q Sh,WI P W (.busy c b ty n 0 [] true D) H gs w t y.1 y.2 q Sh->(∃r,w.heap[c]?=some (.chan 0 #[] true r r false))->gs[0]?=some g->Ends P Post (crowd gs w sl) t:=by
 intro y
 induction LexW.acc y with
 | intro y _ ih=>
  intro gs w sl t q Sh h hcl h0
  obtain ⟨i,x,d,sl',hi,hx,hst⟩:=crowd_pick (P:=P) (w:=w) (sl:=sl) (h.awakeW h0 (Bji (.inl hrun))) ⟨0,g,h0,hrun⟩
  cases i with
  | zero=>exact hmain gs w sl t y.1 y.2 q Sh d sl' (h.at d) hcl h0 hst
  | succ i=>
   obtain ⟨r,hcl⟩:=hcl
   cases (h.at d).other (sl:=sl') hi hx h0 (fun _ _ _ _=>woken_run hrun) with
   | go hr hl hF h0' hch' _=>
    refine Ends.next (hst.trans hr) (ih _ hl _ _ _ _ _ _ hF ?_ h0')
    rcases hch' with hch' | hch'
    ·exact ⟨r,by rw [<-hcl];exact hch'⟩
    ·cases hch'
   | shut hγ hr hc hw hgr hl hF=>
    cases hγ
    refine Ends.next (hst.trans hr) (ih _ hl _ _ _ _ _ _ hF ⟨_,Avl hc⟩ ?_)
    rw [Array.getElem?_setIfInBounds_ne (by omega),Array.getElem?_map,h0,Option.map_some,woken_run hrun]
   | send hq hρ hs l1 l2 hp hn=>
    obtain ⟨cl,r2,h1,h2⟩:=h.openW
    rw [hcl] at h1
    have:cl=true:=by simp at h1;first | exact h1.1 | exact h1.1.symm
    rcases (h2 this).2 (i+1) with ⟨dd,hd⟩ | hd<;>rw [hq] at hd<;>cases hd
theorem WI.noPartner (h:WI P W (.busy c b ty n d L true D) H gs w t μ e q Sh) (hcl:∃r,w.heap[c]?=some (.chan 0 #[] true r r false)):partners (gs.setIfInBounds 0 ph) c true=[]:=by
 obtain ⟨r,hcl⟩:=hcl
 refine partners_nil fun j y hj=>?_
 rcases getElem?_stand gs 0 j y hj with ⟨_,rfl⟩ | ⟨hj0,hj⟩
 ·exact offersAt_ph _ _
 ·obtain ⟨j',rfl⟩:∃j',j=j'+1:=⟨j-1,by omega⟩
  apply List.eq_nil_iff_forall_not_mem.2
  intro m hm
  obtain ⟨_,K,v,_,_,hq,_⟩:=h.offerS hj hm
  obtain ⟨cl,r2,h1,h2⟩:=h.openW
  rw [hcl] at h1
  have:cl=true:=by simp at h1;first | exact h1.1 | exact h1.1.symm
  rcases (h2 this).2 (j'+1) with ⟨dd,hd⟩ | hd<;>rw [hq] at hd<;>cases hd
theorem Dq9 (h:WI P W γ H gs w t μ e q Sh) {w':World} (hw:w'.heap[γ.chan]?=w.heap[γ.chan]?∨γ=.idle):(∃cap buf s r tm,w'.heap[γ.chan]?=some (.chan cap buf false s r tm))∨∀j K v,q j≠.work K v:=by
 rcases hw with hw | rfl
 ·rw [hw];exact h.openC
 ·exact .inr fun j K v hj=>by obtain ⟨d,hd⟩:=h.still j;rw [hj] at hd;cases hd
theorem FanW.ends {Post:Value->World->Prop} {T:Goroutine->Hp->Prop} (hT:∀g H,T g H->g.status=.running/\∀w,Sat H w->Base W w->∃v es,stepG P true g w=.ended (.done v) w es/\Moves H w es H w/\Post v w) {g:Goroutine}
  (h:FanW P T γ g H):∀gs w sl t μ e q Sh,WI P W γ H gs w t μ e q Sh->gs[0]?=some g->Ends P Post (crowd gs w sl) t:=by
 induction h with
 | stop hg hl=>
  rename_i g H H₀
  obtain ⟨hrun,hend⟩:=hT _ _ hg
  intro gs w sl t μ e q Sh hW0 h00
  refine Ajb (W:=W) hrun (fun gs w sl t μ e q Sh d sl' hF h0 hst=>?_) (μ,e) gs w sl t q Sh hW0 h00
  obtain ⟨v,es,h1,hm,hp⟩:=hend (w.at d) ((hF.mates.sat 0 _ rfl).mono hl) hF.base
  have hrunT:=runT_many_ended (P:=P) (sl:=sl') (i:=0) h0 (show stepG P (0==0) g (w.at d)=_ from h1)
  have hF':=hF.move0 (fn:=g.frame.fn) (pos:=g.frame.place) (Azv.set (g':=g)) (hm.more hl)
  have hoff:∀i,∃d,q i=.off d:=hF'.still
  refine Ends.now (hst.trans hrunT) ⟨v,rfl,hp,hF'.mates.clean,fun i k hk hk0 hc=>?_,⟨fun x hx=>?_,rfl⟩,fun j x hx hj=>?_⟩
  ·obtain ⟨a,ha,_,hk2⟩:=hc
   rcases hF'.over i a ha with ⟨q',z,hz,hzg,hb⟩ | ⟨x,hr,_⟩ | ⟨h3,h4,_⟩ | ⟨_,x,hr⟩
   ·refine ⟨q',by simp [Trace.g?,hz,hzg],hb.elim (fun e=>?_) id⟩
    subst e
    simp [Trace.g?,hz,hzg] at hk
    exact absurd hk.symm hk0
   ·obtain ⟨dd,hd⟩:=hoff x
    rw [hd] at hr;cases hr
   ·rcases hk2 with hk2 | hk2
    ·exact absurd h3 hk2
    ·exact absurd hk2 h4
   ·obtain ⟨dd,hd⟩:=hoff x
    rw [hd] at hr;cases hr
  ·obtain ⟨j,hj⟩:=List.mem_iff_getElem?.1 hx
   rw [List.getElem?_drop] at hj
   obtain ⟨ρ,_,ho⟩:=hF.oth j x (by rw [Nat.add_comm];simpa [crowd] using hj)
   obtain ⟨dd,hd⟩:=hoff (j+1)
   rw [hd] at ho
   obtain ⟨n,hn⟩:=ho.quits rfl
   exact ⟨_,hn.leaves⟩
  ·obtain ⟨i,rfl⟩:∃i,j=i+1:=⟨j-1,by omega⟩
   obtain ⟨ρ,_,ho⟩:=hF.oth i x hx
   obtain ⟨dd,hd⟩:=hoff (i+1)
   rw [hd] at ho
   obtain ⟨n,hn⟩:=ho.quits rfl
   refine ⟨n,?_⟩
   have e1:Deaf (t++MemOp.ofEvents 0 g.frame.fn g.frame.place es) (i+1)=dd:=by rw [hF'.deaf _ (by omega),hd];rfl
   have e2:(t++MemOp.ofEvents 0 g.frame.fn g.frame.place es).deaf (i+1) (t++MemOp.ofEvents 0 g.frame.fn g.frame.place es).size=dd:=e1
   rw [e2]
   exact hn.hears _
 | step S hs h ht ih=>
  rename_i γ g H
  intro gs w sl t μ e q Sh hW0 h00
  refine Ajb (W:=W) hs (fun gs w sl t μ e q Sh d sl' hF h0 hst=>?_) (μ,e) gs w sl t q Sh hW0 h00
  obtain ⟨g',w',es,H',h1,hm,hS⟩:=h (w.at d) (hF.mates.sat 0 _ rfl)
  have hrunT:=runT_crowd_go (P:=P) (sl:=sl') (i:=0) h0 (show stepG P (0==0) _ (w.at d)=_ from h1)
  have hch:w'.heap[γ.chan]?=(w.at d).heap[γ.chan]?∨γ=.idle:=by
   cases γ with
   | idle=>exact .inr rfl
   | busy c b ty n d' L cz D=>
    obtain ⟨cl,r,st,sm,k,hB,_⟩:=hF.still
    exact .inl (Azb hm (hB.none 0 _ rfl).1 (lt_of_heap hB.chan))
  exact Ends.next (hst.trans hrunT) (ih g' H' hS _ _ _ _ _ _ _ _ (hF.move0 (Azv.woken hF (Dq9 hF hch)) hm) (Array.getElem?_setIfInBounds_self_of_lt (by simpa using (Array.getElem?_eq_some_iff.1 h0).1)))
 | opn h h' hD _ ih=>exact fun gs w sl t μ e q Sh hF h0=>ih _ _ _ _ _ _ _ _ (hF.opn h h' hD) h0
 | mark hs hm h _ ih=>
  intro gs w sl t μ e q Sh hW0 h00
  refine Ajb (W:=W) hs (fun gs w sl t μ e q Sh d sl' hF h0 hst=>?_) (μ,e) gs w sl t q Sh hW0 h00
  obtain ⟨st,sm,hw⟩:=hF.wgC
  have hrunT:=runT_crowd_go (P:=P) (sl:=sl') (i:=0) h0 (show stepG P (0==0) _ (w.at d)=_ from h (w.at d) st sm (hF.mates.sat 0 _ rfl) hw)
  exact Ends.next (hst.trans hrunT) (ih _ _ _ _ _ _ _ _ (hF.mark0 (Azv.woken hF hF.openC) hm) (Array.getElem?_setIfInBounds_self_of_lt (by simpa using (Array.getElem?_eq_some_iff.1 h0).1)))
 | add hs hn1 h _ ih=>
  intro gs w sl t μ e q Sh hW0 h00
  refine Ajb (W:=W) hs (fun gs w sl t μ e q Sh d sl' hF h0 hst=>?_) (μ,e) gs w sl t q Sh hW0 h00
  have hrunT:=runT_crowd_go (P:=P) (sl:=sl') (i:=0) h0 (show stepG P (0==0) _ (w.at d)=_ from h (w.at d) (hF.mates.sat 0 _ rfl) hF.addAt)
  have hne:=(show _≠_ from by obtain ⟨_,_,_,_,_,hB,_⟩:=hF.still;exact hB.ne)
  exact Ends.next (hst.trans hrunT) (ih _ _ _ _ _ _ _ _ (hF.add0 hn1 (Azv.woken hF (Dq9 hF (.inl (Avv hne))))) (Array.getElem?_setIfInBounds_self_of_lt (by simpa using (Array.getElem?_eq_some_iff.1 h0).1)))
 | spawn hs h hc hH ho hn ih=>
  intro gs w sl t μ e q Sh hW0 h00
  refine Ajb (W:=W) hs (fun gs w sl t μ e q Sh d sl' hF h0 hst=>?_) (μ,e) gs w sl t q Sh hW0 h00
  obtain ⟨ρ,hρ⟩:=ho
  have hrunT:=runT_crowd_spawn (P:=P) (sl:=sl') (i:=0) h0 (show stepG P (0==0) _ (w.at d)=_ from h (w.at d) (hF.mates.sat 0 _ rfl))
  have hlt:=(Array.getElem?_eq_some_iff.1 h0).1
  refine Ends.next (hst.trans hrunT) (ih _ _ _ _ _ _ _ _ (hF.start hlt hc hH hρ (.inl ⟨rfl,rfl,rfl⟩)) ?_)
  rw [Array.getElem?_push_lt (by simpa using hlt)]
  simp [hlt]
 | hire hs hl h hc hH ho hn ih=>
  intro gs w sl t μ e q Sh hW0 h00
  refine Ajb (W:=W) hs (fun gs w sl t μ e q Sh d sl' hF h0 hst=>?_) (μ,e) gs w sl t q Sh hW0 h00
  obtain ⟨ρ,hρ⟩:=ho
  have hrunT:=runT_crowd_spawn (P:=P) (sl:=sl') (i:=0) h0 (show stepG P (0==0) _ (w.at d)=_ from h (w.at d) (hF.mates.sat 0 _ rfl))
  have hlt:=(Array.getElem?_eq_some_iff.1 h0).1
  refine Ends.next (hst.trans hrunT) (ih _ _ _ _ _ _ _ _ (hF.start (v:=undef) hlt hc hH hρ (.inr ⟨rfl,rfl,rfl,hl⟩)) ?_)
  rw [Array.getElem?_push_lt (by simpa using hlt)]
  simp [hlt]
 | recv hs hL h hn ih=>
  exact fun gs w sl t μ e q Sh hF h0=>Bwe (W:=W) hs h (fun v L' hp gs w sl t μ e q Sh hF h0=>ih v L' hp _ _ _ _ _ _ _ _ hF h0) (fun h=>absurd h hL) (fun h=>absurd h hL) gs w sl t μ e q Sh hF h0
 | shut hs h ht hG hn ih=>
  rename_i c b n ty D g g₁ z H G
  have hend:∀(g₀:Goroutine) gs w sl sl' t μ e q Sh d,(∀w,Sat H w->stepG P true g₀ w=.comm g₁ #[rcase c z] true (.recv true) w #[])->WI P W (.busy c b ty n 0 [] true D) H gs (w.at d) t μ e q Sh->(∃r,(w.at d).heap[c]?=some (.chan 0 #[] true r r false))->gs[0]?=some g₀->stepT P (crowd gs w sl)=runT P (crowd gs (w.at d) sl') 0->Ends P Post (crowd gs w sl) t:=by
   intro g₀ gs w sl sl' t μ e q Sh d hg hF hcl h0 hst
   have hlt:=(Array.getElem?_eq_some_iff.1 h0).1
   obtain ⟨r,hch⟩:=hcl
   have hrT:=crowd_recv_closed (P:=P) (sl:=sl') (i:=0) h0 (show stepG P (0==0) g₀ (w.at d)=_ from hg (w.at d) (hF.mates.sat 0 _ rfl)) hch (hF.noPartner ⟨r,hch⟩)
   have e0:MemOp.ofEvents 0 g₀.frame.fn g₀.frame.place #[]=#[]:=rfl
   rw [e0,Array.empty_append] at hrT
   obtain ⟨q',hF'⟩:=hF.shutW (f₁:=g₁.frame.fn) (p₁:=g₁.frame.place) ⟨r,hch⟩ (Azv.set (g':=g₁.finishComm P #[rcase c z] (.recv true) 0 z false)) hG
   exact Ends.next (hst.trans hrT) (ih _ _ _ _ _ _ _ _ hF' (Array.getElem?_setIfInBounds_self_of_lt hlt))
  intro gs w sl t μ e q Sh hF h0
  refine Bwe (W:=W) hs h (fun v L' hp=>by have:=hp.length_eq;simp at this) (fun _ gs w sl t μ e q Sh hF hcl h0=>?_) (fun _ gs w sl t μ e q Sh f p hF hcl h0=>?_) gs w sl t μ e q Sh hF h0
  ·refine By8 (W:=W) rfl (fun gs w sl t μ e q Sh d sl' hF hcl h0 hst=>hend _ gs w sl sl' t μ e q Sh d (fun w hw=>?_) hF hcl h0 hst) (μ,e) gs w sl t q Sh hF hcl h0
   rw [stepG_tries]
   exact ht w hw
  ·obtain ⟨q',hF'⟩:=hF.shutW (f₁:=f) (p₁:=p) hcl (Azv.set (g':=g₁.finishComm P #[rcase c z] (.recv true) 0 z false)) hG
   exact ih _ _ _ _ _ _ _ _ hF' (Array.getElem?_setIfInBounds_self_of_lt (Array.getElem?_eq_some_iff.1 h0).1)
end
end Go.X
end
