/- Texts Ends Good WMates WTh WInv WHands. -/
import Derived.Test.YtaehjjbekjglkaaGreatDoorJ01
import Derived.Conc.Deaf
import Derived.Conc.CrowdComm
import Derived.Conc.MarkLaws
set_option linter.defProp false
set_option linter.unusedSimpArgs false
set_option linter.unusedVariables false
set_option maxRecDepth 100000
set_option maxHeartbeats 2000000
section
namespace Go.X
open Go
open Go.Conc
open Go.ConcN (upd upd_same upd_ne)
section
variable {P:Program} {W:World} {γ:Gh} {H H':Hp} {gs:Array Goroutine} {w w':World} {t:Trace} {μ:List Rk} {ro:Ro} {bf:List Nat} {c cap:Nat} {L:List Value} {D:Nat->Prop}
def Ends (P:Program) (Post:Value->World->Prop) (m:Machine) (t:Trace):Prop:=
 ∃N last o w' t',runNT P (N+1) m t=(.ended o w',t')/\runN P N m=.next last/\step P last=.ended o w'/\Good P Post last o w' t'
theorem Ends.next {Post:Value->World->Prop} {m m':Machine} {ops:Array MemOp} (h:stepT P m=(.next m',ops)) (h':Ends P Post m' (t++ops)):Ends P Post m t:=by
 obtain ⟨N,last,o,w',t',h1,h2,h3,h4⟩:=h'
 exact ⟨N+1,last,o,w',t',by rw [runNT_succ_next h];exact h1,by rw [runN_succ_next h];exact h2,h3,h4⟩
theorem Ends.now {Post:Value->World->Prop} {m:Machine} {o:Outcome} {w:World} {ops:Array MemOp} (h:stepT P m=(.ended o w,ops)) (h':Good P Post m o w (t++ops)):Ends P Post m t:=
 ⟨0,m,o,w,t++ops,by simp [runNT,h],rfl,by simp [step,h],h'⟩
theorem Bji {g:Goroutine} (h:g.status=.running∨g.status=.finished):∀t,g.status≠.sleeping t:=fun t e=>by rcases h with h | h<;>rw [h] at e<;>cases e
theorem Cjs {g g' x:Goroutine} (h:x.status=.running∨x.status=.finished):woken P g g' w x=x:=by
 unfold woken
 split
 ·exact again_running _ h
 ·rfl
end
end Go.X
end
section
namespace Go.X
open Go
open Go.Conc
def Ays (w:World):Hp:=fun b=>(w.heap[b]?).map fun o=>(false,o)
theorem Ayt {w:World} {b:Nat} {p:Bool} {o:Obj} (h:Ays w b=some (p,o)):p=false/\w.heap[b]?=some o:=by
 simp only [Ays,Option.map_eq_some_iff,Prod.mk.injEq] at h
 obtain ⟨o',h1,h2,rfl⟩:=h
 exact ⟨h2.symm,h1⟩
end Go.X
end
section
namespace Go.X
open Go
open Go.Conc
open Go.ConcN (upd upd_same upd_ne)
structure Azf (t:Trace) (w:World) (hp:Nat->Option Hp):Prop where
 sat:∀x K,hp x=some K->Sat K w
 excl:∀x y K K',x≠y->hp x=some K->hp y=some K'->∀b o,K b=some (true,o)->K' b=none
 kn:∀x K,hp x=some K->∀b p o,K b=some (p,o)->∀i a,touchAt t i=some a->Awz a.loc=some b->Knows t x i∨(p=false/\a.write=false)
 clean:∀said,¬Race said t
 low:∀i a b,touchAt t i=some a->Awz a.loc=some b->b<w.heap.size
section
variable {t:Trace} {w w':World} {hp:Nat->Option Hp} {K K':Hp} {x:Nat} {es:Array Event} {fn:FuncId} {pos:String}
theorem Azf.own (h:Azf t w hp) (hx:hp x=some K) (hm:Moves K w es K' w'):Azf (t++MemOp.ofEvents x fn pos es) w' (upd hp x (some K')) where
 sat:=fun y L hy=>by
  by_cases hyx:y=x
  ·subst hyx;rw [upd_same] at hy;cases hy;exact hm.sat
  ·rw [upd_ne _ _ hyx] at hy
   intro b p o hb
   rw [hm.frame b ((h.sat y L hy).lt hb) fun o' ho'=>by rw [h.excl x y K L (Ne.symm hyx) hx hy b o' ho'] at hb;cases hb]
   exact h.sat y L hy b p o hb
 excl:=fun y z L L' hyz hy hz b o hb=>by
  by_cases hyx:y=x
  ·subst hyx
   rw [upd_same] at hy;cases hy
   rw [upd_ne _ _ (Ne.symm hyz)] at hz
   rcases hm.own b true o hb with ⟨o',ho',_⟩ | ⟨h1,_⟩
   ·exact h.excl y z K L' hyz hx hz b o' ho'
   ·cases hl:L' b with
    | none=>rfl
    | some q=>obtain ⟨p',o'⟩:=q;exact absurd ((h.sat z L' hz).lt hl) (by omega)
  ·rw [upd_ne _ _ hyx] at hy
   by_cases hzx:z=x
   ·subst hzx
    rw [upd_same] at hz;cases hz
    have hn:=h.excl y z L K hyz hy hx b o hb
    cases hl:K' b with
    | none=>rfl
    | some q=>
     obtain ⟨p',o'⟩:=q
     rcases hm.own b p' o' hl with ⟨o'',ho'',_⟩ | ⟨h1,_⟩
     ·rw [hn] at ho'';cases ho''
     ·exact absurd ((h.sat y L hy).lt hb) (by omega)
   ·rw [upd_ne _ _ hzx] at hz
    exact h.excl y z L L' hyz hy hz b o hb
 kn:=fun y L hy b p o hb i a ha hab=>by
  rcases touchAt_new ha with ⟨_,ha'⟩ | ⟨_,op,hop,hoi,hoa⟩
  ·by_cases hyx:y=x
   ·subst hyx
    rw [upd_same] at hy;cases hy
    rcases hm.own b p o hb with ⟨o',ho',_⟩ | ⟨h1,_⟩
    ·exact (h.kn y K hx b p o' ho' i a ha' hab).imp (·.app _) id
    ·exact absurd (h.low i a b ha' hab) (by omega)
   ·rw [upd_ne _ _ hyx] at hy
    exact (h.kn y L hy b p o hb i a ha' hab).imp (·.app _) id
  ·obtain ⟨e,he,rfl⟩:=Go.Conc.mem_ofEvents hop
   by_cases hyx:y=x
   ·subst hyx
    exact .inl (knows_own hoi)
   ·rw [upd_ne _ _ hyx] at hy
    obtain ⟨_,b',hb',hc⟩:=(hm.evs e he).touch hoa
    obtain rfl:b'=b:=Option.some.inj (hb'.symm.trans hab)
    rcases hc with ⟨o',ho'⟩ | hc | ⟨hw,o',ho'⟩
    ·rw [h.excl x y K L (Ne.symm hyx) hx hy _ _ ho'] at hb;cases hb
    ·exact absurd ((h.sat y L hy).lt hb) (by omega)
    ·cases p with
     | false=>exact .inr ⟨rfl,hw⟩
     | true=>rw [h.excl y x L K hyx hy hx _ _ hb] at ho';cases ho'
 clean:=fun said=>noRace_append (g:=x) (h.clean said) (fun op hop=>by obtain ⟨e,_,rfl⟩:=Go.Conc.mem_ofEvents hop;rfl) fun i a ha op hop c hc hcf=>by
  obtain ⟨e,he,rfl⟩:=Go.Conc.mem_ofEvents hop
  obtain ⟨_,b,hb,hk⟩:=(hm.evs e he).touch hc
  obtain ⟨hl,hmem,hwr,_⟩:=hcf
  have hab:Awz a.loc=some b:=by rw [hl];exact hb
  rcases hk with ⟨o',ho'⟩ | hk | ⟨hw,o',ho'⟩
  ·exact (h.kn x K hx b true o' ho' i a ha hab).elim id fun ⟨hp',_⟩=>by cases hp'
  ·exact absurd (h.low i a b ha hab) (by omega)
  ·refine (h.kn x K hx b false o' ho' i a ha hab).elim id fun ⟨_,haw⟩=>?_
   rw [haw,hw] at hwr
   simp at hwr
 low:=fun i a b ha hab=>by
  rcases touchAt_new ha with ⟨_,ha'⟩ | ⟨_,op,hop,hoi,hoa⟩
  ·exact Nat.lt_of_lt_of_le (h.low i a b ha' hab) hm.size
  ·obtain ⟨e,he,rfl⟩:=Go.Conc.mem_ofEvents hop
   obtain ⟨hl,_⟩:=(hm.evs e he).touch hoa
   exact hm.low e he b (by rw [<-hl];exact hab)
theorem Azf.mute (h:Azf t w hp) {u:Trace} (hu:∀op∈u,op.act.touch?=none) (hs:w.heap.size<=w'.heap.size)
  (hk:∀y L b q,hp y=some L->L b=some q->w'.heap[b]?=w.heap[b]?):Azf (t++u) w' hp where
 sat:=fun y L hy b p o hb=>by rw [hk y L b _ hy hb];exact h.sat y L hy b p o hb
 excl:=h.excl
 kn:=fun y L hy b p o hb i a ha hab=>by
  rcases touchAt_new ha with ⟨_,ha'⟩ | ⟨_,op,hop,_,hoa⟩
  ·exact (h.kn y L hy b p o hb i a ha' hab).imp (·.app _) id
  ·rw [hu op hop] at hoa;cases hoa
 clean:=fun said=>By0 (h.clean said) hu
 low:=fun i a b ha hab=>by
  rcases touchAt_new ha with ⟨_,ha'⟩ | ⟨_,op,hop,_,hoa⟩
  ·exact Nat.lt_of_lt_of_le (h.low i a b ha' hab) hs
  ·rw [hu op hop] at hoa;cases hoa
theorem Azf.less (h:Azf t w hp) {hq:Nat->Option Hp} (hl:∀y L,hq y=some L->∃M,hp y=some M/\∀b p o,L b=some (p,o)->∃p',M b=some (p',o)/\(p=true->p'=true)):Azf t w hq where
 sat:=fun y L hy b p o hb=>by
  obtain ⟨M,hM,hLM⟩:=hl y L hy
  obtain ⟨p',hb',_⟩:=hLM b p o hb
  exact h.sat y M hM b p' o hb'
 excl:=fun y z L L' hyz hy hz b o hb=>by
  obtain ⟨M,hM,hLM⟩:=hl y L hy
  obtain ⟨M',hM',hLM'⟩:=hl z L' hz
  obtain ⟨p',hb',hp'⟩:=hLM b true o hb
  obtain rfl:=hp' rfl
  have:=h.excl y z M M' hyz hM hM' b o hb'
  cases hL:L' b with
  | none=>rfl
  | some q=>obtain ⟨p,o'⟩:=q;obtain ⟨_,hb'',_⟩:=hLM' b p o' hL;rw [this] at hb'';cases hb''
 kn:=fun y L hy b p o hb i a ha hab=>by
  obtain ⟨M,hM,hLM⟩:=hl y L hy
  obtain ⟨p',hb',hp'⟩:=hLM b p o hb
  refine (h.kn y M hM b p' o hb' i a ha hab).imp id fun ⟨h1,h2⟩=>⟨?_,h2⟩
  cases p with
  | false=>rfl
  | true=>rw [hp' rfl] at h1;cases h1
 clean:=h.clean
 low:=h.low
theorem Bkn {g d:Nat} {y:MemOp} (h:∀m,y.act≠.mark m):deafStep g d y=d:=by
 unfold deafStep
 split<;>first | rfl | exact absurd ‹_› (h _)
theorem Ayx {u:Trace} {g:Nat} (h:∀op∈u,∀m,op.act≠.mark m):∀k,k<=u.size->(t++u).deaf g (t.size+k)=Deaf t g
 | 0,_=>by rw [Nat.add_zero,deaf_old (Nat.le_refl _)];rfl
 | k+1,hk=>by
  have hy:(t++u)[t.size+k]?=some u[k]:=by rw [Array.getElem?_append_right (by omega)];simp
  rw [<-Nat.add_assoc,deaf_succ hy,Bkn (h _ (Array.getElem_mem _)),Ayx h k (by omega)]
theorem Akg {u:Trace} {g:Nat} (h:∀op∈u,∀m,op.act≠.mark m):Deaf (t++u) g=Deaf t g:=by
 have:=Ayx (t:=t) (g:=g) h u.size (Nat.le_refl _)
 rwa [<-Array.size_append] at this
theorem heard_new {u:Trace} {k:Nat} {op:MemOp} (hk:u[k]?=some op) (h:∀op∈u,∀m,op.act≠.mark m) (hd:Deaf t op.g=0):(t++u).heard (t.size+k):=by
 have hlt:=(Array.getElem?_eq_some_iff.1 hk).1
 refine ⟨op.g,?_,by rw [Ayx h k (by omega)];exact hd⟩
 have:(t++u)[t.size+k]?=some op:=by rw [Array.getElem?_append_right (by omega)];simpa using hk
 simp [Trace.g?,this]
theorem Ak0 {u:Trace} {k:Nat} {op:MemOp} (h:u[k]?=some op):(t++u)[t.size+k]?=some op:=by
 rw [Array.getElem?_append_right (by omega)];simpa using h
theorem Azf.spawn (h:Azf t w hp) {n:Nat} {H Hc:Hp} {f₁ f₂:FuncId} {p₁ p₂:String} (h0:hp 0=some H) (hn:hp n=none) (hn0:n≠0) (hd0:Deaf t 0=0) (hdn:Deaf t n=0)
  (hc:∀b p o,Hc b=some (p,o)->p=false/\H b=some (false,o)) :
  Azf (t++#[{ g:=0,fn:=f₁,pos:=p₁,act:=.go n },{ g:=n,fn:=f₂,pos:=p₂,act:=.start }]) w (upd hp n (some Hc)) /\
  ∀i,Knows t 0 i->Knows (t++#[{ g:=0,fn:=f₁,pos:=p₁,act:=.go n },{ g:=n,fn:=f₂,pos:=p₂,act:=.start }]) n i:=by
 have hmk:∀op∈(#[({ g:=0,fn:=f₁,pos:=p₁,act:=.go n }:MemOp),{ g:=n,fn:=f₂,pos:=p₂,act:=.start }]:Trace),∀m,op.act≠.mark m:=fun op hop m hm=>by simp at hop;rcases hop with rfl | rfl<;>cases hm
 have hm:Azf (t++#[({ g:=0,fn:=f₁,pos:=p₁,act:=.go n }:MemOp),{ g:=n,fn:=f₂,pos:=p₂,act:=.start }]) w hp:=
  h.mute (fun op hop=>by simp at hop;rcases hop with rfl | rfl<;>rfl) (Nat.le_refl _) fun _ _ _ _ _ _=>rfl
 have e1:=Ak0 (t:=t) (k:=0) (u:=#[({ g:=0,fn:=f₁,pos:=p₁,act:=.go n }:MemOp),{ g:=n,fn:=f₂,pos:=p₂,act:=.start }]) rfl
 have e2:=Ak0 (t:=t) (k:=1) (u:=#[({ g:=0,fn:=f₁,pos:=p₁,act:=.go n }:MemOp),{ g:=n,fn:=f₂,pos:=p₂,act:=.start }]) rfl
 have edge:HappensBefore (t++#[({ g:=0,fn:=f₁,pos:=p₁,act:=.go n }:MemOp),{ g:=n,fn:=f₂,pos:=p₂,act:=.start }]) (t.size+0) (t.size+1):=
  .single (.inr ⟨.spawn (child:=n) (by simp [Trace.act?,e1]) (by simp [Trace.act?,e2]) (by simp [Trace.g?,e2]),heard_new (k:=0) rfl hmk hd0,heard_new (k:=1) rfl hmk hdn⟩)
 have hkn:∀i,Knows t 0 i->Knows (t++#[({ g:=0,fn:=f₁,pos:=p₁,act:=.go n }:MemOp),{ g:=n,fn:=f₂,pos:=p₂,act:=.start }]) n i:=fun i hk=>
  ⟨t.size+1,_,e2,rfl,.inr ((hk.hb_new (j:=t.size+0) (by omega) e1 rfl).trans edge)⟩
 refine ⟨⟨fun y L hy=>?_,fun y z L L' hyz hy hz b o hb=>?_,fun y L hy b p o hb i a ha hab=>?_,hm.clean,hm.low⟩,hkn⟩
 ·by_cases hyn:y=n
  ·subst hyn;rw [upd_same] at hy;cases hy
   exact fun b p o hb=>h.sat 0 H h0 b false o (hc b p o hb).2
  ·rw [upd_ne _ _ hyn] at hy;exact hm.sat y L hy
 ·by_cases hyn:y=n
  ·subst hyn;rw [upd_same] at hy;cases hy
   exact absurd (hc b true o hb).1 (by simp)
  ·rw [upd_ne _ _ hyn] at hy
   by_cases hzn:z=n
   ·subst hzn;rw [upd_same] at hz;cases hz
    cases hl:Hc b with
    | none=>rfl
    | some q=>
     obtain ⟨p,o'⟩:=q
     have h2:=(hc b p o' hl).2
     by_cases hy0:y=0
     ·subst hy0;rw [h0] at hy;cases hy;rw [h2] at hb;cases hb
     ·rw [h.excl y 0 L H hy0 hy h0 b o hb] at h2;cases h2
   ·rw [upd_ne _ _ hzn] at hz
    exact h.excl y z L L' hyz hy hz b o hb
 ·by_cases hyn:y=n
  ·subst hyn;rw [upd_same] at hy;cases hy
   obtain ⟨rfl,hb'⟩:=hc b p o hb
   rcases touchAt_new ha with ⟨_,ha'⟩ | ⟨_,op,hop,_,hoa⟩
   ·exact (h.kn 0 H h0 b false o hb' i a ha' hab).imp (hkn i) id
   ·simp at hop;rcases hop with rfl | rfl<;>cases hoa
  ·rw [upd_ne _ _ hyn] at hy
   exact hm.kn y L hy b p o hb i a ha hab
def SynW (t:Trace) (b k:Nat) (A:Nat->Prop):Prop:=∀i a,touchAt t i=some a->Awz a.loc=some b->(a.kind=.plain->∀x,A x->Knows t x i)/\(a.kind=.said->Knows t k i)
theorem SynW.mute {b k:Nat} {A A':Nat->Prop} (h:SynW t b k A) {u:Trace} (hu:∀op∈u,∀a,op.act.touch?=some a->Awz a.loc≠some b) (hA:∀x,A' x->A x):SynW (t++u) b k A':=fun i a ha hab=>by
 rcases touchAt_new ha with ⟨_,ha'⟩ | ⟨_,op,hop,_,hoa⟩
 ·exact ⟨fun hp x hx=>((h i a ha' hab).1 hp x (hA x hx)).app _,fun hs=>((h i a ha' hab).2 hs).app _⟩
 ·exact absurd hab (hu op hop a hoa)
theorem SynW.own {b k:Nat} {A A':Nat->Prop} (h:SynW t b k A) (hm:Moves K w es K' w') (hK:K b=none) (hb:b<w.heap.size) (hA:∀x,A' x->A x):SynW (t++MemOp.ofEvents x fn pos es) b k A':=h.mute (fun op hop a ha hab=>by
 obtain ⟨e,he,rfl⟩:=Go.Conc.mem_ofEvents hop
 obtain ⟨_,b',hb',hk⟩:=(hm.evs e he).touch ha
 obtain rfl:b'=b:=Option.some.inj (hb'.symm.trans hab)
 rcases hk with ⟨o,ho⟩ | hk | ⟨_,o,ho⟩
 ·rw [hK] at ho;cases ho
 ·omega
 ·rw [hK] at ho;cases ho) hA
theorem SynW.to {b k k':Nat} {A A':Nat->Prop} (h:SynW t b k A) {u:Trace} (hu:∀op∈u,op.act.touch?=none) (hk:∀i,Knows t k i->Knows (t++u) k' i) (hA:∀x,A' x->∃y,A y/\∀i,Knows t y i->Knows (t++u) x i):SynW (t++u) b k' A':=fun i a ha hab=>by
 rcases touchAt_new ha with ⟨_,ha'⟩ | ⟨_,op,hop,_,hoa⟩
 ·exact ⟨fun hp x hx=>let ⟨y,hy,hyx⟩:=hA x hx;hyx i ((h i a ha' hab).1 hp y hy),fun hs=>hk i ((h i a ha' hab).2 hs)⟩
 ·rw [hu op hop] at hoa;cases hoa
def Bvk (b k x:Nat) (u:Trace):Prop:=∀op∈u,op.g=x/\∀a,op.act.touch?=some a->Awz a.loc=some b/\(a.kind=.atomic∨(a.kind=.said/\x=k))
theorem Azf.sync {b k:Nat} {A:Nat->Prop} {u:Trace} (h:Azf t w hp) (hs:SynW t b k A) (hA:A x) (hu:Bvk b k x u) (hn:∀y M,hp y=some M->M b=none) (hb:b<w.heap.size) (hz:w.heap.size<=w'.heap.size)
  (hw:∀c,c≠b->w'.heap[c]?=w.heap[c]?):Azf (t++u) w' hp/\∀A':Nat->Prop,(∀y,A' y->A y)->SynW (t++u) b k A':=by
 refine ⟨⟨fun y L hy c p o hc=>?_,h.excl,fun y L hy c p o hc i a ha hac=>?_,fun said=>?_,fun i a c ha hac=>?_⟩,fun A' hA' i a ha hab=>?_⟩
 ·rw [hw c fun e=>by rw [e,hn y L hy] at hc;cases hc];exact h.sat y L hy c p o hc
 ·rcases touchAt_new ha with ⟨_,ha'⟩ | ⟨_,op,hop,_,hoa⟩
  ·exact (h.kn y L hy c p o hc i a ha' hac).imp (·.app _) id
  ·obtain ⟨_,h2⟩:=hu op hop
   obtain ⟨h3,_⟩:=h2 a hoa
   obtain rfl:b=c:=Option.some.inj (h3.symm.trans hac)
   rw [hn y L hy] at hc;cases hc
 ·refine noRace_append (g:=x) (h.clean said) (fun op hop=>(hu op hop).1) fun i a ha op hop c hc hcf=>?_
  obtain ⟨h3,h4⟩:=(hu op hop).2 c hc
  obtain ⟨hl,_,_,hk⟩:=hcf
  obtain ⟨h5,h6⟩:=hs i a ha (by rw [hl];exact h3)
  rcases h4 with h4 | ⟨h4,rfl⟩
  ·rw [h4] at hk
   rcases hk with hk | hk | ⟨_,_,hk⟩
   ·exact h5 hk x hA
   ·cases hk
   ·cases hk
  ·rw [h4] at hk
   rcases hk with hk | hk | ⟨_,hk,_⟩
   ·exact h5 hk x hA
   ·cases hk
   ·exact h6 hk
 ·rcases touchAt_new ha with ⟨_,ha'⟩ | ⟨_,op,hop,_,hoa⟩
  ·exact Nat.lt_of_lt_of_le (h.low i a c ha' hac) hz
  ·obtain ⟨h3,_⟩:=(hu op hop).2 a hoa
   obtain rfl:b=c:=Option.some.inj (h3.symm.trans hac)
   exact Nat.lt_of_lt_of_le hb hz
 ·rcases touchAt_new ha with ⟨_,ha'⟩ | ⟨_,op,hop,hoi,hoa⟩
  ·exact ⟨fun hp y hy=>((hs i a ha' hab).1 hp y (hA' y hy)).app _,fun q=>((hs i a ha' hab).2 q).app _⟩
  ·obtain ⟨hg,h2⟩:=hu op hop
   obtain ⟨_,h4⟩:=h2 a hoa
   refine ⟨fun q=>?_,fun q=>?_⟩
   ·rcases h4 with h4 | ⟨h4,_⟩<;>rw [h4] at q<;>cases q
   ·rcases h4 with h4 | ⟨_,rfl⟩
    ·rw [h4] at q;cases q
    ·rw [<-hg];exact knows_own hoi
end
end Go.X
end
section
namespace Go.X
open Go
open Go.Conc
open Go.ConcN (upd upd_same upd_ne)
inductive Rw where
 | zero
 | node (f:Goroutine×Hp×Nat->Rw)
inductive Rw.lt:Rw->Rw->Prop
 | sub (f:Goroutine×Hp×Nat->Rw) (x:Goroutine×Hp×Nat):Rw.lt (f x) (.node f)
theorem Rw.acc (ρ:Rw):Acc Rw.lt ρ:=by
 induction ρ with
 | zero=>exact ⟨_,fun y h=>by cases h⟩
 | node f ih=>exact ⟨_,fun y h=>by cases h with | sub _ x=>exact ih x⟩
inductive Bqf:List Rw->List Rw->Prop
 | head {x y:Rw} {l:List Rw}:Rw.lt x y->Bqf (x::l) (y::l)
 | tail {y:Rw} {l l':List Rw}:Bqf l' l->Bqf (y::l') (y::l)
theorem Bqf.acc (l:List Rw):Acc Bqf l:=by
 induction l with
 | nil=>exact ⟨_,fun y h=>by cases h⟩
 | cons y l ih=>
  have key:∀y,Acc Rw.lt y->∀l,Acc Bqf l->Acc Bqf (y::l):=by
   intro y hy
   induction hy with
   | intro y _ ihy=>
    intro l hl
    induction hl with
    | intro l hl ihl=>
     refine ⟨_,fun z hz=>?_⟩
     cases hz with
     | head hxy=>exact ihy _ hxy l ⟨l,hl⟩
     | tail h=>exact ihl _ h
  exact key y (Rw.acc y) l ih
theorem Bqf.set {μ:List Rw} {i:Nat} {x y:Rw} (hy:μ[i]?=some y) (h:Rw.lt x y):Bqf (μ.set i x) μ:=by
 induction μ generalizing i with
 | nil=>simp at hy
 | cons z l ih=>
  cases i with
  | zero=>simp at hy;subst hy;exact .head h
  | succ i=>exact .tail (ih (by simpa using hy))
inductive LexW:List Rw×Nat->List Rw×Nat->Prop
 | down {μ μ':List Rw} {e e':Nat} (h:Bqf μ' μ):LexW (μ',e') (μ,e)
 | flag {μ:List Rw} {e e':Nat} (h:e'<e):LexW (μ,e') (μ,e)
theorem LexW.acc (x:List Rw×Nat):Acc LexW x:=by
 obtain ⟨μ,e⟩:=x
 induction Bqf.acc μ generalizing e with
 | intro μ _ ih=>
  induction e using Nat.strongRecOn with
  | _ e ihe=>
   refine ⟨_,fun y hy=>?_⟩
   cases hy with
   | down h=>exact ih _ h _
   | flag h=>exact ihe _ h
def KW:Nat:=4294967296
def wgO (ty:TypeId) (st sm:Nat):Obj:=.cells #[.int .u64 st,.int .u32 sm] ty (0,0)
def World.lay (w:World) (b:Nat) (o:Obj):World:={ w with heap:=w.heap.setIfInBounds b o }
def rdE (a:Addr):Event:=⟨.cell a,false,true⟩
def wrE (a:Addr):Event:=⟨.cell a,true,true⟩
def mkE (m:Mark):Event:=⟨.mark m,false,true⟩
def stW (b:Nat):Addr:=⟨b,0,none⟩
def smW (b:Nat):Addr:=⟨b,1,none⟩
def clE (c:Nat):Array Event:=#[⟨.obj c,false,true⟩,⟨.obj c,true,true⟩]
inductive PhW where
 | off (d:Nat)
 | gone
 | work (K:Hp) (v:Value)
 | tail (d:Nat)
 | rel (s:Nat)
 | wait (K:Hp) (d m:Nat)
 | sema (K:Hp)
 | woke (K:Hp)
 | shut (K:Hp) (d:Nat)
 | sent (K:Hp)
 | late (K:Hp)
def PhW.mem:PhW->Option Hp
 | .work K _ | .wait K _ _ | .sema K | .woke K | .shut K _ | .sent K | .late K=>some K
 | _=>none
def PhW.deaf:PhW->Nat
 | .off d | .tail d | .wait _ d _ | .shut _ d=>d
 | .rel _ | .sema _ | .woke _=>1
 | _=>0
def PhW.pend:PhW->Bool
 | .work .. | .wait .. | .sema _ | .woke _ | .shut .. | .gone | .sent _ | .late _=>true
 | _=>false
def PhW.early:PhW->Bool
 | .wait .. | .sema _ | .woke _ | .shut .. =>true
 | _=>false
def PhW.on:PhW->Bool
 | .off _=>false
 | _=>true
def PhW.num:PhW->Nat
 | .work .. | .tail _ | .sent _=>1
 | _=>0
def PhW.val:PhW->Option Value
 | .work _ v=>some v
 | _=>none
def Hid0:Hp:=fun _=>none
inductive OthW (P:Program) (c b:Nat) (ty:TypeId):Rw->Goroutine->PhW->Prop
 | fin {ρ:Rw} {g:Goroutine} (h:g.status=.finished):OthW P c b ty ρ g (.off 0)
 | slip {f:Goroutine×Hp×Nat->Rw} {g g':Goroutine} {d:Nat} {es:Array Event} (x:Goroutine×Hp×Nat) (hs:g.status=.running) (hm:∀e∈es,e.mute=true) (h:∀w,stepG P false g w=.go g' w es)
  (hn:OthW P c b ty (f x) g' (.off (deafBehind d es))):OthW P c b ty (.node f) g (.off d)
 | step {f:Goroutine×Hp×Nat->Rw} {g:Goroutine} {K:Hp} {v:Value} (S:Goroutine->Hp->Prop) (hs:g.status=.running)
  (h:∀w,Sat K w->∃g' w' es K',stepG P false g w=.go g' w' es/\Moves K w es K' w'/\S g' K') (ht:∀g' K',S g' K'->OthW P c b ty (f (g',K',0)) g' (.work K' v)) (hS:∀g' K',S g' K'->g'.status=.running):OthW P c b ty (.node f) g (.work K v)
 | send {f:Goroutine×Hp×Nat->Rw} {g g₁:Goroutine} {z:Value} {K:Hp} {v:Value} (x y:Goroutine×Hp×Nat) (hs:g.status=.running) (h:∀w,Sat K w->stepG P false g w=.comm g₁ #[scase c v z] true .send w #[])
  (hp:OthW P c b ty (f x) (parked g₁ #[scase c v z] .send) (.work K v)) (hn:OthW P c b ty (f y) (Go.Conc.served g₁ undef) (.sent K)):OthW P c b ty (.node f) g (.work K v)
 | park {f:Goroutine×Hp×Nat->Rw} {g₁:Goroutine} {z:Value} {K:Hp} {v:Value} (x:Goroutine×Hp×Nat) (hn:OthW P c b ty (f x) (Go.Conc.served g₁ undef) (.sent K)):OthW P c b ty (.node f) (parked g₁ #[scase c v z] .send) (.work K v)
 | tstep {f:Goroutine×Hp×Nat->Rw} {g:Goroutine} {K:Hp} (S:Goroutine->Hp->Prop) (hs:g.status=.running)
  (h:∀w,Sat K w->∃g' w' es K',stepG P false g w=.go g' w' es/\Moves K w es K' w'/\S g' K') (ht:∀g' K',S g' K'->OthW P c b ty (f (g',K',0)) g' (.sent K')):OthW P c b ty (.node f) g (.sent K)
 | tquiet {f:Goroutine×Hp×Nat->Rw} {g g':Goroutine} {K:Hp} (x:Goroutine×Hp×Nat) (hs:g.status=.running)
  (h:∀w st sm,w.heap[b]?=some (wgO ty st sm)->stepG P false g w=.go g' w #[]) (hn:OthW P c b ty (f x) g' (.sent K)):OthW P c b ty (.node f) g (.sent K)
 | trel {f:Goroutine×Hp×Nat->Rw} {g g':Goroutine} {K:Hp} (x:Goroutine×Hp×Nat) (hs:g.status=.running)
  (h:∀w st sm,w.heap[b]?=some (wgO ty st sm)->stepG P false g w=.go g' w #[mkE (.releaseMerge (stW b))]) (hn:OthW P c b ty (f x) g' (.tail 0)):OthW P c b ty (.node f) g (.sent K)
 | tail {f:Goroutine×Hp×Nat->Rw} {g g':Goroutine} {d:Nat} {es:Array Event} (x:Goroutine×Hp×Nat) (hs:g.status=.running) (hm:es=#[]∨es=#[mkE .disable]∨es=#[mkE .enable])
  (h:∀w st sm,w.heap[b]?=some (wgO ty st sm)->stepG P false g w=.go g' w es) (hn:OthW P c b ty (f x) g' (.tail (deafBehind d es))):OthW P c b ty (.node f) g (.tail d)
 | add {f:Goroutine×Hp×Nat->Rw} {g:Goroutine} (S:Nat->Nat->Goroutine->Prop) (hs:g.status=.running)
  (h:∀w v wt,v<100->wt<=1->w.heap[b]?=some (wgO ty ((v+1)*KW+wt) 0)->∃g',stepG P false g w=.go g' (World.lay w b (wgO ty (v*KW+wt) 0)) #[rdE (stW b),wrE (stW b)]/\S v wt g')
  (h1:∀g',S 0 1 g'->OthW P c b ty (f (g',Hid0,1)) g' (.rel 2)) (h2:∀v wt g',v<100->wt<=1->¬(v=0/\wt=1)->S v wt g'->OthW P c b ty (f (g',Hid0,2*v+wt)) g' (.off 1)):OthW P c b ty (.node f) g (.tail 1)
 | rstep {f:Goroutine×Hp×Nat->Rw} {g g':Goroutine} {s:Nat} (x:Goroutine×Hp×Nat) (hs:g.status=.running) (h:∀w st sm,w.heap[b]?=some (wgO ty st sm)->stepG P false g w=.go g' w #[])
  (hn:OthW P c b ty (f x) g' (.rel s)):OthW P c b ty (.node f) g (.rel s)
 | rload {f:Goroutine×Hp×Nat->Rw} {g g':Goroutine} (x:Goroutine×Hp×Nat) (hs:g.status=.running) (h:∀w,w.heap[b]?=some (wgO ty 1 0)->stepG P false g w=.go g' w #[rdE (stW b)])
  (hn:OthW P c b ty (f x) g' (.rel 1)):OthW P c b ty (.node f) g (.rel 2)
 | rstore {f:Goroutine×Hp×Nat->Rw} {g g':Goroutine} (x:Goroutine×Hp×Nat) (hs:g.status=.running) (h:∀w,w.heap[b]?=some (wgO ty 1 0)->stepG P false g w=.go g' (World.lay w b (wgO ty 0 0)) #[wrE (stW b)])
  (hn:OthW P c b ty (f x) g' (.rel 0)):OthW P c b ty (.node f) g (.rel 1)
 | rrel {f:Goroutine×Hp×Nat->Rw} {g g':Goroutine} (x:Goroutine×Hp×Nat) (hs:g.status=.running) (hw:mayWake P g=true) (h:∀w,w.heap[b]?=some (wgO ty 0 0)->stepG P false g w=.go g' (World.lay w b (wgO ty 0 1)) (semEvents (smW b)))
  (hr:g'.status=.running) (hn:OthW P c b ty (f x) g' (.off 1)):OthW P c b ty (.node f) g (.rel 0)
 | wstep {f:Goroutine×Hp×Nat->Rw} {g:Goroutine} {K:Hp} {d m:Nat} (S:Goroutine->Hp->Prop) (hs:g.status=.running)
  (h:∀w,Sat K w->∃g' w' es K',stepG P false g w=.go g' w' es/\Moves K w es K' w'/\S g' K') (ht:∀g' K',S g' K'->OthW P c b ty (f (g',K',0)) g' (.wait K' d m)):OthW P c b ty (.node f) g (.wait K d m)
 | wmark {f:Goroutine×Hp×Nat->Rw} {g g':Goroutine} {K:Hp} {d m:Nat} {es:Array Event} (x:Goroutine×Hp×Nat) (hs:g.status=.running) (hm:es=#[]∨es=#[mkE .disable])
  (h:∀w st sm,w.heap[b]?=some (wgO ty st sm)->stepG P false g w=.go g' w es) (hn:OthW P c b ty (f x) g' (.wait K (deafBehind d es) m)):OthW P c b ty (.node f) g (.wait K d m)
 | load {f:Goroutine×Hp×Nat->Rw} {g:Goroutine} {K:Hp} {m:Nat} (S:Nat->Goroutine->Prop) (hs:g.status=.running)
  (h:∀w v,v<=m->v<100->w.heap[b]?=some (wgO ty (v*KW) 0)->∃g',stepG P false g w=.go g' w #[rdE (stW b)]/\S v g')
  (h0:∀g',S 0 g'->OthW P c b ty (f (g',Hid0,0)) g' (.shut K 1)) (h1:∀v g',v<=m->v<100->v≠0->S v g'->OthW P c b ty (f (g',Hid0,v)) g' (.wait K 1 v)):OthW P c b ty (.node f) g (.wait K 1 m)
 | cas {f:Goroutine×Hp×Nat->Rw} {g:Goroutine} {K:Hp} {m:Nat} (S:Nat->Goroutine->Prop) (hs:g.status=.running) (hm0:m≠0)
  (h:∀w,m<100->w.heap[b]?=some (wgO ty (m*KW) 0)->∃g',stepG P false g w=.go g' (World.lay w b (wgO ty (m*KW+1) 0)) #[rdE (stW b),wrE (stW b)]/\S m g')
  (h':∀w v,v<m->m<100->w.heap[b]?=some (wgO ty (v*KW) 0)->∃g',stepG P false g w=.go g' w #[rdE (stW b)]/\S v g')
  (h0:∀g',S m g'->OthW P c b ty (f (g',Hid0,m)) g' (.sema K)) (h1:∀v g',v<m->m<100->S v g'->OthW P c b ty (f (g',Hid0,v)) g' (.wait K 1 v)):OthW P c b ty (.node f) g (.wait K 1 m)
 | qstep {f:Goroutine×Hp×Nat->Rw} {g g':Goroutine} {K:Hp} {es:Array Event} (x:Goroutine×Hp×Nat) (hs:g.status=.running) (hm:es=#[]∨es=#[mkE (.write (smW b))])
  (h:∀w st sm,w.heap[b]?=some (wgO ty st sm)->stepG P false g w=.go g' w es) (hr:g'.status=.running) (hn:OthW P c b ty (f x) g' (.sema K)):OthW P c b ty (.node f) g (.sema K)
 | acq {f:Goroutine×Hp×Nat->Rw} {g g₀ g':Goroutine} {K:Hp} (x:Goroutine×Hp×Nat) (hr:g₀.status=.running) (ho:g₀.offers=none)
  (hb:∀w st,w.heap[b]?=some (wgO ty st 0)->stepG P false g₀ w=.go { g₀ with status:=.blocked } w #[]) (ha:∀w,w.heap[b]?=some (wgO ty 0 1)->stepG P false g₀ w=.go g' (World.lay w b (wgO ty 0 0)) (semEvents (smW b)))
  (hn:OthW P c b ty (f x) g' (.woke K)) (hg:g=g₀∨g={ g₀ with status:=.blocked }):OthW P c b ty (.node f) g (.sema K)
 | ostep {f:Goroutine×Hp×Nat->Rw} {g g':Goroutine} {K:Hp} (x:Goroutine×Hp×Nat) (hs:g.status=.running) (h:∀w st sm,w.heap[b]?=some (wgO ty st sm)->stepG P false g w=.go g' w #[])
  (hn:OthW P c b ty (f x) g' (.woke K)):OthW P c b ty (.node f) g (.woke K)
 | oload {f:Goroutine×Hp×Nat->Rw} {g g':Goroutine} {K:Hp} (x:Goroutine×Hp×Nat) (hs:g.status=.running) (h:∀w,w.heap[b]?=some (wgO ty 0 0)->stepG P false g w=.go g' w #[rdE (stW b)])
  (hn:OthW P c b ty (f x) g' (.shut K 1)):OthW P c b ty (.node f) g (.woke K)
 | sacq {f:Goroutine×Hp×Nat->Rw} {g g':Goroutine} {K:Hp} (x:Goroutine×Hp×Nat) (hs:g.status=.running)
  (h:∀w st sm,w.heap[b]?=some (wgO ty st sm)->stepG P false g w=.go g' w #[mkE (.acquire (stW b))]) (hn:OthW P c b ty (f x) g' (.late K)):OthW P c b ty (.node f) g (.shut K 0)
 | lstep {f:Goroutine×Hp×Nat->Rw} {g:Goroutine} {K:Hp} (S:Goroutine->Hp->Prop) (hs:g.status=.running)
  (h:∀w,Sat K w->∃g' w' es K',stepG P false g w=.go g' w' es/\Moves K w es K' w'/\S g' K') (ht:∀g' K',S g' K'->OthW P c b ty (f (g',K',0)) g' (.late K')):OthW P c b ty (.node f) g (.late K)
 | lquiet {f:Goroutine×Hp×Nat->Rw} {g g':Goroutine} {K:Hp} (x:Goroutine×Hp×Nat) (hs:g.status=.running)
  (h:∀w st sm,w.heap[b]?=some (wgO ty st sm)->stepG P false g w=.go g' w #[]) (hn:OthW P c b ty (f x) g' (.late K)):OthW P c b ty (.node f) g (.late K)
 | smark {f:Goroutine×Hp×Nat->Rw} {g g':Goroutine} {K:Hp} {d:Nat} {es:Array Event} (x:Goroutine×Hp×Nat) (hs:g.status=.running) (hm:es=#[]∨es=#[mkE .enable])
  (h:∀w st sm,w.heap[b]?=some (wgO ty st sm)->stepG P false g w=.go g' w es) (hn:OthW P c b ty (f x) g' (.shut K (deafBehind d es))):OthW P c b ty (.node f) g (.shut K d)
 | close {f:Goroutine×Hp×Nat->Rw} {g g':Goroutine} {K:Hp} (x:Goroutine×Hp×Nat) (hs:g.status=.running) (hw:mayWake P g=true)
  (h:∀w r,Sat K w->w.heap[c]?=some (.chan 0 #[] false r r false)->stepG P false g w=.go g' (World.lay w c (.chan 0 #[] true r r false)) (clE c)) (hr:g'.status=.running)
  (hn:OthW P c b ty (f x) g' .gone):OthW P c b ty (.node f) g (.late K)
 | gfin {ρ:Rw} {g:Goroutine} (h:g.status=.finished):OthW P c b ty ρ g .gone
 | gslip {f:Goroutine×Hp×Nat->Rw} {g g':Goroutine} (x:Goroutine×Hp×Nat) (hs:g.status=.running) (h:∀w,stepG P false g w=.go g' w #[]) (hn:OthW P c b ty (f x) g' .gone):OthW P c b ty (.node f) g .gone
section
variable {P:Program} {c b:Nat} {ty:TypeId} {ρ:Rw} {g:Goroutine} {p:PhW}
theorem OthW.status (h:OthW P c b ty ρ g p):g.status=.running∨(g.status=.finished/\p.on=false∨g.status=.finished/\p=.gone)∨(∃K v g₁ z,p=.work K v/\g=parked g₁ #[scase c v z] .send)∨(∃K,p=.sema K/\g.status=.blocked/\g.offers=none):=by
 cases h with
 | fin h=>exact .inr (.inl (.inl ⟨h,rfl⟩))
 | gfin h=>exact .inr (.inl (.inr ⟨h,rfl⟩))
 | park x hn=>exact .inr (.inr (.inl ⟨_,_,_,_,rfl,rfl⟩))
 | acq x hr ho hb ha hn hg=>
  rcases hg with rfl | rfl
  ·exact .inl hr
  ·exact .inr (.inr (.inr ⟨_,rfl,rfl,ho⟩))
 | _=>exact .inl ‹_›
theorem OthW.quits (h:OthW P c b ty ρ g p):∀ {d:Nat},p=.off d->∃n,QuitsD P n d g:=by
 induction h with
 | fin h=>intro d e;cases e;exact ⟨0,h,rfl⟩
 | slip x hs hm h _ ih=>intro d e;cases e;obtain ⟨n,hn⟩:=ih rfl;exact ⟨n+1,.inr ⟨hs,_,_,hm,h,hn⟩⟩
 | _=>intro d e;cases e
theorem OthW.any (h:OthW P c b ty ρ g p):∀ {d:Nat},p=.off d->∀c' b' ty',OthW P c' b' ty' ρ g p:=by
 induction h with
 | fin h=>intro d _ c' b' ty';exact .fin h
 | slip x hs hm h _ ih=>intro d e c' b' ty';cases e;exact .slip x hs hm h (ih rfl c' b' ty')
 | _=>intro d e;cases e
theorem OthW.left (h:OthW P c b ty ρ g p):p=.gone->OthW P c b ty ρ g (.off 0):=by
 induction h with
 | gfin h=>intro _;exact .fin h
 | gslip x hs h _ ih=>intro _;exact .slip (d:=0) x hs (by simp) h (ih rfl)
 | _=>intro e;cases e
theorem OthW.of_quits:∀ {n d:Nat} {g:Goroutine},QuitsD P n d g->∃ρ,OthW P c b ty ρ g (.off d)
 | 0,_,_,h=>⟨.zero,h.2▸.fin h.1⟩
 | _+1,_,g,h=>h.elim (fun x=>⟨.zero,x.2▸.fin x.1⟩) fun ⟨hs,g',es,hm,hst,hq⟩=>let ⟨ρ,hρ⟩:=OthW.of_quits hq;⟨.node fun _=>ρ,.slip (g,Hid0,0) hs hm hst hρ⟩
theorem OthW.of_gone:∀ {n:Nat} {g:Goroutine},QuitsIn P n g->∃ρ,OthW P c b ty ρ g .gone
 | 0,_,h=>⟨.zero,.gfin h⟩
 | _+1,g,h=>h.elim (fun x=>⟨.zero,.gfin x⟩) fun ⟨hs,g',hst,hq⟩=>let ⟨ρ,hρ⟩:=OthW.of_gone hq;⟨.node fun _=>ρ,.gslip (g,Hid0,0) hs hst hρ⟩
end
inductive GhW where
 | idle
 | busy (c b:Nat) (ty:TypeId) (n d:Nat) (L:List Value) (cz:Bool) (D:Nat->Prop)
def GhW.chan:GhW->Nat
 | .idle=>0
 | .busy c _ _ _ _ _ _ _=>c
def GhW.blk:GhW->Nat
 | .idle=>0
 | .busy _ b _ _ _ _ _ _=>b
def GhW.ty:GhW->TypeId
 | .idle=>0
 | .busy _ _ ty _ _ _ _ _=>ty
def GhW.deaf:GhW->Nat
 | .idle=>0
 | .busy _ _ _ _ d _ _ _=>d
inductive FanW (P:Program) (T:Goroutine->Hp->Prop):GhW->Goroutine->Hp->Prop
 | stop {g:Goroutine} {H H₀:Hp} (h:T g H₀) (hl:H₀.le H):FanW P T .idle g H
 | step {γ:GhW} {g:Goroutine} {H:Hp} (S:Goroutine->Hp->Prop) (hs:g.status=.running)
  (h:∀w,Sat H w->∃g' w' es H',stepG P true g w=.go g' w' es/\Moves H w es H' w'/\S g' H') (ht:∀g' H',S g' H'->FanW P T γ g' H'):FanW P T γ g H
 | opn {c b:Nat} {ty:TypeId} {D:Nat->Prop} {g:Goroutine} {H:Hp} (h:H c=some (true,.chan 0 #[] false 0 0 false)) (h':H b=some (true,wgO ty 0 0)) (hD:∀x,D x->∃o,H x=some (true,o))
  (hn:FanW P T (.busy c b ty 0 0 [] false D) g ((H.del c).del b)):FanW P T .idle g H
 | mark {c b n d:Nat} {ty:TypeId} {L:List Value} {D:Nat->Prop} {g g':Goroutine} {H:Hp} {es:Array Event} (hs:g.status=.running) (hm:es=#[]∨es=#[mkE .disable]∨es=#[mkE .enable]∨es=#[mkE (.read (smW b))])
  (h:∀w st sm,Sat H w->w.heap[b]?=some (wgO ty st sm)->stepG P true g w=.go g' w es) (hn:FanW P T (.busy c b ty n (deafBehind d es) L false D) g' H):FanW P T (.busy c b ty n d L false D) g H
 | add {c b n d:Nat} {ty:TypeId} {L:List Value} {D:Nat->Prop} {g g':Goroutine} {H:Hp} (hs:g.status=.running) (hn1:n<99)
  (h:∀w,Sat H w->w.heap[b]?=some (wgO ty (n*KW) 0)->stepG P true g w=.go g' (World.lay w b (wgO ty ((n+1)*KW) 0)) #[rdE (stW b),wrE (stW b)])
  (hn:FanW P T (.busy c b ty (n+1) d L false D) g' H):FanW P T (.busy c b ty n d L false D) g H
 | spawn {c b n:Nat} {ty:TypeId} {L:List Value} {D:Nat->Prop} {g g' child:Goroutine} {H H' Hc:Hp} {v:Value} (hs:g.status=.running) (h:∀w,Sat H w->stepG P true g w=.spawn g' child w #[])
  (hc:∀b p o,Hc b=some (p,o)->p=false/\H' b=some (false,o)) (hH:∀b p o,H' b=some (p,o)->∃p',H b=some (p',o)/\(p=true->p'=true)) (ho:∃ρ,OthW P c b ty ρ child (.work Hc v))
  (hn:FanW P T (.busy c b ty n 0 (v::L) false D) g' H'):FanW P T (.busy c b ty n 0 L false D) g H
 | hire {c b n:Nat} {ty:TypeId} {L:List Value} {D:Nat->Prop} {g g' child:Goroutine} {H H' Hc:Hp} (hs:g.status=.running) (hl:n=L.length) (h:∀w,Sat H w->stepG P true g w=.spawn g' child w #[])
  (hc:∀b p o,Hc b=some (p,o)->p=false/\H' b=some (false,o)) (hH:∀b p o,H' b=some (p,o)->∃p',H b=some (p',o)/\(p=true->p'=true)) (ho:∃ρ,OthW P c b ty ρ child (.wait Hc 0 n))
  (hn:FanW P T (.busy c b ty n 0 L true D) g' H'):FanW P T (.busy c b ty n 0 L false D) g H
 | recv {c b n:Nat} {ty:TypeId} {L:List Value} {D:Nat->Prop} {g g₁:Goroutine} {z:Value} {H:Hp} (hs:g.status=.running) (hL:L≠[]) (h:∀w,Sat H w->stepG P true g w=.comm g₁ #[rcase c z] true (.recv true) w #[])
  (hn:∀v L',L.Perm (v::L')->FanW P T (.busy c b ty n 0 L' true D) (g₁.finishComm P #[rcase c z] (.recv true) 0 v true) H):FanW P T (.busy c b ty n 0 L true D) g H
 | shut {c b n:Nat} {ty:TypeId} {D:Nat->Prop} {g g₁:Goroutine} {z:Value} {H G:Hp} (hs:g.status=.running) (h:∀w,Sat H w->stepG P true g w=.comm g₁ #[rcase c z] true (.recv true) w #[])
  (ht:∀w,Sat H w->stepG P true { g₁ with status:=.running } w=.comm g₁ #[rcase c z] true (.recv true) w #[])
  (hG:∀b p o,G b=some (p,o)->∃p',H b=some (p',o)/\(p=true->p'=true∨D b)) (hn:FanW P T .idle (g₁.finishComm P #[rcase c z] (.recv true) 0 z false) G):FanW P T (.busy c b ty n 0 [] true D) g H
theorem FanW.more {P:Program} {T:Goroutine->Hp->Prop} {γ:GhW} {g:Goroutine} {H:Hp} (h:FanW P T γ g H):∀G:Hp,H.le G->FanW P T γ g G:=by
 induction h with
 | stop h hl=>exact fun G hG=>.stop h (Hp.le_trans hl hG)
 | step S hs h ht _=>exact fun G hG=>.step S hs (fun w hw=>by
  obtain ⟨g',w',es,H',he,hm,hT⟩:=h w (hw.mono hG)
  exact ⟨g',w',es,H',he,hm.more hG,hT⟩) ht
 | opn h h' hD _ ih=>exact fun G hG=>.opn (hG _ _ h) (hG _ _ h') (fun b hb=>(hD b hb).imp fun _ h=>hG _ _ h) (ih _ (Hp.del_le (Hp.del_le hG _) _))
 | mark hs hm h _ ih=>exact fun G hG=>.mark hs hm (fun w st sm hw hb=>h w st sm (hw.mono hG) hb) (ih G hG)
 | add hs hn1 h _ ih=>exact fun G hG=>.add hs hn1 (fun w hw hb=>h w (hw.mono hG) hb) (ih G hG)
 | spawn hs h hc hH ho hn _=>exact fun G hG=>.spawn hs (fun w hw=>h w (hw.mono hG)) hc (fun b p o hb=>let ⟨p',h1,h2⟩:=hH b p o hb;⟨p',hG _ _ h1,h2⟩) ho hn
 | hire hs hl h hc hH ho hn _=>exact fun G hG=>.hire hs hl (fun w hw=>h w (hw.mono hG)) hc (fun b p o hb=>let ⟨p',h1,h2⟩:=hH b p o hb;⟨p',hG _ _ h1,h2⟩) ho hn
 | recv hs hL h _ ih=>exact fun G hG=>.recv hs hL (fun w hw=>h w (hw.mono hG)) fun v L' hp=>ih v L' hp G hG
 | shut hs h ht hG' hn _=>exact fun G hG=>.shut hs (fun w hw=>h w (hw.mono hG)) (fun w hw=>ht w (hw.mono hG)) (fun b p o hb=>let ⟨p',h1,h2⟩:=hG' b p o hb;⟨p',hG _ _ h1,h2⟩) hn
theorem FanW.bind {P:Program} {T T':Goroutine->Hp->Prop} {γ:GhW} {g:Goroutine} {H:Hp} (h:FanW P T γ g H) (ht:∀g' H',T g' H'->FanW P T' .idle g' H'):FanW P T' γ g H:=by
 induction h with
 | stop h hl=>exact (ht _ _ h).more _ hl
 | step S hs h _ ih=>exact .step S hs h ih
 | opn h h' hD _ ih=>exact .opn h h' hD ih
 | mark hs hm h _ ih=>exact .mark hs hm h ih
 | add hs hn1 h _ ih=>exact .add hs hn1 h ih
 | spawn hs h hc hH ho _ ih=>exact .spawn hs h hc hH ho ih
 | hire hs hl h hc hH ho _ ih=>exact .hire hs hl h hc hH ho ih
 | recv hs hL h _ ih=>exact .recv hs hL h ih
 | shut hs h ht hG _ ih=>exact .shut hs h ht hG ih
def Md.wg (P:Program):Md:=⟨true,fun g H T=>FanW P T .idle g H,fun _ _ G _ h hl=>h.more G hl⟩
theorem WPG.fanW {P:Program} {T:Goroutine->Hp->Prop} {g:Goroutine} {H:Hp} (h:WPG P (.wg P) T g H):FanW P T .idle g H:=by
 induction h with
 | stop h hl=>exact .stop h hl
 | step S hs h _ ih=>exact .step S hs h ih
 | phase S h _ ih=>exact FanW.bind h ih
theorem WPG.walkW {P:Program} {T S:Goroutine->Hp->Prop} {γ:GhW} {g:Goroutine} {H:Hp} (h:WPG P (.own true) S g H) (hs:∀g' H',S g' H'->FanW P T γ g' H'):FanW P T γ g H:=by
 induction h with
 | stop h hl=>exact (hs _ _ h).more _ hl
 | step S' hr h _ ih=>exact .step S' hr h ih
 | phase S' h=>exact h.elim
end Go.X
end
section
namespace Go.X
open Go
open Go.Conc
open Go.ConcN (upd upd_same upd_ne)
def hpW (H:Hp) (q:Nat->PhW) (x:Nat):Option Hp:=if x=0 then some H else (q x).mem
theorem Cxq (H:Hp) (q:Nat->PhW):hpW H q 0=some H:=rfl
theorem Axu {H:Hp} {q:Nat->PhW} {x:Nat} (hx:x≠0):hpW H q x=(q x).mem:=by simp [hpW,hx]
theorem Dqz (H H':Hp) (q:Nat->PhW):upd (hpW H q) 0 (some H')=hpW H' q:=by
 funext x;by_cases hx:x=0
 ·subst hx;rw [upd_same];rfl
 ·rw [upd_ne _ _ hx];simp [hpW,hx]
theorem Cwa (H:Hp) (q:Nat->PhW) {x:Nat} (hx:x≠0) (p:PhW):upd (hpW H q) x p.mem=hpW H (upd q x p):=by
 funext y;by_cases hy:y=x
 ·subst hy;rw [upd_same,Axu hx,upd_same]
 ·rw [upd_ne _ _ hy]
  by_cases hy0:y=0
  ·subst hy0;rfl
  ·rw [Axu hy0,Axu hy0,upd_ne _ _ hy]
def Aji (q:Nat->PhW):Nat->List Value
 | 0=>[]
 | n+1=>Aji q n++(q n).val.toList
def cntW (q:Nat->PhW):Nat->Nat
 | 0=>0
 | n+1=>cntW q n+(q n).num
theorem Ako {q q':Nat->PhW}:∀ {n:Nat},(∀i,i<n->(q i).val=(q' i).val)->Aji q n=Aji q' n
 | 0,_=>rfl
 | n+1,h=>by rw [Aji,Aji,Ako fun i hi=>h i (by omega),h n (by omega)]
theorem Ak7 {q q':Nat->PhW}:∀ {n:Nat},(∀i,i<n->(q i).num=(q' i).num)->cntW q n=cntW q' n
 | 0,_=>rfl
 | n+1,h=>by rw [cntW,cntW,Ak7 fun i hi=>h i (by omega),h n (by omega)]
theorem Bwu {q:Nat->PhW} {j:Nat} {p:PhW} {v:Value} (hj:(q j).val=some v) (hp:p.val=none):∀ {n:Nat},j<n->(Aji q n).Perm (v::Aji (upd q j p) n)
 | n+1,h=>by
  rcases Nat.lt_or_ge j n with hlt | hge
  ·rw [Aji,Aji,upd_ne _ _ (by omega)]
   exact (Bwu hj hp hlt).append_right _
  ·obtain rfl:j=n:=by omega
   rw [Aji,Aji,upd_same,hj,hp]
   have:Aji (upd q j p) j=Aji q j:=Ako fun i hi=>by rw [upd_ne _ _ (by omega)]
   rw [this]
   simp
theorem Awl {q:Nat->PhW} {j:Nat} {p:PhW}:∀ {n:Nat},j<n->cntW (upd q j p) n+(q j).num=cntW q n+p.num
 | n+1,h=>by
  rcases Nat.lt_or_ge j n with hlt | hge
  ·rw [cntW,cntW,upd_ne _ _ (by omega)]
   have:=Awl (q:=q) (p:=p) hlt
   omega
  ·obtain rfl:j=n:=by omega
   have:cntW (upd q j p) j=cntW q j:=Ak7 fun i hi=>by rw [upd_ne _ _ (by omega)]
   rw [cntW,cntW,upd_same,this]
   omega
theorem Cxc {q:Nat->PhW}:∀ {n:Nat},0<cntW q n->∃i,i<n/\0<(q i).num
 | 0,h=>absurd h (by simp [cntW])
 | n+1,h=>by
  by_cases hr:0<(q n).num
  ·exact ⟨n,by omega,hr⟩
  ·obtain ⟨i,hi,he⟩:=Cxc (q:=q) (n:=n) (by rw [cntW] at h;omega)
   exact ⟨i,by omega,he⟩
theorem Dqg {p:PhW} (h:0<p.num):(∃K v,p=.work K v)∨(∃d,p=.tail d)∨∃K,p=.sent K:=by
 cases p<;>simp [PhW.num] at h
 ·exact .inl ⟨_,_,rfl⟩
 ·exact .inr (.inl ⟨_,rfl⟩)
 ·exact .inr (.inr ⟨_,rfl⟩)
theorem Dkg {p:PhW} {K:Hp} (h:p.mem=some K):p.on=true:=by cases p<;>simp [PhW.mem] at h<;>rfl
def Bqz (p:PhW) (v:Nat) (rl:Option (Nat×Nat)) (st sm:Nat) (cl:Bool):Prop:=match p with
 | .wait _ _ m=>st=v*KW/\sm=0/\rl=none/\v<=m/\m<100/\cl=false
 | .sema _=>cl=false/\((0<v/\v<100/\st=v*KW+1/\sm=0/\rl=none)∨(v=0/\st=1/\sm=0/\∃j s,rl=some (j,s)/\(s=2∨s=1))∨(v=0/\st=0/\sm=0/\∃j,rl=some (j,0))∨(v=0/\st=0/\sm=1/\rl=none))
 | .woke _=>v=0/\st=0/\sm=0/\rl=none/\cl=false
 | .shut _ _=>v=0/\rl=none/\cl=false
 | .late _=>v=0/\rl=none/\cl=false
 | .gone=>v=0/\rl=none/\cl=true
 | _=>False
def PhW.mate (p:PhW):Prop:=(∃d,p=.off d)∨(∃K v,p=.work K v)∨(∃d,p=.tail d)∨(∃s,p=.rel s)∨∃K,p=.sent K
structure CzW (sz:Nat) (t:Trace) (q:Nat->PhW) (c:Nat) (cl:Bool) (st sm k:Nat) (rl:Option (Nat×Nat)):Prop where
 lt:0<k/\k<sz
 oth:∀i,i≠k->(q i).mate
 rels:∀i s,q i=.rel s↔rl=some (i,s)
 syn:Bqz (q k) (cntW q sz) rl st sm cl
 shut:q k=.gone->∃p op,t[p]?=some op/\op.act=.close c/\op.g=k/\t.heard p/\∀i z,t[i]?=some z->z.g=k->i<=p
def OnW (q:Nat->PhW) (x:Nat):Prop:=x=0∨(q x).on=true
structure Dxa (W:World) (c b:Nat) (ty:TypeId) (n:Nat) (L:List Value) (D:Nat->Prop) (H:Hp) (sz:Nat) (w:World) (t:Trace) (q:Nat->PhW) (Sh:Nat->Prop) (cl:Bool) (r st sm k:Nat):Prop where
 chan:w.heap[c]?=some (.chan 0 #[] cl r r false)
 wg:w.heap[b]?=some (wgO ty st sm)
 none:∀x K,hpW H q x=some K->K c=none/\K b=none
 sh:Sh b
 ne:c≠b
 high:W.heap.size<=c/\W.heap.size<=b
 perm:L.Perm (Aji q sz)
 small:n<100
 lent:∀y,D y->W.heap.size<=y
 synb:SynW t b k (OnW q)
 sync:SynW t c k (OnW q)
def Aw3 (W:World) (γ:GhW) (H:Hp) (sz:Nat) (w:World) (t:Trace) (q:Nat->PhW) (Sh:Nat->Prop):Prop:=match γ with
 | .idle=>∀i,∃d,q i=.off d
 | .busy c b ty n d L cz D=>∃cl r st sm k,Dxa W c b ty n L D H sz w t q Sh cl r st sm k /\
  if cz then ∃rl,CzW sz t q c cl st sm k rl
  else k=0/\cl=false/\st=n*KW/\sm=0/\∀i,(∃d,q i=.off d)∨∃K v,q i=.work K v
def RelT (t:Trace) (b i:Nat):Prop:=∃p op,t[p]?=some op/\op.act=.mark (.releaseMerge (stW b))/\t.heard p/\Before t i p
theorem RelT.app {t:Trace} {b i:Nat} (u:Trace) (h:RelT t b i):RelT (t++u) b i:=by
 obtain ⟨p,op,h1,h2,h3,h4⟩:=h
 have hlt:=lt_size_of_getElem? h1
 exact ⟨p,op,by rw [getElem?_append_old hlt];exact h1,h2,(heard_old hlt).2 h3,h4.app u⟩
def Bvj (t:Trace) (b:Nat) (q:Nat->PhW) (Sh:Nat->Prop) (i:Nat) (a:Touch):Prop:=
 Knows t 0 i∨(∃x,(q x).pend=true/\Knows t x i)∨(a.kind=.atomic/\¬t.heard i/\∃y,Awz a.loc=some y/\Sh y)∨(RelT t b i/\∃x,(q x).early=true)
theorem Bvj.app {t:Trace} {b i:Nat} {a:Touch} {q q':Nat->PhW} {Sh Sh':Nat->Prop} (u:Trace) (h:Bvj t b q Sh i a) (hi:i<t.size) (hS:∀y,Sh y->Sh' y) (hq:∀y,(q y).pend=true->(q' y).pend=true) (he:∀y,(q y).early=true->(q' y).early=true):Bvj (t++u) b q' Sh' i a:=by
 rcases h with hk | ⟨x,hx,hk⟩ | ⟨h1,h2,y,h3,h4⟩ | ⟨hr,x,hx⟩
 ·exact .inl (hk.app _)
 ·exact .inr (.inl ⟨x,hq x hx,hk.app _⟩)
 ·exact .inr (.inr (.inl ⟨h1,by rwa [heard_old hi],y,h3,hS y h4⟩))
 ·exact .inr (.inr (.inr ⟨hr.app _,x,he x hx⟩))
theorem Ajq {q:Nat->PhW} {x:Nat} {p':PhW} (F:PhW->Bool) (h:F (q x)=true->F p'=true) (y:Nat) (hy:F (q y)=true):F (upd q x p' y)=true:=by
 by_cases hyx:y=x
 ·subst hyx;rw [upd_same];exact h hy
 ·rw [upd_ne _ _ hyx];exact hy
def Cq4 (t:Trace):Prop:=∀(i:Nat) (op:MemOp) (a:Addr),t[i]?=some op->op.act≠MemAct.mark (.release a)
def Ajo (es:Array Event):Prop:=∀ev∈es,∀a:Addr,ev.loc≠Loc.mark (.release a)
theorem Cq4.app {t u:Trace} (h:Cq4 t) (hu:∀op∈u,∀a,op.act≠.mark (.release a)):Cq4 (t++u):=fun i op a ho=>by
 rcases getElem?_append_cases ho with ⟨_,ho'⟩ | ⟨_,ho'⟩
 ·exact h i op a ho'
 ·exact hu op ho' a
theorem Ajo.ops {es:Array Event} (h:Ajo es) {x:Nat} {fn:FuncId} {pos:String}:∀op∈MemOp.ofEvents x fn pos es,∀a,op.act≠.mark (.release a):=fun op hop a he=>by
 obtain ⟨ev,hev,rfl⟩:=Go.Conc.mem_ofEvents hop
 refine h ev hev a ?_
 obtain ⟨loc,wr,sy⟩:=ev
 simp only [MemAct.ofEvent] at he
 split at he<;>simp_all
theorem Ajo.moves {K K':Hp} {w w':World} {es:Array Event} (hm:Moves K w es K' w'):Ajo es:=fun ev he a h=>by
 have:=hm.evs ev he
 simp only [EvOK,h] at this
theorem Ajo.mute {es:Array Event} (hm:∀e∈es,e.mute=true):Ajo es:=fun ev he a h=>by
 have:=hm ev he
 obtain ⟨loc,wr,sy⟩:=ev
 simp only at h
 subst h
 simp [Event.mute] at this
theorem Ajo.nil:Ajo #[]:=fun ev he=>by simp at he
structure WI (P:Program) (W:World) (γ:GhW) (H:Hp) (gs:Array Goroutine) (w:World) (t:Trace) (μ:List Rw) (e:Nat) (q:Nat->PhW) (Sh:Nat->Prop):Prop where
 mates:Azf t w (hpW H q)
 size:gs.size=μ.length+1
 oth:∀i x,gs[i+1]?=some x->∃ρ,μ[i]?=some ρ/\OthW P γ.chan γ.blk γ.ty ρ x (q (i+1))
 out:∀i,gs.size<=i->q i=.off 0
 zero:q 0=.off 0
 over:∀i a,touchAt t i=some a->Bvj t γ.blk q Sh i a
 norel:Cq4 t
 shun:∀y,Sh y->y<w.heap.size/\∀x K,hpW H q x=some K->K y=none
 base:Base W w
 owns:∀x K b o,hpW H q x=some K->K b=some (true,o)->W.heap.size<=b
 deaf:∀x,x≠0->Deaf t x=(q x).deaf
 deaf0:Deaf t 0=γ.deaf
 flag:e=0->∀i x K,gs[i]?=some x->q i=.sema K->x.status=.blocked
 wake:∀i x K st,gs[i]?=some x->q i=.sema K->w.heap[γ.blk]?=some (wgO γ.ty st 1)->x.status=.running
 still:Aw3 W γ H gs.size w t q Sh
section
variable {P:Program} {W:World} {γ:GhW} {H H':Hp} {gs:Array Goroutine} {w w':World} {t:Trace} {μ:List Rw} {e e':Nat} {q:Nat->PhW} {Sh:Nat->Prop} {es:Array Event} {fn:FuncId} {pos:String}
variable {c b n d:Nat} {ty:TypeId} {L:List Value} {D:Nat->Prop} {cl:Bool} {r st sm k:Nat}
theorem WI.at (h:WI P W γ H gs w t μ e q Sh) (d:Nat):WI P W γ H gs (w.at d) t μ e q Sh where
 mates:=⟨h.mates.sat,h.mates.excl,h.mates.kn,h.mates.clean,h.mates.low⟩
 size:=h.size
 oth:=h.oth
 out:=h.out
 zero:=h.zero
 over:=h.over
 norel:=h.norel
 shun:=h.shun
 base:=⟨h.base.os,h.base.output,h.base.size,h.base.block⟩
 owns:=h.owns
 deaf:=h.deaf
 deaf0:=h.deaf0
 flag:=h.flag
 wake:=h.wake
 still:=by
  have:=h.still
  cases γ with
  | idle=>exact this
  | busy c b ty n d L cz D=>exact let ⟨cl,r,st,sm,k,hb,hx⟩:=this;⟨cl,r,st,sm,k,⟨hb.chan,hb.wg,hb.none,hb.sh,hb.ne,hb.high,hb.perm,hb.small,hb.lent,hb.synb,hb.sync⟩,hx⟩
theorem Av8 {x b:Nat} {u:Trace} {q':Nat->PhW} {Sh':Nat->Prop} (h:∀i a,touchAt t i=some a->Bvj t b q Sh i a)
  (hS:∀y,Sh y->Sh' y) (hu:∀op∈u,op.g=x) (hq:∀y,(q y).pend=true->(q' y).pend=true) (he:∀y,(q y).early=true->(q' y).early=true)
  (hn:x=0∨(q' x).pend=true∨∀j op a,u[j]?=some op->op.act.touch?=some a->a.kind=.atomic/\¬(t++u).heard (t.size+j)/\∃y,Awz a.loc=some y/\Sh' y) :
  ∀i a,touchAt (t++u) i=some a->Bvj (t++u) b q' Sh' i a:=by
 intro i a ha
 rcases touchAt_new ha with ⟨hi,ha'⟩ | ⟨hi,op,hop,hoi,hoa⟩
 ·exact (h i a ha').app u hi hS hq he
 ·have hg:=hu op hop
  rcases hn with rfl | hn | hn
  ·refine .inl ?_
   have:=knows_own hoi
   rwa [hg] at this
  ·exact .inr (.inl ⟨x,hn,by have:=knows_own hoi;rwa [hg] at this⟩)
  ·have hj:u[i-t.size]?=some op:=by rwa [Array.getElem?_append_right hi] at hoi
   obtain ⟨h1,h2,h3⟩:=hn (i-t.size) op a hj hoa
   exact .inr (.inr (.inl ⟨h1,by rwa [show t.size+(i-t.size)=i by omega] at h2,h3⟩))
theorem Avy {x:Nat}:∀op∈MemOp.ofEvents x fn pos es,op.g=x:=fun op hop=>by
 obtain ⟨ev,_,rfl⟩:=Go.Conc.mem_ofEvents hop;rfl
theorem Bzd {K K':Hp} (hm:Moves K w es K' w') (dd:Nat):deafBehind dd es=dd:=deafBehind_still (fun ev he=>by
 have:=hm.evs ev he
 refine ⟨fun h=>?_,fun h=>?_⟩<;>simp only [EvOK,h] at this) dd
theorem OthW.wakes {ρ:Rw} {x g g':Goroutine} {p:PhW} (h:OthW P c b ty ρ x p) (hc:(∃cap buf s r tm,w'.heap[c]?=some (.chan cap buf false s r tm))∨∀K v,p≠.work K v) :
  OthW P c b ty ρ (woken P g g' w' x) p/\(x.status=.running->woken P g g' w' x=x)/\((∀K,p≠.sema K)->woken P g g' w' x=x):=by
 have same:woken P g g' w' x=x->OthW P c b ty ρ (woken P g g' w' x) p/\(x.status=.running->woken P g g' w' x=x)/\((∀K,p≠.sema K)->woken P g g' w' x=x):=fun e=>⟨by rw [e];exact h,fun _=>e,fun _=>e⟩
 rcases h.status with hs | hs | ⟨K,v,g₁,z,rfl,rfl⟩ | ⟨K,rfl,hs,ho⟩
 ·exact same (woken_run hs)
 ·exact same (Cjs (.inr (hs.elim (·.1) (·.1))))
 ·rcases hc with ⟨cap,buf,s,r,tm,hc⟩ | hc
  ·exact same (woken_send_open g g' hc)
  ·exact absurd rfl (hc K v)
 ·refine ⟨?_,fun e=>(by rw [hs] at e;cases e),fun hn=>absurd rfl (hn K)⟩
  unfold Go.Conc.woken
  split
  ·have e:x.again w'={ x with status:=.running }:=by simp [Goroutine.again,hs,ho]
   rw [e]
   cases h with
   | qstep y hs'=>rw [hs'] at hs;cases hs
   | acq y hr ho' hb ha hn hg=>
    rcases hg with rfl | rfl
    ·rw [hr] at hs;cases hs
    ·refine .acq y hr ho' hb ha hn (.inl ?_)
     rename_i g₀ _
     cases g₀
     simp at hr
     simp [hr]
  ·exact h
end
end Go.X
end
section
namespace Go.X
open Go
open Go.Conc
open Go.ConcN (upd upd_same upd_ne)
section
variable {P:Program} {W:World} {γ:GhW} {H H':Hp} {gs gs':Array Goroutine} {w w':World} {t u:Trace} {μ:List Rw} {e:Nat} {q:Nat->PhW} {Sh Sh':Nat->Prop} {i:Nat} {ρ ρ':Rw} {g':Goroutine} {p':PhW} {es:Array Event} {fn:FuncId} {pos:String}
structure Azv (P:Program) (γ:GhW) (q:Nat->PhW) (gs gs':Array Goroutine) (k:Nat):Prop where
 size:gs'.size=gs.size
 oth:∀j y',j≠k->j≠0->gs'[j]?=some y'->∃y,gs[j]?=some y/\(∀ρ,OthW P γ.chan γ.blk γ.ty ρ y (q j)->OthW P γ.chan γ.blk γ.ty ρ y' (q j))/\(y.status=.running->y'.status=.running)
theorem Azv.set {k:Nat}:Azv P γ q gs (gs.setIfInBounds k g') k:=
 ⟨by simp,fun j y' hj _ hy=>⟨y',by rwa [Array.getElem?_setIfInBounds_ne (Ne.symm hj)] at hy,fun _ h=>h,id⟩⟩
theorem Azv.woken {x g₁:Goroutine} {k:Nat} (h:WI P W γ H gs w t μ e q Sh) (hc:(∃cap buf s r tm,w'.heap[γ.chan]?=some (.chan cap buf false s r tm))∨∀j K v,q j≠.work K v) :
  Azv P γ q gs ((gs.map (woken P x g₁ w')).setIfInBounds k g') k:=by
 refine ⟨by simp,fun j y' hj hj0 hy=>?_⟩
 rw [Array.getElem?_setIfInBounds_ne (Ne.symm hj),Array.getElem?_map] at hy
 cases hg:gs[j]? with
 | none=>rw [hg] at hy;cases hy
 | some y=>
  rw [hg] at hy
  obtain rfl:Go.Conc.woken P x g₁ w' y=y':=Option.some.inj hy
  obtain ⟨j',rfl⟩:∃j',j=j'+1:=⟨j-1,by omega⟩
  obtain ⟨ρ₁,_,h2⟩:=h.oth j' y hg
  have hc':(∃cap buf s r tm,w'.heap[γ.chan]?=some (.chan cap buf false s r tm))∨∀K v,q (j'+1)≠.work K v:=hc.imp id fun h K v=>h (j'+1) K v
  exact ⟨y,rfl,fun ρ h=>(h.wakes hc').1,fun hs=>by rw [(h2.wakes hc').2.1 hs];exact hs⟩
theorem WI.put (h:WI P W γ H gs w t μ e q Sh) (hρ:μ[i]?=some ρ) (hgs:Azv P γ q gs gs' (i+1)) (hg:gs'[i+1]?=some g') (hn:OthW P γ.chan γ.blk γ.ty ρ' g' p')
  (hm:Azf (t++u) w' (hpW H (upd q (i+1) p'))) (hu:∀op∈u,op.g=i+1)
  (ho:∀j a,touchAt (t++u) j=some a->Bvj (t++u) γ.blk (upd q (i+1) p') Sh' j a) (hnr:∀op∈u,∀a,op.act≠.mark (.release a))
  (hsh:∀y,Sh' y->y<w'.heap.size/\∀x K,hpW H (upd q (i+1) p') x=some K->K y=none)
  (hb:Base W w') (hown:∀K' b o,p'.mem=some K'->K' b=some (true,o)->W.heap.size<=b) (hd:Deaf (t++u) (i+1)=p'.deaf)
  (hwk:∀st,w'.heap[γ.blk]?=some (wgO γ.ty st 1)->∀j x K,gs'[j]?=some x->upd q (i+1) p' j=.sema K->x.status=.running)
  (hst:Aw3 W γ H gs.size w' (t++u) (upd q (i+1) p') Sh'):WI P W γ H gs' w' (t++u) (μ.set i ρ') 1 (upd q (i+1) p') Sh' where
 mates:=hm
 size:=by rw [hgs.size,h.size];simp
 oth:=fun j x hx=>by
  have hl:=(List.getElem?_eq_some_iff.1 hρ).1
  by_cases hj:j=i
  ·subst hj;rw [hg] at hx;cases hx;exact ⟨ρ',by simp [hl],by rw [upd_same];exact hn⟩
  ·obtain ⟨y,hy,ho',_⟩:=hgs.oth (j+1) x (by omega) (by omega) hx
   obtain ⟨ρ₁,h1,h2⟩:=h.oth j y hy
   exact ⟨ρ₁,by rw [List.getElem?_set_ne (Ne.symm hj)];exact h1,by rw [upd_ne _ _ (by omega)];exact ho' _ h2⟩
 out:=fun j hj=>by
  have hl:=(List.getElem?_eq_some_iff.1 hρ).1
  have hs:=h.size
  rw [hgs.size] at hj
  rw [upd_ne _ _ (by omega)];exact h.out j hj
 zero:=by rw [upd_ne _ _ (by omega)];exact h.zero
 over:=ho
 norel:=h.norel.app hnr
 shun:=hsh
 base:=hb
 owns:=fun x K b o hx hb=>by
  by_cases hxi:x=i+1
  ·subst hxi;rw [Axu (by omega),upd_same] at hx;exact hown K b o hx hb
  ·by_cases hx0:x=0
   ·subst hx0;exact h.owns 0 K b o hx hb
   ·rw [Axu hx0,upd_ne _ _ hxi] at hx
    exact h.owns x K b o (by rw [Axu hx0];exact hx) hb
 deaf:=fun x hx=>by
  by_cases hxi:x=i+1
  ·subst hxi;rw [upd_same];exact hd
  ·rw [Deaf_other t (Ne.symm hxi) u hu,upd_ne _ _ hxi];exact h.deaf x hx
 deaf0:=by rw [Deaf_other t (g:=0) (g':=i+1) (by omega) u hu];exact h.deaf0
 flag:=fun h0=>by cases h0
 wake:=fun j x K st hj hq hw=>hwk st hw j x K hj hq
 still:=by rw [hgs.size];exact hst
def Awy (p p':PhW):Prop:=(∃K v K',p=.work K v/\p'=.work K' v)∨(∃K d m K',p=.wait K d m/\p'=.wait K' d m)∨(∃K K',p=.sent K/\p'=.sent K')∨∃K K',p=.late K/\p'=.late K'
section
variable {p:PhW} (h:Awy p p')
include h
theorem Awy.val:p'.val=p.val:=by rcases h with ⟨_,_,_,rfl,rfl⟩ | ⟨_,_,_,_,rfl,rfl⟩ | ⟨_,_,rfl,rfl⟩ | ⟨_,_,rfl,rfl⟩<;>rfl
theorem Awy.num:p'.num=p.num:=by rcases h with ⟨_,_,_,rfl,rfl⟩ | ⟨_,_,_,_,rfl,rfl⟩ | ⟨_,_,rfl,rfl⟩ | ⟨_,_,rfl,rfl⟩<;>rfl
theorem Awy.on:p'.on=p.on:=by rcases h with ⟨_,_,_,rfl,rfl⟩ | ⟨_,_,_,_,rfl,rfl⟩ | ⟨_,_,rfl,rfl⟩ | ⟨_,_,rfl,rfl⟩<;>rfl
theorem Awy.deaf:p'.deaf=p.deaf:=by rcases h with ⟨_,_,_,rfl,rfl⟩ | ⟨_,_,_,_,rfl,rfl⟩ | ⟨_,_,rfl,rfl⟩ | ⟨_,_,rfl,rfl⟩<;>rfl
theorem Awy.early:p'.early=p.early:=by rcases h with ⟨_,_,_,rfl,rfl⟩ | ⟨_,_,_,_,rfl,rfl⟩ | ⟨_,_,rfl,rfl⟩ | ⟨_,_,rfl,rfl⟩<;>rfl
theorem Awy.pend:p'.pend=true/\p.pend=true:=by rcases h with ⟨_,_,_,rfl,rfl⟩ | ⟨_,_,_,_,rfl,rfl⟩ | ⟨_,_,rfl,rfl⟩ | ⟨_,_,rfl,rfl⟩<;>exact ⟨rfl,rfl⟩
theorem Awy.off (d:Nat):p≠.off d:=by rcases h with ⟨_,_,_,rfl,rfl⟩ | ⟨_,_,_,_,rfl,rfl⟩ | ⟨_,_,rfl,rfl⟩ | ⟨_,_,rfl,rfl⟩<;>simp
theorem Awy.rel (s:Nat):p≠.rel s/\p'≠.rel s:=by rcases h with ⟨_,_,_,rfl,rfl⟩ | ⟨_,_,_,_,rfl,rfl⟩ | ⟨_,_,rfl,rfl⟩ | ⟨_,_,rfl,rfl⟩<;>simp
theorem Awy.gone:p'≠.gone:=by rcases h with ⟨_,_,_,rfl,rfl⟩ | ⟨_,_,_,_,rfl,rfl⟩ | ⟨_,_,rfl,rfl⟩ | ⟨_,_,rfl,rfl⟩<;>simp
theorem Awy.sema (K:Hp):p'≠.sema K:=by rcases h with ⟨_,_,_,rfl,rfl⟩ | ⟨_,_,_,_,rfl,rfl⟩ | ⟨_,_,rfl,rfl⟩ | ⟨_,_,rfl,rfl⟩<;>simp
theorem Awy.mate (hp:p.mate):p'.mate:=by
 rcases h with ⟨_,_,_,rfl,rfl⟩ | ⟨_,_,_,_,rfl,rfl⟩ | ⟨_,_,rfl,rfl⟩ | ⟨_,_,rfl,rfl⟩
 ·exact .inr (.inl ⟨_,_,rfl⟩)
 ·rcases hp with ⟨_,h⟩ | ⟨_,_,h⟩ | ⟨_,h⟩ | ⟨_,h⟩ | ⟨_,h⟩<;>cases h
 ·exact .inr (.inr (.inr (.inr ⟨_,rfl⟩)))
 ·rcases hp with ⟨_,h⟩ | ⟨_,_,h⟩ | ⟨_,h⟩ | ⟨_,h⟩ | ⟨_,h⟩<;>cases h
theorem Awy.sync {v st sm:Nat} {rl:Option (Nat×Nat)} {cl:Bool} (hs:Bqz p v rl st sm cl):Bqz p' v rl st sm cl:=by
 rcases h with ⟨_,_,_,rfl,rfl⟩ | ⟨_,_,_,_,rfl,rfl⟩ | ⟨_,_,rfl,rfl⟩ | ⟨_,_,rfl,rfl⟩
 ·exact hs.elim
 ·exact hs
 ·exact hs.elim
 ·exact hs
theorem Awy.work (hp:(∃d,p=.off d)∨∃K v,p=.work K v):(∃d,p'=.off d)∨∃K v,p'=.work K v:=by
 rcases h with ⟨_,_,_,rfl,rfl⟩ | ⟨_,_,_,_,rfl,rfl⟩ | ⟨_,_,rfl,rfl⟩ | ⟨_,_,rfl,rfl⟩
 ·exact .inr ⟨_,_,rfl⟩
 ·rcases hp with ⟨_,h⟩ | ⟨_,_,h⟩<;>cases h
 ·rcases hp with ⟨_,h⟩ | ⟨_,_,h⟩<;>cases h
 ·rcases hp with ⟨_,h⟩ | ⟨_,_,h⟩<;>cases h
end
theorem Cx0 {q:Nat->PhW} {x:Nat} {p':PhW} (F:PhW->Prop) (h:F p') (h':∀j,j≠x->F (q j)) (j:Nat):F (upd q x p' j):=by
 by_cases hj:j=x
 ·subst hj;rw [upd_same];exact h
 ·rw [upd_ne _ _ hj];exact h' j hj
theorem Akb {K K':Hp} {y:Nat} (hm:Moves K w es K' w') (hK:K y=none) (hy:y<w.heap.size):K' y=none:=by
 cases hl:K' y with
 | none=>rfl
 | some z=>
  obtain ⟨p,o⟩:=z
  rcases hm.own y p o hl with ⟨o',ho',_⟩ | ⟨h1,_⟩
  ·rw [hK] at ho';cases ho'
  ·omega
theorem Azb {K K':Hp} {y:Nat} (hm:Moves K w es K' w') (hK:K y=none) (hy:y<w.heap.size):w'.heap[y]?=w.heap[y]?:=
 hm.frame y hy fun o ho=>by rw [hK] at ho;cases ho
theorem Aw3.moves {K K':Hp} (h:Aw3 W γ H gs.size w t q Sh) (hK:(q (i+1)).mem=some K) (hs:Awy (q (i+1)) p') (hK':p'.mem=some K') (hm:Moves K w es K' w') :
  Aw3 W γ H gs.size w' (t++MemOp.ofEvents (i+1) fn pos es) (upd q (i+1) p') Sh:=by
 cases γ with
 | idle=>obtain ⟨d,hd⟩:=h (i+1);exact absurd hd (hs.off d)
 | busy c b ty n d L cz D=>
  obtain ⟨cl,r,st,sm,k,hB,hz⟩:=h
  have hKx:hpW H q (i+1)=some K:=by rw [Axu (by omega)];exact hK
  obtain ⟨hc0,hb0⟩:=hB.none _ _ hKx
  have hcl:=lt_of_heap hB.chan
  have hbl:=lt_of_heap hB.wg
  have hon:∀y,OnW (upd q (i+1) p') y->OnW q y:=fun y hy=>hy.imp id fun hy=>by
   by_cases hyi:y=i+1
   ·subst hyi;rw [upd_same,hs.on] at hy;exact hy
   ·rw [upd_ne _ _ hyi] at hy;exact hy
  have hval:Aji (upd q (i+1) p') gs.size=Aji q gs.size:=Ako fun j _=>by
   by_cases hj:j=i+1
   ·subst hj;rw [upd_same];exact hs.val
   ·rw [upd_ne _ _ hj]
  have hcnt:cntW (upd q (i+1) p') gs.size=cntW q gs.size:=Ak7 fun j _=>by
   by_cases hj:j=i+1
   ·subst hj;rw [upd_same];exact hs.num
   ·rw [upd_ne _ _ hj]
  refine ⟨cl,r,st,sm,k,⟨?_,?_,fun y M hy=>?_,hB.sh,hB.ne,hB.high,?_,hB.small,hB.lent,hB.synb.own hm hb0 hbl hon,hB.sync.own hm hc0 hcl hon⟩,?_⟩
  ·rw [Azb hm hc0 hcl];exact hB.chan
  ·rw [Azb hm hb0 hbl];exact hB.wg
  ·by_cases hyi:y=i+1
   ·subst hyi
    rw [Axu (by omega),upd_same,hK'] at hy
    cases hy
    exact ⟨Akb hm hc0 hcl,Akb hm hb0 hbl⟩
   ·refine hB.none y M ?_
    by_cases hy0:y=0
    ·subst hy0;exact hy
    ·rw [Axu hy0,upd_ne _ _ hyi] at hy
     rw [Axu hy0];exact hy
  ·rw [hval];exact hB.perm
  ·cases cz with
   | false=>
    obtain ⟨h1,h2,h3,h4,h5⟩:=hz
    refine ⟨h1,h2,h3,h4,Cx0 (fun p=>(∃d,p=.off d)∨∃K v,p=.work K v) (hs.work (h5 _)) fun j _=>h5 j⟩
   | true=>
    obtain ⟨rl,hC⟩:=hz
    refine ⟨rl,hC.lt,fun j hj=>?_,fun j s=>?_,?_,fun hg=>?_⟩
    ·by_cases hji:j=i+1
     ·subst hji;rw [upd_same];exact hs.mate (hC.oth _ hj)
     ·rw [upd_ne _ _ hji];exact hC.oth j hj
    ·by_cases hji:j=i+1
     ·subst hji
      rw [upd_same]
      exact ⟨fun e=>absurd e (hs.rel s).2,fun e=>absurd ((hC.rels _ s).2 e) (hs.rel s).1⟩
     ·rw [upd_ne _ _ hji];exact hC.rels j s
    ·rw [hcnt]
     by_cases hki:k=i+1
     ·subst hki;rw [upd_same];exact hs.sync hC.syn
     ·rw [upd_ne _ _ hki];exact hC.syn
    ·have hki:k≠i+1:=fun e=>by subst e;rw [upd_same] at hg;exact hs.gone hg
     rw [upd_ne _ _ hki] at hg
     obtain ⟨pp,op,h1,h2,h3,h4,h5⟩:=hC.shut hg
     have hlt:=lt_size_of_getElem? h1
     refine ⟨pp,op,by rw [getElem?_append_old hlt];exact h1,h2,h3,(heard_old hlt).2 h4,fun j z hz hzg=>?_⟩
     rcases getElem?_append_cases hz with ⟨hi',hz'⟩ | ⟨_,hz'⟩
     ·exact h5 j z hz' hzg
     ·exact absurd (hzg.symm.trans (Avy z hz')) hki
theorem WI.moveI {K K':Hp} (h:WI P W γ H gs w t μ e q Sh) (hρ:μ[i]?=some ρ) (hgs:Azv P γ q gs gs' (i+1)) (hg:gs'[i+1]?=some g') (hK:(q (i+1)).mem=some K) (hs:Awy (q (i+1)) p') (hK':p'.mem=some K')
  (hm:Moves K w es K' w') (hn:OthW P γ.chan γ.blk γ.ty ρ' g' p'):WI P W γ H gs' w' (t++MemOp.ofEvents (i+1) fn pos es) (μ.set i ρ') 1 (upd q (i+1) p') Sh:=by
 have hKx:hpW H q (i+1)=some K:=by rw [Axu (by omega)];exact hK
 have hst:=h.still.moves (fn:=fn) (pos:=pos) hK hs hK' hm
 refine h.put hρ hgs hg hn ?_ Avy ?_ (Ajo.moves hm).ops (fun y hy=>?_) (h.base.moves (fun b o hb=>h.owns _ K b o hKx hb) hm) (fun M b o hM hb=>?_) ?_ (fun st hw j x M hj hq=>?_) hst
 ·have:=h.mates.own hKx hm (fn:=fn) (pos:=pos)
  rwa [<-hK',Cwa _ _ (by omega)] at this
 ·exact Av8 (x:=i+1) h.over (fun _ h=>h) Avy (Ajq PhW.pend fun _=>hs.pend.1) (Ajq PhW.early fun hy=>by rw [hs.early];exact hy) (.inr (.inl (by rw [upd_same];exact hs.pend.1)))
 ·obtain ⟨h1,h2⟩:=h.shun y hy
  refine ⟨Nat.lt_of_lt_of_le h1 hm.size,fun x M hx=>?_⟩
  by_cases hxi:x=i+1
  ·subst hxi
   rw [Axu (by omega),upd_same,hK'] at hx
   cases hx
   exact Akb hm (h2 _ _ hKx) h1
  ·refine h2 x M ?_
   by_cases hx0:x=0
   ·subst hx0;exact hx
   ·rw [Axu hx0,upd_ne _ _ hxi] at hx
    rw [Axu hx0];exact hx
 ·rw [hK'] at hM
  cases hM
  rcases hm.own b true o hb with ⟨o',ho',_⟩ | ⟨h1,_⟩
  ·exact h.owns _ K b o' hKx ho'
  ·exact Nat.le_trans h.base.size h1
 ·rw [Deaf_own,h.deaf _ (by omega),Bzd hm,hs.deaf]
 ·have hji:j≠i+1:=fun e=>by subst e;rw [upd_same] at hq;exact hs.sema _ hq
  rw [upd_ne _ _ hji] at hq
  have hj0:j≠0:=fun e=>by subst e;rw [h.zero] at hq;cases hq
  obtain ⟨y,hy,_,hyr⟩:=hgs.oth j x hji hj0 hj
  refine hyr (h.wake j y M st hy hq ?_)
  have hS:=h.still
  cases γ with
  | idle=>obtain ⟨d,hd⟩:=hS (i+1);exact absurd hd (hs.off d)
  | busy c b ty n d L cz D=>
   obtain ⟨cl,r,st',sm,k,hB,_⟩:=hS
   obtain ⟨_,hb0⟩:=hB.none _ _ hKx
   rw [<-hw]
   exact (Azb hm hb0 (lt_of_heap hB.wg)).symm
end
end Go.X
end
