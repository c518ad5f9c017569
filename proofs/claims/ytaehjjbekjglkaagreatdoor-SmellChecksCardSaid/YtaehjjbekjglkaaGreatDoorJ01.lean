/- Texts Sem Go Call Draw Fn Mates Fan Comm Crew Hands. -/
import Derived.StepT
import Derived.Conc.Events
import Derived.Calls
import Derived.Orders
import Derived.Conc.Own5
import Derived.Conc.Listed
import Derived.Conc.Beside
set_option linter.defProp false
set_option linter.unusedSimpArgs false
set_option linter.unusedVariables false
set_option maxRecDepth 100000
set_option maxHeartbeats 2000000
section
namespace Go.X
open Go
theorem aN {a b:Prop} (x:a) (y:b):a/\b:=⟨x,y⟩
abbrev Hp:=Nat->Option (Bool×Obj)
def Hp.set (H:Hp) (b:Nat) (o:Obj):Hp:=fun x=>if x=b then some (true,o) else H x
def Hp.cell (H:Hp) (a:Addr):Option Value:=
 match H a.block with
 | some (_,.cells c _ _)=>if a.spot.isSome then none else c[a.off]?
 | _=>none
def Hp.shape (H:Hp) (b:Nat):Option (Option (TypeId×Nat)):=
 match H b with
 | some (_,.cells c e _)=>some (some (e,c.size))
 | some _=>some none
 | none=>none
def Hp.ice (H:Hp) (a:Addr):Option Bool:=
 match H a.block with
 | some (_,.cells _ _ (lo,hi))=>some (lo<=a.off&&a.off<hi)
 | some _=>some false
 | none=>none
def Sat (H:Hp) (w:World):Prop:=∀b p o,H b=some (p,o)->w.heap[b]?=some o
def Hp.le (H H':Hp):Prop:=∀b x,H b=some x->H' b=some x
theorem Hp.le_refl (H:Hp):H.le H:=fun _ _ h=>h
theorem Hp.le_trans {a b c:Hp} (h:a.le b) (h':b.le c):a.le c:=fun x v hv=>h' x v (h x v hv)
theorem Sat.mono {H H':Hp} {w:World} (h:Sat H' w) (hl:H.le H'):Sat H w:=fun b p o hb=>h b p o (hl b _ hb)
theorem Hp.le_set {H:Hp} {b:Nat} {o:Obj} (hb:H b=none):H.le (H.set b o):=fun x v hv=>by
 unfold Hp.set
 by_cases h:x=b
 ·subst h;rw [hb] at hv;cases hv
 ·rw [if_neg h];exact hv
def EvOK (H:Hp) (n:Nat) (e:Event):Prop:=
 match e.loc with
 | .cell a=>e.sync=false/\((∃o,H a.block=some (true,o))∨n<=a.block∨(e.write=false/\∃o,H a.block=some (false,o)))
 | .obj r=>True/\((∃o,H r=some (true,o))∨n<=r∨(e.write=false/\∃o,H r=some (false,o)))
 | .mark .noRoom=>True
 | .mark (.extern _)=>True
 | _=>False
def Awz:Loc->Option Nat
 | .cell a=>some a.block
 | .obj r=>some r
 | _=>none
structure Moves (H:Hp) (w:World) (es:Array Event) (H':Hp) (w':World):Prop where
 sat:Sat H' w'
 size:w.heap.size<=w'.heap.size
 frame:∀b,b<w.heap.size->(∀o,H b≠some (true,o))->w'.heap[b]?=w.heap[b]?
 own:∀b p o',H' b=some (p,o')->(∃o,H b=some (p,o)/\(p=false->o'=o))∨(w.heap.size<=b/\p=true)
 tape:w'.tape=w.tape
 os:w'.os=w.os
 output:w'.output=w.output
 evs:∀e∈es,EvOK H w.heap.size e
 low:∀e∈es,∀b,Awz e.loc=some b->b<w'.heap.size
theorem Moves.refl {H:Hp} {w:World} (h:Sat H w):Moves H w #[] H w:=
 ⟨h,Nat.le_refl _,fun _ _ _=>rfl,fun _ _ o hb=>.inl ⟨o,hb,fun _=>rfl⟩,rfl,rfl,rfl,fun e he=>by simp at he,fun e he=>by simp at he⟩
theorem Sat.lt {H:Hp} {w:World} (h:Sat H w) {b:Nat} {p:Bool} {o:Obj} (hb:H b=some (p,o)):b<w.heap.size:=
 (Array.getElem?_eq_some_iff.1 (h b p o hb)).1
theorem EvOK.weaken {H H':Hp} {n n':Nat} {e:Event} (hn:n<=n')
  (hH:∀b p o,H' b=some (p,o)->(∃o',H b=some (p,o'))∨(n<=b/\p=true)) (h:EvOK H' n' e):EvOK H n e:=by
 unfold EvOK at *
 cases hl:e.loc with
 | cell a=>
  simp only [hl] at h
  obtain ⟨hs,h⟩:=h
  refine ⟨hs,?_⟩
  rcases h with ⟨o,ho⟩ | h | ⟨hw,o,ho⟩
  ·rcases hH _ _ _ ho with ⟨o',ho'⟩ | ⟨h1,_⟩
   ·exact .inl ⟨o',ho'⟩
   ·exact .inr (.inl h1)
  ·exact .inr (.inl (Nat.le_trans hn h))
  ·rcases hH _ _ _ ho with ⟨o',ho'⟩ | ⟨h1,_⟩
   ·exact .inr (.inr ⟨hw,o',ho'⟩)
   ·exact .inr (.inl h1)
 | obj a=>
  simp only [hl] at h
  obtain ⟨hs,h⟩:=h
  refine ⟨hs,?_⟩
  rcases h with ⟨o,ho⟩ | h | ⟨hw,o,ho⟩
  ·rcases hH _ _ _ ho with ⟨o',ho'⟩ | ⟨h1,_⟩
   ·exact .inl ⟨o',ho'⟩
   ·exact .inr (.inl h1)
  ·exact .inr (.inl (Nat.le_trans hn h))
  ·rcases hH _ _ _ ho with ⟨o',ho'⟩ | ⟨h1,_⟩
   ·exact .inr (.inr ⟨hw,o',ho'⟩)
   ·exact .inr (.inl h1)
 | output=>simp only [hl] at h
 | goroutines=>simp only [hl] at h
 | mark m=>simp only [hl] at h;cases m<;>first | exact h.elim | trivial
theorem Moves.trans {H H₁ H₂:Hp} {w w₁ w₂:World} {es es':Array Event} (h:Moves H w es H₁ w₁) (h':Moves H₁ w₁ es' H₂ w₂) :
  Moves H w (es++es') H₂ w₂ where
 sat:=h'.sat
 size:=Nat.le_trans h.size h'.size
 frame:=fun b hb hn=>by
  rw [h'.frame b (Nat.lt_of_lt_of_le hb h.size) ?_,h.frame b hb hn]
  intro o ho
  rcases h.own b true o ho with ⟨o',ho',_⟩ | ⟨h1,_⟩
  ·exact hn _ ho'
  ·omega
 own:=fun b p o' hb=>by
  rcases h'.own b p o' hb with ⟨o,ho,he⟩ | ⟨h1,h2⟩
  ·rcases h.own b p o ho with ⟨o₀,ho₀,he₀⟩ | ⟨h1,h2⟩
   ·exact .inl ⟨o₀,ho₀,fun hp=>(he hp).trans (he₀ hp)⟩
   ·exact .inr ⟨h1,h2⟩
  ·exact .inr ⟨Nat.le_trans h.size h1,h2⟩
 tape:=h'.tape.trans h.tape
 os:=h'.os.trans h.os
 output:=h'.output.trans h.output
 evs:=fun e he=>by
  rcases Array.mem_append.1 he with he | he
  ·exact h.evs e he
  ·refine (h'.evs e he).weaken h.size fun b p o hb=>?_
   rcases h.own b p o hb with ⟨o',ho',_⟩ | h1
   ·exact .inl ⟨o',ho'⟩
   ·exact .inr h1
 low:=fun e he b hb=>by
  rcases Array.mem_append.1 he with he | he
  ·exact Nat.lt_of_lt_of_le (h.low e he b hb) h'.size
  ·exact h'.low e he b hb
theorem Moves.more {H H₁ G:Hp} {w w₁:World} {es:Array Event} (h:Moves H w es H₁ w₁) (hl:H.le G):Moves G w es H₁ w₁ where
 sat:=h.sat
 size:=h.size
 frame:=fun b hb hn=>h.frame b hb fun o ho=>hn o (hl b _ ho)
 own:=fun b p o' hb=>(h.own b p o' hb).imp (fun ⟨o,ho,he⟩=>⟨o,hl b _ ho,he⟩) id
 tape:=h.tape
 os:=h.os
 output:=h.output
 evs:=fun e he=>(h.evs e he).weaken (Nat.le_refl _) fun b _ o hb=>.inl ⟨o,hl b _ hb⟩
 low:=h.low
def one:Value->Bool
 | .agg _=>false
 | .tuple _=>false
 | _=>true
def wpS (P:Program) {α:Type}:Sem α->Hp->(α->Hp->Prop)->(Value->Hp->Prop)->Prop
 | .pure a,H,K,_=>K a H
 | .load m a k,H,K,E=>m=.plain/\∃v,H.cell a=some v/\wpS P (k v) H K E
 | .store m a v k,H,K,E=>m=.plain/\one v=true/\∃c e lo hi,H a.block=some (true,.cells c e (lo,hi))/\a.spot=none/\a.off<c.size/\(lo<=a.off&&a.off<hi)=false /\
  wpS P k (H.set a.block (.cells (c.setIfInBounds a.off v) e (lo,hi))) K E
 | .new o k,H,K,E=>∀b,H b=none->wpS P (k b) (H.set b o) K E
 | .shape r k,H,K,E=>∃s,H.shape r=some s/\wpS P (k s) H K E
 | .freeze _ _ _,_,_,_=>False
 | .frozen a k,H,K,E=>∃s,H.ice a=some s/\wpS P (k s) H K E
 | .getObj r k,H,K,E=>∃p o,H r=some (p,o)/\(o matches .cells ..)=false/\(o.isChan && !p)=false/\wpS P (k o) H K E
 | .setObj r o k,H,K,E=>∃o',H r=some (true,o')/\(o' matches .cells ..)=false/\(o.isChan&&false)=false/\wpS P k (H.set r o) K E
 | .choose q k,H,K,E=>if q.forced then wpS P (k 0) H K E else ∀n,wpS P (k (q.cut n)) H K E
 | .sys _ _,_,_,_=>False
 | .program k,H,K,E=>wpS P (k P) H K E
 | .mark m k,H,K,E=>(m=.noRoom∨∃f,m=.extern f)/\wpS P k H K E
 | .halt (.panic v),H,_,E=>E v H
 | .halt _,_,_,_=>False
section
variable {P:Program}
theorem Bqb {α:Type} {s:Sem α} {H:Hp} {K K':α->Hp->Prop} {E E':Value->Hp->Prop} (h:wpS P s H K E) (hk:∀a H,K a H->K' a H) (he:∀v H,E v H->E' v H) :
  wpS P s H K' E':=by
 induction s generalizing H with
 | pure a=>exact hk _ _ h
 | load m a k ih=>obtain ⟨hm,v,hv,h⟩:=h;exact ⟨hm,v,hv,ih _ h⟩
 | store m a v k ih=>obtain ⟨hm,h1,c,e,lo,hi,hb,hs,ho,hf,h⟩:=h;exact ⟨hm,h1,c,e,lo,hi,hb,hs,ho,hf,ih h⟩
 | new o k ih=>exact fun b hb=>ih _ (h b hb)
 | shape r k ih=>obtain ⟨s,hs,h⟩:=h;exact ⟨s,hs,ih _ h⟩
 | freeze a n k ih=>exact h.elim
 | frozen a k ih=>obtain ⟨s,hs,h⟩:=h;exact ⟨s,hs,ih _ h⟩
 | getObj r k ih=>obtain ⟨p,o,ho,hc,hch,h⟩:=h;exact ⟨p,o,ho,hc,hch,ih _ h⟩
 | setObj r o k ih=>obtain ⟨o',ho,hc,hch,h⟩:=h;exact ⟨o',ho,hc,hch,ih h⟩
 | choose q k ih=>
  simp only [wpS] at *
  split
  ·rename_i hq;rw [if_pos hq] at h;exact ih _ h
  ·rename_i hq;rw [if_neg hq] at h;exact fun n=>ih _ (h n)
 | sys c k ih=>exact h.elim
 | program k ih=>exact ih _ h
 | mark m k ih=>exact ⟨h.1,ih h.2⟩
 | halt x=>cases x<;>first | exact he _ _ h | exact h.elim
theorem Dq0 {α β:Type} (s:Sem α) (f:α->Sem β) (H:Hp) (K:β->Hp->Prop) (E:Value->Hp->Prop) :
  wpS P (s >>= f) H K E↔wpS P s H (fun a H'=>wpS P (f a) H' K E) E:=by
 change wpS P (s.bind f) H K E↔_
 induction s generalizing H with
 | pure a=>exact Iff.rfl
 | load m a k ih=>simp only [Sem.bind,wpS,ih]
 | store m a v k ih=>simp only [Sem.bind,wpS,ih]
 | new o k ih=>simp only [Sem.bind,wpS,ih]
 | shape r k ih=>simp only [Sem.bind,wpS,ih]
 | freeze a n k ih=>exact Iff.rfl
 | frozen a k ih=>simp only [Sem.bind,wpS,ih]
 | getObj r k ih=>simp only [Sem.bind,wpS,ih]
 | setObj r o k ih=>simp only [Sem.bind,wpS,ih]
 | choose q k ih=>simp only [Sem.bind,wpS,ih]
 | sys c k ih=>exact Iff.rfl
 | program k ih=>simp only [Sem.bind,wpS,ih]
 | mark m k ih=>simp only [Sem.bind,wpS,ih]
 | halt x=>cases x<;>exact Iff.rfl
theorem Cyc {H:Hp} {w:World} (h:Sat H w) {a:Addr} {v:Value} (hc:H.cell a=some v):w.cell? a=some v:=by
 unfold Hp.cell at hc
 unfold World.cell?
 split at hc
 ·rename_i c e f hb
  rw [h _ _ _ hb]
  exact hc
 ·cases hc
theorem Moves.one {H:Hp} {w:World} {e:Event} (h:Sat H w) (he:EvOK H w.heap.size e) (hl:∀b,Awz e.loc=some b->b<w.heap.size):Moves H w #[e] H w:=
 {Moves.refl h with evs:=fun x hx=>(by simp at hx;subst hx;exact he),low:=fun x hx=>(by simp at hx;subst hx;exact hl) }
theorem Moves.draw {H:Hp} {w:World} (h:Sat H w) (n:Nat):Moves H w #[] H { w with drawn:=n }:=
 {Moves.refl h with sat:=h }
theorem Moves.put {H:Hp} {w:World} (h:Sat H w) {b:Nat} {o o':Obj} (hb:H b=some (true,o)) {es:Array Event} (hes:∀e∈es,EvOK H w.heap.size e) (hl:∀e∈es,∀b,Awz e.loc=some b->b<w.heap.size) :
  Moves H w es (H.set b o') { w with heap:=w.heap.setIfInBounds b o' } where
 sat:=fun x p o hx=>by
  unfold Hp.set at hx
  by_cases hxb:x=b
  ·subst hxb;simp only [if_true,Option.some.injEq,Prod.mk.injEq] at hx
   simp [h.lt hb,hx.2]
  ·rw [if_neg hxb] at hx
   simp [Array.getElem?_setIfInBounds_ne (Ne.symm hxb),h _ _ _ hx]
 size:=by simp
 frame:=fun x hx hn=>by
  have:b≠x:=fun e=>hn o (e▸hb)
  simp [Array.getElem?_setIfInBounds_ne this]
 own:=fun x p o'' hx=>by
  unfold Hp.set at hx
  by_cases hxb:x=b
  ·subst hxb;simp only [if_true,Option.some.injEq,Prod.mk.injEq] at hx
   exact .inl ⟨o,by rw [hb,hx.1],fun hp=>by rw [<-hx.1] at hp;cases hp⟩
  ·rw [if_neg hxb] at hx
   exact .inl ⟨o'',hx,fun _=>rfl⟩
 tape:=rfl
 os:=rfl
 output:=rfl
 evs:=hes
 low:=fun e he b hb=>by simpa using hl e he b hb
theorem Moves.push {H:Hp} {w:World} (h:Sat H w) (o:Obj):Moves H w #[] (H.set w.heap.size o) { w with heap:=w.heap.push o } where
 sat:=fun x p o' hx=>by
  unfold Hp.set at hx
  by_cases hxb:x=w.heap.size
  ·subst hxb;simp only [if_true,Option.some.injEq,Prod.mk.injEq] at hx
   simp [hx.2]
  ·rw [if_neg hxb] at hx
   have:=h.lt hx
   simp [Array.getElem?_push,Nat.ne_of_lt this,h _ _ _ hx]
 size:=by simp
 frame:=fun x hx hn=>by simp [Array.getElem?_push,Nat.ne_of_lt hx]
 own:=fun x p o'' hx=>by
  unfold Hp.set at hx
  by_cases hxb:x=w.heap.size
  ·subst hxb;simp only [if_true,Option.some.injEq,Prod.mk.injEq] at hx
   exact .inr ⟨Nat.le_refl _,hx.1.symm⟩
  ·rw [if_neg hxb] at hx
   exact .inl ⟨o'',hx,fun _=>rfl⟩
 tape:=rfl
 os:=rfl
 output:=rfl
 evs:=fun e he=>by simp at he
 low:=fun e he=>by simp at he
theorem Sat.fresh {H:Hp} {w:World} (h:Sat H w):H w.heap.size=none:=by
 cases hb:H w.heap.size with
 | none=>rfl
 | some x=>obtain ⟨p,o⟩:=x;exact absurd (h.lt hb) (Nat.lt_irrefl _)
theorem setCell_eq {w:World} {a:Addr} {c:Array Value} {e:TypeId} {lo hi:Nat} {v:Value} (hb:w.heap[a.block]?=some (.cells c e (lo,hi))) (hs:a.spot=none) :
  w.setCell a v={ w with heap:=w.heap.setIfInBounds a.block (.cells (c.setIfInBounds a.off v) e (lo,hi)) }:=by
 unfold World.setCell
 congr 1
 apply Array.ext_getElem?
 intro i
 rw [Array.getElem?_modify]
 by_cases hi:a.block=i
 ·subst hi
  have hlt:=(Array.getElem?_eq_some_iff.1 hb).1
  have hb':w.heap[a.block]=.cells c e (lo,hi):=by simpa [hlt] using hb
  simp [hb',hs,hlt]
 ·simp [hi,Array.getElem?_setIfInBounds_ne hi]
theorem Bjw:(Mode.plain==Mode.atomic)=false:=rfl
theorem Akr {α:Type} (s:Sem α):∀ {H:Hp} {K:α->Hp->Prop} {E:Value->Hp->Prop} (w:World),Sat H w->wpS P s H K E ->
  ∃es w' H',Moves H w es H' w'/\∃r,(∀es₀,s.runT P w es₀=(r,es₀++es))/\((∃a,r=.ok a w'/\K a H')∨(∃v,r=.halt (.panic v) w'/\E v H')):=by
 induction s with
 | pure a=>intro H K E w hs h;exact ⟨#[],w,H,.refl hs,_,fun es=>by simp only [Sem.runT,Array.append_empty],.inl ⟨a,rfl,h⟩⟩
 | load m a k ih=>
  intro H K E w hs h
  obtain ⟨rfl,v,hv,h⟩:=h
  obtain ⟨es,w',H',hm,r,hr,hd⟩:=ih v w hs h
  refine ⟨#[⟨.cell a,false,false⟩]++es,w',H',Moves.trans (Moves.one hs ?_ ?_) hm,r,fun es₀=>?_,hd⟩
  ·refine ⟨rfl,?_⟩
   unfold Hp.cell at hv
   split at hv
   ·rename_i p c e f hb
    cases p
    ·exact .inr (.inr ⟨rfl,_,hb⟩)
    ·exact .inl ⟨_,hb⟩
   ·cases hv
  ·intro b hb
   cases hb
   unfold Hp.cell at hv
   split at hv
   ·rename_i p c e f hb;exact hs.lt hb
   ·cases hv
  ·simp only [Sem.runT,Cyc hs hv]
   rw [hr]
   simp [-Sem.runT_eq,Bjw]
 | store m a v k ih=>
  intro H K E w hs h
  obtain ⟨rfl,h1,c,e,lo,hi,hb,hsp,ho,hf,h⟩:=h
  have hwb:=hs _ _ _ hb
  have hset:=setCell_eq (v:=v) hwb hsp
  have hm0:Moves H w #[⟨.cell a,true,false⟩] (H.set a.block (.cells (c.setIfInBounds a.off v) e (lo,hi))) (w.setCell a v):=by
   rw [hset]
   exact Moves.put hs hb (fun x hx=>by simp at hx;subst hx;exact ⟨rfl,.inl ⟨_,hb⟩⟩) (fun x hx b' hb'=>by simp at hx;subst hx;cases hb';exact hs.lt hb)
  obtain ⟨es,w',H',hm,r,hr,hd⟩:=ih _ hm0.sat h
  refine ⟨#[⟨.cell a,true,false⟩]++es,w',H',Moves.trans hm0 hm,r,fun es₀=>?_,hd⟩
  have hcell:w.cell? a=some c[a.off]:=by simp [World.cell?,hwb,hsp,ho]
  have hfr:w.frozen? a=false:=by simpa [World.frozen?,hwb] using hf
  cases v<;>first | (simp [one] at h1;done) | (simp only [Sem.runT,hcell,hfr,Bool.false_eq_true,if_false];rw [hr];simp [-Sem.runT_eq,Bjw])
 | new o k ih=>
  intro H K E w hs h
  have hm0:=Moves.push hs o
  obtain ⟨es,w',H',hm,r,hr,hd⟩:=ih _ _ hm0.sat (h _ hs.fresh)
  exact ⟨#[]++es,w',H',Moves.trans hm0 hm,r,fun es₀=>by simp only [Sem.runT];rw [hr];simp [-Sem.runT_eq],hd⟩
 | shape x k ih=>
  intro H K E w hs h
  obtain ⟨s,hsh,h⟩:=h
  obtain ⟨es,w',H',hm,r,hr,hd⟩:=ih _ w hs h
  refine ⟨es,w',H',hm,r,fun es₀=>?_,hd⟩
  have:w.shape? x=s:=by
   unfold Hp.shape at hsh
   unfold World.shape?
   rcases hb:H x with _ | ⟨p,o⟩
   ·simp [hb] at hsh
   ·rw [hs _ _ _ hb]
    cases o<;>simpa [hb] using hsh
  simp only [Sem.runT,this];rw [hr]
 | freeze a n k ih=>intro H K E w hs h;exact h.elim
 | frozen a k ih=>
  intro H K E w hs h
  obtain ⟨s,hsh,h⟩:=h
  obtain ⟨es,w',H',hm,r,hr,hd⟩:=ih _ w hs h
  refine ⟨es,w',H',hm,r,fun es₀=>?_,hd⟩
  have:w.frozen? a=s:=by
   unfold Hp.ice at hsh
   unfold World.frozen?
   rcases hb:H a.block with _ | ⟨p,o⟩
   ·simp [hb] at hsh
   ·rw [hs _ _ _ hb]
    cases o<;>simpa [hb] using hsh
  simp only [Sem.runT,this];rw [hr]
 | getObj x k ih=>
  intro H K E w hs h
  obtain ⟨p,o,hb,hc,hch,h⟩:=h
  obtain ⟨es,w',H',hm,r,hr,hd⟩:=ih _ w hs h
  refine ⟨#[⟨.obj x,false,o.isChan⟩]++es,w',H',Moves.trans (Moves.one hs ?_ (fun b' hb'=>by cases hb';exact hs.lt hb)) hm,r,fun es₀=>?_,hd⟩
  ·refine ⟨trivial,?_⟩
   cases p
   ·exact .inr (.inr ⟨rfl,_,hb⟩)
   ·exact .inl ⟨_,hb⟩
  ·have hwb:=hs _ _ _ hb
   cases o<;>first | (simp at hc;done) | (simp only [Sem.runT,hwb];rw [hr];simp [-Sem.runT_eq])
 | setObj x o k ih=>
  intro H K E w hs h
  obtain ⟨o',hb,hc,hch,h⟩:=h
  have hm0:Moves H w #[⟨.obj x,true,o.isChan⟩] (H.set x o) { w with heap:=w.heap.setIfInBounds x o }:=
   Moves.put hs hb (fun e he=>by simp at he;subst he;exact ⟨trivial,.inl ⟨_,hb⟩⟩) (fun e he b' hb'=>by simp at he;subst he;cases hb';exact hs.lt hb)
  obtain ⟨es,w',H',hm,r,hr,hd⟩:=ih _ hm0.sat h
  refine ⟨#[⟨.obj x,true,o.isChan⟩]++es,w',H',Moves.trans hm0 hm,r,fun es₀=>?_,hd⟩
  have hwb:=hs _ _ _ hb
  cases o'<;>first | (simp at hc;done) | (simp only [Sem.runT,hwb];rw [hr];simp [-Sem.runT_eq])
 | choose q k ih=>
  intro H K E w hs h
  simp only [wpS] at h
  by_cases hq:q.forced=true
  ·rw [if_pos hq] at h
   obtain ⟨es,w',H',hm,r,hr,hd⟩:=ih _ w hs h
   exact ⟨es,w',H',hm,r,fun es₀=>by simp only [Sem.runT,if_pos hq];rw [hr],hd⟩
  ·rw [if_neg hq] at h
   have hm0:=Moves.draw hs (w.drawn+1)
   obtain ⟨es,w',H',hm,r,hr,hd⟩:=ih _ _ hm0.sat (h (w.tape w.drawn q))
   exact ⟨#[]++es,w',H',Moves.trans hm0 hm,r,fun es₀=>by simp only [Sem.runT,if_neg hq];rw [hr];simp [-Sem.runT_eq],hd⟩
 | sys c k ih=>intro H K E w hs h;exact h.elim
 | program k ih=>
  intro H K E w hs h
  obtain ⟨es,w',H',hm,r,hr,hd⟩:=ih _ w hs h
  exact ⟨es,w',H',hm,r,fun es₀=>by simp only [Sem.runT];rw [hr],hd⟩
 | mark m k ih=>
  intro H K E w hs h
  obtain ⟨hmk,h⟩:=h
  obtain ⟨es,w',H',hm,r,hr,hd⟩:=ih w hs h
  exact ⟨#[⟨.mark m,false,true⟩]++es,w',H',Moves.trans (Moves.one (e:=⟨.mark m,false,true⟩) hs (by rcases hmk with rfl | ⟨f,rfl⟩<;>simp [EvOK]) (fun b hb=>by cases hb)) hm,r,fun es₀=>by simp only [Sem.runT];rw [hr];simp [-Sem.runT_eq],hd⟩
 | halt x=>
  intro H K E w hs h
  cases x<;>first
   | (simp only [wpS] at h;done)
   | exact ⟨#[],w,H,.refl hs,_,fun es₀=>by simp only [Sem.runT,Array.append_empty],.inr ⟨_,rfl,h⟩⟩
end
end Go.X
end
section
namespace Go.X
open Go
open Go.Conc (G base)
def fat (b:Frame) (a:Act) (todo:List Item):Frame:={ b with tmps:=a.tmps,todo:=todo,defers:=a.defers,mode:=.run }
theorem Bkp (b:Frame) (a:Act) (todo:List Item):(fat b a todo).eval=a.eval:=by
 funext x;cases x<;>rfl
structure Md where
 main:Bool
 ph:Goroutine->Hp->(Goroutine->Hp->Prop)->Prop
 more:∀g H G T,ph g H T->H.le G->ph g G T
instance:Coe Md Bool:=⟨Md.main⟩
def Md.own (m:Bool):Md:=⟨m,fun _ _ _=>False,fun _ _ _ _ h _=>h⟩
inductive WPG (P:Program) (main:Md) (Stop:Goroutine->Hp->Prop):Goroutine->Hp->Prop
 | stop {g:Goroutine} {H H₀:Hp} (h:Stop g H₀) (hl:H₀.le H):WPG P main Stop g H
 | step {g:Goroutine} {H:Hp} (T:Goroutine->Hp->Prop) (hs:g.status=.running)
  (h:∀w,Sat H w->∃g' w' es H',stepG P main g w=.go g' w' es/\Moves H w es H' w'/\T g' H')
  (ht:∀g' H',T g' H'->WPG P main Stop g' H'):WPG P main Stop g H
 | phase {g:Goroutine} {H:Hp} (T:Goroutine->Hp->Prop) (h:main.ph g H T) (ht:∀g' H',T g' H'->WPG P main Stop g' H'):WPG P main Stop g H
section
variable {P:Program} {main:Md} {Stop:Goroutine->Hp->Prop}
theorem WPG.more {g:Goroutine} {H G:Hp} (h:WPG P main Stop g H) (hl:H.le G):WPG P main Stop g G:=by
 cases h with
 | stop h hl'=>exact .stop h (Hp.le_trans hl' hl)
 | step T hs h ht=>
  exact .step T hs (fun w hw=>by
   obtain ⟨g',w',es,H',he,hm,hT⟩:=h w (hw.mono hl)
   exact ⟨g',w',es,H',he,hm.more hl,hT⟩) ht
 | phase T h ht=>exact .phase T (main.more _ _ _ _ h hl) ht
theorem WPG.ctl {g g':Goroutine} {H:Hp} (hs:g.status=.running) (h:∀w,stepG P main g w=.go g' w #[]) (hg:WPG P main Stop g' H):WPG P main Stop g H:=
 .step (fun x y=>x=g'/\y=H) hs (fun w hw=>⟨g',w,#[],H,h w,.refl hw,rfl,rfl⟩) fun x y e=>by obtain ⟨rfl,rfl⟩:=e;exact hg
def After (P:Program) (main:Md) (Stop:Goroutine->Hp->Prop) (b:Frame) (k:List Item) (cs:List Frame):Exit->Act->Hp->Prop
 | .normal,a,H=>WPG P main Stop (G (fat b a k) cs) H
 | .exit id,a,H=>∀k',exitTo id k'=exitTo id k->WPG P main Stop (G (fat b a (.code (.exit id)::k')) cs) H
 | .goto l,a,H=>∀k',gotoIn l k'=gotoIn l k->WPG P main Stop (G (fat b a (.code (.goto l)::k')) cs) H
 | .ret,a,H=>∀k',WPG P main Stop (G (fat b a (.code .ret::k')) cs) H
 | .panic ch,a,H=>∀k',WPG P main Stop (G { fat b a k' with mode:=.panicking ch } cs) H
 | .outgrown,_,_=>False
theorem After.push {b:Frame} {x:Item} {k:List Item} {cs:List Frame} {e:Exit} {a:Act} {H:Hp} (hx:x.plain=true) (he:e≠.normal)
  (h:After P main Stop b k cs e a H):After P main Stop b (x::k) cs e a H:=by
 cases e with
 | normal=>exact absurd rfl he
 | exit id=>exact fun k' hk=>h k' (hk.trans (by cases x<;>simp_all [exitTo,Item.plain]))
 | goto l=>exact fun k' hk=>h k' (hk.trans (by cases x<;>simp_all [gotoIn,Item.plain]))
 | ret=>exact h
 | panic ch=>exact h
 | outgrown=>exact h
end
def thn (next:Act->Hp->Prop) (Q:Exit->Act->Hp->Prop):Exit->Act->Hp->Prop
 | .normal,a,H=>next a H
 | .exit id,a,H=>Q (.exit id) a H
 | .goto l,a,H=>Q (.goto l) a H
 | .ret,a,H=>Q .ret a H
 | .panic ch,a,H=>Q (.panic ch) a H
 | .outgrown,_,_=>False
def blk (id:Nat) (Q:Exit->Act->Hp->Prop):Exit->Act->Hp->Prop
 | .normal,a,H=>Q .normal a H
 | .exit id',a,H=>if id'=id then Q .normal a H else Q (.exit id') a H
 | .goto l,a,H=>Q (.goto l) a H
 | .ret,a,H=>Q .ret a H
 | .panic ch,a,H=>Q (.panic ch) a H
 | .outgrown,_,_=>False
def wpX (P:Program) (main:Md) (lp:Option Nat) (c:Code) (Q:Exit->Act->Hp->Prop) (a:Act) (H:Hp):Prop:=
 ∀(b:Frame) (k:List Item) (cs:List Frame) (Stop:Goroutine->Hp->Prop),b.kind≠.early->b.roundOf=lp ->
  (∀e a' H',Q e a' H'->After P main Stop b k cs e a' H')->WPG P main Stop (G (fat b a (.code c::k)) cs) H
def opsX (P:Program) (main:Md) (lp:Option Nat) (ops:Array Oper) (todo:List Nat) (Q:Exit->Act->Hp->Prop) (a:Act) (H:Hp):Prop:=
 ∀(b:Frame) (k:List Item) (cs:List Frame) (Stop:Goroutine->Hp->Prop),b.kind≠.early->b.roundOf=lp ->
  (∀e a' H',Q e a' H'->After P main Stop b k cs e a' H')->WPG P main Stop (G (fat b a (.inRegion ops todo::k)) cs) H
def Runs (P:Program) (main:Md) (fr:Frame) (H:Hp) (R:Ending->Hp->Prop):Prop:=
 ∀(c:Frame) (cs:List Frame) (Stop:Goroutine->Hp->Prop),
  (∀v H₁,R (.returned v) H₁->WPG P main Stop (G (c.finish v) cs) H₁) ->
  (∀ch H',R (.panicked ch) H'->WPG P main Stop (G (c.raise ch) cs) H')->WPG P main Stop (G fr (c::cs)) H
def Awe (P:Program) (main:Md) (lp:Option Nat) (o:Oper) (a:Act) (next:Act->Hp->Prop) (Q:Exit->Act->Hp->Prop):Next->Hp->Prop
 | .value v,H=>next (a.put o.dst v) H
 | .skip,H=>next (a.put o.dst undef) H
 | .defer d,H=>lp=none/\next ({ a with defers:=d::a.defers }.put o.dst undef) H
 | .enter f args,H=>Runs P main (Frame.enter P f args .normal) H fun
  | .returned v,H'=>next (a.put o.dst v) H'
  | .panicked ch,H'=>Q (.panic ch) a H'
  | .outgrown,_=>False
 | .round l f tmps ars body,H=>Runs P main (Frame.round l f tmps ars body .normal) H fun
  | .returned v,H₁=>next (a.put o.dst v) H₁
  | .panicked ch,H₁=>Q (.panic ch) a H₁
  | .outgrown,_=>False
 | _,_=>False
def opX (P:Program) (main:Md) (lp:Option Nat) (o:Oper) (a:Act) (H:Hp) (next:Act->Hp->Prop) (Q:Exit->Act->Hp->Prop):Prop:=
 wpS P (execOp a.eval o) H (Awe P main lp o a next Q) fun v H₁=>Q (.panic [{ v,recovered:=false }]) a H₁
section rules
variable {P:Program} {main:Md} {lp:Option Nat} {Q:Exit->Act->Hp->Prop} {a:Act} {H:Hp}
theorem Runs.mono {fr:Frame} {R R':Ending->Hp->Prop} (h:Runs P main fr H R) (hr:∀e H,R e H->R' e H):Runs P main fr H R':=
 fun c cs Stop h1 h2=>h c cs Stop (fun v H' r=>h1 v H' (hr _ _ r)) fun ch H' r=>h2 ch H' (hr _ _ r)
theorem Runs.less {fr:Frame} {R R':Ending->Hp->Prop} (h:Runs P main fr H R) (hr:∀e H,R e H->∃H₀,H₀.le H/\R' e H₀):Runs P main fr H R':=
 fun c cs Stop h1 h2=>h c cs Stop (fun v _ r=>let ⟨H₀,hl,r'⟩:=hr _ _ r;(h1 v H₀ r').more hl) fun ch _ r=>let ⟨H₀,hl,r'⟩:=hr _ _ r;(h2 ch H₀ r').more hl
theorem Az3 {c:Code} {Q':Exit->Act->Hp->Prop} (h:wpX P main lp c Q a H) (hq:∀e a H,Q e a H->Q' e a H):wpX P main lp c Q' a H:=
 fun b k cs Stop hk hl hc=>h b k cs Stop hk hl fun e a' H' q=>hc e a' H' (hq e a' H' q)
theorem Aza (h:Q .normal a H):wpX P main lp .skip Q a H:=fun b k cs _ _ _ hc=>
 .ctl (g':=G (fat b a k) cs) rfl (fun w=>by simp [G,stepG,stepG.exec,fat]) (hc _ _ _ h)
theorem Azd {l:Nat} (h:Q .normal a H):wpX P main lp (.label l) Q a H:=fun b k cs _ _ _ hc=>
 .ctl (g':=G (fat b a k) cs) rfl (fun w=>by simp [G,stepG,stepG.exec,fat]) (hc _ _ _ h)
theorem Az2 {id:Nat} (h:Q (.exit id) a H):wpX P main lp (.exit id) Q a H:=fun _ k _ _ _ _ hc=>hc _ _ _ h k rfl
theorem Az9 {l:Nat} (h:Q (.goto l) a H):wpX P main lp (.goto l) Q a H:=fun _ k _ _ _ _ hc=>hc _ _ _ h k rfl
theorem Axr (h:Q .ret a H):wpX P main lp .ret Q a H:=fun _ k _ _ _ _ hc=>hc _ _ _ h k
theorem Axn {x y:Code} (h:wpX P main lp x (thn (fun a' H'=>wpX P main lp y Q a' H') Q) a H):wpX P main lp (.seq x y) Q a H:=by
 intro b k cs Stop hk hl hc
 refine .ctl (g':=G (fat b a (.code x::.code y::k)) cs) rfl (fun w=>by simp [G,stepG,stepG.exec,fat]) ?_
 refine h b (.code y::k) cs Stop hk hl fun e a' H' q=>?_
 cases e with
 | normal=>exact q b k cs Stop hk hl hc
 | exit id=>exact (hc _ _ _ q).push rfl (by simp)
 | goto id=>exact (hc _ _ _ q).push rfl (by simp)
 | ret=>exact After.push (x:=.code y) (e:=.ret) rfl (by simp) (hc _ _ _ q)
 | panic ch=>exact After.push (x:=.code y) (e:=.panic ch) rfl (by simp) (hc _ _ _ q)
 | outgrown=>exact q.elim
theorem Avs {c:Operand} {x y:Code} {t:Bool} (ht:a.eval c=.bool t) (h:wpX P main lp (if t then x else y) Q a H):wpX P main lp (.cond c x y) Q a H:=by
 intro b k cs Stop hk hl hc
 refine .ctl (g':=G (fat b a (.code (if t then x else y)::k)) cs) rfl (fun w=>?_) (h b k cs Stop hk hl hc)
 have he:(fat b a (.code (.cond c x y)::k)).eval c=.bool t:=by rw [Bkp];exact ht
 simp only [fat] at he
 simp [G,stepG,stepG.exec,fat,he]
theorem Ax7 {id:Nat} {c:Code} (h:wpX P main lp c (blk id Q) a H):wpX P main lp (.block id c) Q a H:=by
 intro b k cs Stop hk hl hc
 refine .ctl (g':=G (fat b a (.code c::.inBlock id::k)) cs) rfl (fun w=>by simp [G,stepG,stepG.exec,fat]) ?_
 refine h b (.inBlock id::k) cs Stop hk hl fun e a' H' q=>?_
 cases e with
 | normal=>exact .ctl (g':=G (fat b a' k) cs) rfl (fun w=>by simp [G,stepG,stepG.exec,fat]) (hc _ _ _ q)
 | exit id'=>
  by_cases hid:id'=id
  ·simp only [blk,hid,if_true] at q
   subst hid
   intro k' hk'
   have hx:exitTo id' k'=some k:=hk'.trans (by simp [exitTo])
   exact .ctl (g':=G (fat b a' k) cs) rfl (fun w=>by simp [G,stepG,stepG.exec,fat,hx]) (hc _ _ _ q)
  ·simp only [blk,hid,if_false] at q
   have hn:(id==id')=false:=by simp;exact fun h=>hid h.symm
   exact fun k' hk'=>hc _ _ _ q k' (hk'.trans (by simp [exitTo,hn]))
 | goto l=>exact fun k' hk'=>hc _ _ _ q k' (hk'.trans (by simp [gotoIn]))
 | ret=>exact hc _ _ _ q
 | panic ch=>exact hc _ _ _ q
 | outgrown=>exact q.elim
theorem Axg {c:Code} (I:Nat->Act->Hp->Prop) {n:Nat} (h₀:I n a H)
  (round:∀n a H,I n a H->wpX P main lp c (thn (fun a' H'=>∃n',n'<n/\I n' a' H') Q) a H):wpX P main lp (.loop c) Q a H:=by
 intro b k cs Stop hk hl hc
 have key:∀n a H,I n a H->WPG P main Stop (G (fat b a (.code c::.inLoop c::k)) cs) H:=by
  intro n
  induction n using Nat.strongRecOn with
  | _ n ih=>
   intro a H hI
   refine round n a H hI b (.inLoop c::k) cs Stop hk hl fun e a' H' q=>?_
   cases e with
   | normal=>
    obtain ⟨n',hlt,hI'⟩:=q
    exact .ctl (g':=G (fat b a' (.code c::.inLoop c::k)) cs) rfl (fun w=>by simp [G,stepG,stepG.exec,fat]) (ih n' hlt a' H' hI')
   | exit id=>exact (hc _ _ _ q).push rfl (by simp)
   | goto id=>exact (hc _ _ _ q).push rfl (by simp)
   | ret=>exact After.push (x:=.inLoop c) (e:=.ret) rfl (by simp) (hc _ _ _ q)
   | panic ch=>exact After.push (x:=.inLoop c) (e:=.panic ch) rfl (by simp) (hc _ _ _ q)
   | outgrown=>exact q.elim
 exact .ctl (g':=G (fat b a (.code c::.inLoop c::k)) cs) rfl (fun w=>by simp [G,stepG,stepG.exec,fat]) (key n a H h₀)
theorem Cjv {id:Nat} {ops:Array Oper} (h:opsX P main lp ops (List.range ops.size) Q a H):wpX P main lp (.region id ops false) Q a H:=
 fun b k cs Stop hk hl hc=>.ctl (g':=G (fat b a (.inRegion ops (List.range ops.size)::k)) cs) rfl (fun w=>by simp [G,stepG,stepG.exec,fat]) (h b k cs Stop hk hl hc)
theorem Bz3 {id:Nat} {ops:Array Oper} (h:∀t,opsX P main lp ops (Region.schedule (P.follows .mixedOrders) ops t) Q a H):wpX P main lp (.region id ops true) Q a H:=by
 intro b k cs Stop hk hl hc
 refine .step (fun g' H'=>∃t,g'=G (fat b a (.inRegion ops (Region.schedule (P.follows .mixedOrders) ops t)::k)) cs/\H'=H) rfl (fun w hw=>?_) ?_
 ·refine ⟨_,{ w with drawn:=w.drawn+1 },#[],H,?_,.draw hw _,w.tape w.drawn (.order b.fn id),rfl,rfl⟩
  simp [G,stepG,stepG.exec,fat,choose,Sem.run,Question.forced,Question.cut]
 ·rintro g' H' ⟨t,rfl,rfl⟩
  exact h t b k cs Stop hk hl hc
theorem Dqo {ops:Array Oper} (h:Q .normal a H):opsX P main lp ops [] Q a H:=fun b k cs _ _ _ hc=>
 .ctl (g':=G (fat b a k) cs) rfl (fun w=>by simp [G,stepG,stepG.exec,fat]) (hc _ _ _ h)
theorem Ax5 (b:Frame) (a:Act) (ops:Array Oper) (i:Nat) (rest:List Nat) (k:List Item) (v:Value) :
  (fat b a (.inRegion ops (i::rest)::k)).finish v=fat b (a.put ((ops[i]?).bind (·.dst)) v) (.inRegion ops rest::k):=by
 cases h:(ops[i]?).bind (·.dst)<;>simp [Frame.finish,fat,Act.put,h]
theorem mem_seen {fn:FuncId} {es:Array Event} {e:Event} (h:e∈seen P fn es):e∈es:=by
 dsimp only [seen] at h
 have key:∀(l:List Event) (q:Bool) (kept:Array Event),e∈(l.foldl (fun (x:Bool×Array Event) (e:Event)=>match x,e with
   | (q,kept),e=>match e.loc with
    | .mark (.extern f)=>((P.funcs[f]?).any (·.norace),kept)
    | _=>(q,if q && !e.sync then kept else kept.push e)) (q,kept)).2->e∈kept∨e∈l:=by
  intro l
  induction l with
  | nil=>intro q kept h;exact .inl h
  | cons x l ih=>
   intro q kept h
   simp only [List.foldl_cons] at h
   split at h
   ·rcases ih _ _ h with h | h
    ·exact .inl h
    ·exact .inr (List.mem_cons_of_mem _ h)
   ·rcases ih _ _ h with h | h
    ·split at h
     ·exact .inl h
     ·rcases Array.mem_push.1 h with h | h
      ·exact .inl h
      ·exact .inr (h▸List.mem_cons_self)
    ·exact .inr (List.mem_cons_of_mem _ h)
 rw [<-Array.foldl_toList] at h
 rcases key _ _ _ h with h | h
 ·simp at h
 ·simpa using h
theorem Moves.seen {H':Hp} {w w':World} {es:Array Event} (fn:FuncId) (h:Moves H w es H' w'):Moves H w (Go.seen P fn es) H' w':=
 {h with evs:=fun e he=>h.evs e (mem_seen he),low:=fun e he=>h.low e (mem_seen he) }
end rules
end Go.X
end
section
namespace Go.X
open Go
open Go.Conc (G base)
section rules
variable {P:Program} {main:Md} {lp:Option Nat} {Q:Exit->Act->Hp->Prop} {a:Act} {H:Hp}
theorem stepG_op {b:Frame} {k:List Item} {cs:List Frame} {w:World} {ops:Array Oper} {i:Nat} {rest:List Nat} {o:Oper} (ho:ops[i]?=some o) (hw:Region.wanted o (yielded ops a.tmps)=true)
  (hd:b.roundOf=none∨∀c,o.op≠.defer c) :
  stepG P main (G (fat b a (.inRegion ops (i::rest)::k)) cs) w=stepG.apply P true (fat b a (.inRegion ops (i::rest)::k)) cs none (execOp a.eval o) w:=by
 have he:=Bkp b a (.inRegion ops (i::rest)::k)
 simp only [fat] at he
 rcases hd with hd | hd
 ·rw [hd] at he
  simp [G,stepG,stepG.exec,stepG.oper,Frame.oper?,fat,ho,hw,he,hd]
 ·cases hr:b.roundOf with
  | none=>
   rw [hr] at he
   simp [G,stepG,stepG.exec,stepG.oper,Frame.oper?,fat,ho,hw,he,hr]
  | some l=>
   rw [hr] at he
   cases hop:o.op<;>first | (simp [G,stepG,stepG.exec,stepG.oper,Frame.oper?,fat,ho,hw,he,hr,hop];done) | exact absurd hop (hd _)
theorem Cvl {ops:Array Oper} {i:Nat} {rest:List Nat} {o:Oper} (ho:ops[i]?=some o) (hw:Region.wanted o (yielded ops a.tmps)=true)
  (hd:lp=none∨∀c,o.op≠.defer c)
  (h:opX P main lp o a H (fun a' H'=>opsX P main lp ops rest Q a' H') Q):opsX P main lp ops (i::rest) Q a H:=by
 intro b k cs Stop hk hl hc
 have hk':(b.kind==CallKind.early)=false:=by simpa using hk
 have hfin:∀v,(fat b a (.inRegion ops (i::rest)::k)).finish v=fat b (a.put o.dst v) (.inRegion ops rest::k):=fun v=>by rw [Ax5,ho];rfl
 refine .step (fun g' H'=>WPG P main Stop g' H') rfl (fun w hs=>?_) fun _ _ h=>h
 rw [stepG_op ho hw (hl▸hd)]
 obtain ⟨es,w',H',hm,r,hr,hd'⟩:=Akr _ w hs h
 have hm':Moves H w (seen P b.fn es) H' w':=hm.seen b.fn
 have hr0:(execOp a.eval o).runT P w #[]=(r,es):=by rw [hr #[]];simp
 rcases hd' with ⟨x,rfl,hx⟩ | ⟨v,rfl,hv⟩
 ·cases x with
  | value v=>
   refine ⟨G (fat b (a.put o.dst v) (.inRegion ops rest::k)) cs,w',seen P b.fn es,H',?_,hm',hx b k cs Stop hk hl hc⟩
   rw [<-hfin]
   simp [stepG.apply,hr0,G,fat,hk',GStep.after,-Sem.runT_eq]
  | skip=>
   refine ⟨G (fat b (a.put o.dst undef) (.inRegion ops rest::k)) cs,w',seen P b.fn es,H',?_,hm',hx b k cs Stop hk hl hc⟩
   rw [<-hfin]
   simp [stepG.apply,hr0,G,fat,hk',GStep.after,-Sem.runT_eq]
  | defer d=>
   refine ⟨G (fat b ({ a with defers:=d::a.defers }.put o.dst undef) (.inRegion ops rest::k)) cs,w',seen P b.fn es,H',?_,hm',hx.2 b k cs Stop hk hl hc⟩
   have:({ fat b a (.inRegion ops (i::rest)::k) with defers:=d::a.defers }:Frame).finish undef=fat b ({ a with defers:=d::a.defers }.put o.dst undef) (.inRegion ops rest::k):=by
    have:=Ax5 b { a with defers:=d::a.defers } ops i rest k undef
    rw [ho] at this
    exact this
   rw [<-this]
   simp [stepG.apply,hr0,G,fat,hk',GStep.after,-Sem.runT_eq]
  | enter f args=>
   refine ⟨G (Frame.enter P f args .normal) (fat b a (.inRegion ops (i::rest)::k)::cs),w',seen P b.fn es,H',?_,hm',?_⟩
   ·simp [stepG.apply,hr0,G,fat,hk',GStep.after,-Sem.runT_eq]
   ·refine hx _ _ Stop (fun v H₁ r=>?_) fun ch H₁ r=>?_
    ·rw [hfin];exact r b k cs Stop hk hl hc
    ·exact (hc (.panic ch) a H₁ r) _
  | round l f tmps ars body=>
   refine ⟨G (Frame.round l f tmps ars body .normal) (fat b a (.inRegion ops (i::rest)::k)::cs),w',seen P b.fn es,H',?_,hm',?_⟩
   ·simp [stepG.apply,hr0,G,fat,hk',GStep.after,-Sem.runT_eq]
   ·refine hx _ _ Stop (fun v H₁ r=>?_) fun ch H₁ r=>?_
    ·rw [hfin];exact r b k cs Stop hk hl hc
    ·exact (hc (.panic ch) a H₁ r) _
  | _=>exact hx.elim
 ·refine ⟨G { fat b a (.inRegion ops (i::rest)::k) with mode:=.panicking [{ v,recovered:=false }] } cs,w',seen P b.fn es,H',?_,hm',hc (.panic _) a H' hv _⟩
  simp [stepG.apply,hr0,G,fat,hk',GStep.after,Frame.raise,-Sem.runT_eq]
theorem Bk0 {ops:Array Oper} {i:Nat} {rest:List Nat} {o:Oper} (ho:ops[i]?=some o) (hw:Region.wanted o (yielded ops a.tmps)=false)
  (h:opsX P main lp ops rest Q (a.put o.dst undef) H):opsX P main lp ops (i::rest) Q a H:=fun b k cs Stop hk hl hc=>by
 have hfin:(fat b a (.inRegion ops (i::rest)::k)).finish undef=fat b (a.put o.dst undef) (.inRegion ops rest::k):=by rw [Ax5,ho];rfl
 refine .ctl (g':=G (fat b (a.put o.dst undef) (.inRegion ops rest::k)) cs) rfl (fun w=>?_) (h b k cs Stop hk hl hc)
 rw [<-hfin]
 simp [G,stepG,stepG.exec,fat,ho,hw]
theorem Cvm {ops:Array Oper} {i:Nat} {rest:List Nat} (ho:ops[i]?=none) (h:opsX P main lp ops rest Q a H):opsX P main lp ops (i::rest) Q a H:=fun b k cs Stop hk hl hc=>by
 have hfin:(fat b a (.inRegion ops (i::rest)::k)).finish undef=fat b a (.inRegion ops rest::k):=by rw [Ax5,ho];rfl
 refine .ctl (g':=G (fat b a (.inRegion ops rest::k)) cs) rfl (fun w=>?_) (h b k cs Stop hk hl hc)
 rw [<-hfin]
 simp [G,stepG,stepG.exec,fat,ho]
def fine (lp:Option Nat) (o:Oper):Bool:=lp.isNone || !(o.op matches .defer _)
theorem Cky {o:Oper} (h:fine lp o=true):lp=none∨∀c,o.op≠.defer c:=by
 unfold fine at h
 cases lp with
 | none=>exact .inl rfl
 | some l=>refine .inr fun c hc=>?_;simp [hc] at h
def numX (P:Program) (main:Md) (lp:Option Nat) (ops:Array Oper) (i:Nat) (Q:Exit->Act->Hp->Prop) (K:Act->Hp->Prop) (a:Act) (H:Hp):Prop:=
 match ops[i]? with
 | none=>K a H
 | some o=>if Region.wanted o (yielded ops a.tmps) then fine lp o=true/\opX P main lp o a H K Q else K (a.put o.dst undef) H
theorem Awr {o:Oper} {K K':Act->Hp->Prop} (h:opX P main lp o a H K Q) (hk:∀a H,K a H->K' a H):opX P main lp o a H K' Q:=by
 refine Bqb h (fun x H' hx=>?_) fun _ _ h=>h
 cases x<;>simp only [Awe] at hx ⊢ <;> first
  | exact hk _ _ hx
  | exact ⟨hx.1,hk _ _ hx.2⟩
  | exact hx.mono fun e H₁ he=>by cases e<;>first | exact hk _ _ he | exact he
theorem Axx {ops:Array Oper} {i:Nat} {K K':Act->Hp->Prop} (hk:∀a H,K a H->K' a H) (h:numX P main lp ops i Q K a H):numX P main lp ops i Q K' a H:=by
 unfold numX at *
 split
 ·exact hk _ _ (by simpa [*] using h)
 ·rename_i o ho
  simp only [ho] at h
  split
  ·rename_i hw;simp only [hw,if_true] at h;exact ⟨h.1,Awr h.2 hk⟩
  ·rename_i hw;simp only [hw] at h;exact hk _ _ h
theorem Dqp {ops:Array Oper} {i:Nat} {rest:List Nat} (h:numX P main lp ops i Q (fun a' H'=>opsX P main lp ops rest Q a' H') a H):opsX P main lp ops (i::rest) Q a H:=by
 unfold numX at h
 cases ho:ops[i]? with
 | none=>rw [ho] at h;exact Cvm ho h
 | some o=>
  rw [ho] at h
  simp only [] at h
  by_cases hw:Region.wanted o (yielded ops a.tmps)=true
  ·rw [if_pos hw] at h;exact Cvl ho hw (Cky h.1) h.2
  ·rw [if_neg hw] at h;exact Bk0 ho (by simpa using hw) h
def runX (P:Program) (main:Md) (lp:Option Nat) (ops:Array Oper) (Q:Exit->Act->Hp->Prop):List Nat->Act->Hp->Prop
 | [],a,H=>Q .normal a H
 | i::rest,a,H=>numX P main lp ops i Q (runX P main lp ops Q rest) a H
theorem Avd {ops:Array Oper}:∀ {todo:List Nat} {a:Act} {H:Hp},runX P main lp ops Q todo a H->opsX P main lp ops todo Q a H
 | [],_,_,h=>Dqo h
 | _::_,_,_,h=>Dqp (Axx (fun _ _ h=>Avd h) h)
theorem Bvd {id:Nat} {ops:Array Oper} (h:runX P main lp ops Q (List.range ops.size) a H):wpX P main lp (.region id ops false) Q a H:=Cjv (Avd h)
def anyX (P:Program) (main:Md) (lp:Option Nat) (ops:Array Oper) (Q:Exit->Act->Hp->Prop) (S:Hp->Prop):Nat->Array Bool->Act->Hp->Prop
 | 0,listed,a,H=>Region.ready .any ops listed=[]/\Q .normal a H
 | fuel+1,listed,a,H=>
  (Region.ready .any ops listed=[]->Q .normal a H) /\
  ∀i∈Region.ready .any ops listed,numX P main lp ops i Q (fun a' H'=>S H'/\anyX P main lp ops Q S fuel (listed.setIfInBounds i true) a' H') a H
theorem Cza {ops:Array Oper} {S:Hp->Prop}:∀(fuel t:Nat) (listed:Array Bool) (a:Act) (H:Hp),anyX P main lp ops Q S fuel listed a H ->
  runX P main lp ops Q (Region.linearise.go .any ops fuel t listed []) a H:=by
 intro fuel
 induction fuel with
 | zero=>intro t listed a H h;simpa [Region.linearise.go,runX] using h.2
 | succ fuel ih=>
  intro t listed a H h
  obtain ⟨h₀,h₁⟩:=h
  simp only [Region.linearise.go]
  change runX P main lp ops Q (match (Region.ready .any ops listed)[t%(Region.ready .any ops listed).length]? with
   | some i=>Region.linearise.go .any ops fuel (t/(Region.ready .any ops listed).length) (listed.setIfInBounds i true) [i]
   | none=>[].reverse) a H
  cases hi:(Region.ready .any ops listed)[t%(Region.ready .any ops listed).length]? with
  | none=>
   have hnil:Region.ready .any ops listed=[]:=by
    cases hr:Region.ready .any ops listed with
    | nil=>rfl
    | cons x xs=>
     rw [hr] at hi
     have hlt:t%(x::xs).length<(x::xs).length:=Nat.mod_lt _ (by simp)
     simp at hi
     simp at hlt
     omega
   simpa [runX] using h₀ hnil
  | some i=>
   simp only []
   rw [linearise_go_acc,List.reverse_singleton,List.singleton_append]
   exact Axx (fun a' H' h=>ih _ _ a' H' h.2) (h₁ i (List.mem_of_getElem? hi))
theorem Bvb {id:Nat} {ops:Array Oper} (S:Hp->Prop) (hm:P.follows .mixedOrders=true)
  (h:anyX P main lp ops Q S ops.size (Array.replicate ops.size false) a H):wpX P main lp (.region id ops true) Q a H:=
 Bz3 fun t=>Avd (by
  simp only [Region.schedule,hm,Bool.true_or,if_true]
  exact Cza ops.size t _ a H h)
end rules
end Go.X
end
section
namespace Go.X
open Go
section
variable {P:Program} {main:Md} {lp:Option Nat} {Q:Exit->Act->Hp->Prop} {ops:Array Oper} {S:Hp->Prop}
def YN (P:Program) (main:Md) (v:Value) (H:Hp):Next->Hp->Prop
 | .value u,H'=>u=v/\H'=H
 | .enter f args,H'=>Runs P main (Frame.enter P f args .normal) H' fun
  | .returned u,H₁=>u=v/\H₁=H
  | _,_=>False
 | _,_=>False
def Ax9 (P:Program) (main:Md) (lp:Option Nat) (ops:Array Oper) (S:Hp->Prop) (o:Oper) (v:Value) (a:Act):Prop:=
 (Region.wanted o (yielded ops a.tmps)=true/\fine lp o=true/\∀H,S H->wpS P (execOp a.eval o) H (YN P main v H) fun _ _=>False) ∨
 (Region.wanted o (yielded ops a.tmps)=false/\v=undef)
theorem Ax9.num {i:Nat} {o:Oper} {v:Value} {a:Act} (hi:ops[i]?=some o) (hy:Ax9 P main lp ops S o v a) {K:Act->Hp->Prop} {H:Hp} (hS:S H) (h:K (a.put o.dst v) H) :
  numX P main lp ops i Q K a H:=by
 unfold numX
 simp only [hi]
 rcases hy with ⟨hw,hf,hv⟩ | ⟨hw,rfl⟩
 ·simp only [hw,if_true]
  refine ⟨hf,Bqb (hv H hS) (fun x H' hx=>?_) fun _ _ h=>h.elim⟩
  cases x<;>simp only [YN] at hx
  case value u=>obtain ⟨rfl,rfl⟩:=hx;exact h
  case enter f args=>
   simp only [Awe]
   refine hx.mono fun e H₁ he=>?_
   cases e with
   | returned u=>obtain ⟨rfl,rfl⟩:=he;exact h
   | panicked c=>exact he.elim
   | outgrown=>exact he.elim
 ·simp only [hw,Bool.false_eq_true,if_false];exact h
theorem Ax9.of_same {o:Oper} {v:Value} {a a':Act} (hy:Ax9 P main lp ops S o v a) (he:execOp a'.eval o=execOp a.eval o)
  (hw:Region.wanted o (yielded ops a'.tmps)=Region.wanted o (yielded ops a.tmps)):Ax9 P main lp ops S o v a':=by
 unfold Ax9 at *
 rw [he,hw]
 exact hy
theorem Bkw {j:Nat} {oi oj:Oper} {v:Value} (hj:ops[j]?=some oj) (hap:oi.apart ops oj=true)
  (hsi:∀cs b,oi.op≠.select cs b) (hsj:∀cs b,oj.op≠.select cs b)
  (hQ:∀c a H,Q (.panic c) (a.put oi.dst v) H->Q (.panic c) a H) {K:Act->Hp->Prop} {a:Act} {H:Hp}
  (hy:Ax9 P main lp ops S oi v a) (h:numX P main lp ops j Q K (a.put oi.dst v) H) :
  numX P main lp ops j Q (fun a' H'=>Ax9 P main lp ops S oi v a'/\K (a'.put oi.dst v) H') a H:=by
 obtain ⟨h1,h2,h3⟩:=Oper.apart_spec hap
 have keep:∀(a:Act),Ax9 P main lp ops S oi v a->∀u,Ax9 P main lp ops S oi v (a.put oj.dst u):=fun a hy u=>
  hy.of_same (execOp_put oi hsi a oj.dst u h3) (wanted_put oi a oj.dst u h3)
 have keepD:∀d,Ax9 P main lp ops S oi v { a with defers:=d::a.defers }:=fun d=>hy.of_same rfl rfl
 unfold numX at *
 simp only [hj] at *
 rw [wanted_put oj a oi.dst v h1] at h
 split
 ·rename_i hw
  simp only [hw,if_true] at h
  refine ⟨h.1,?_⟩
  have h:=h.2
  unfold opX at *
  rw [execOp_put oj hsj a oi.dst v h1] at h
  refine Bqb h (fun x H' hx=>?_) fun u H' hu=>hQ _ _ _ hu
  cases x<;>simp only [Awe] at hx ⊢
  case value u=>exact ⟨keep a hy u,by rw [<-Act.put_comm a v u h2];exact hx⟩
  case skip=>exact ⟨keep a hy _,by rw [<-Act.put_comm a v undef h2];exact hx⟩
  case defer d=>
   refine ⟨hx.1,keep _ (keepD d) _,?_⟩
   rw [<-Act.put_comm _ v undef h2,<-Act.put_defers]
   exact hx.2
  case enter f args=>
   refine hx.mono fun e H₁ he=>?_
   cases e with
   | returned u=>exact ⟨keep a hy u,by rw [<-Act.put_comm a v u h2];exact he⟩
   | panicked c=>exact hQ _ _ _ he
   | outgrown=>exact he
  case round l f tmps ars body=>
   refine hx.mono fun e H₁ he=>?_
   cases e with
   | returned u=>exact ⟨keep a hy u,by rw [<-Act.put_comm a v u h2];exact he⟩
   | panicked c=>exact hQ _ _ _ he
   | outgrown=>exact he
 ·rename_i hw
  simp only [hw] at h
  exact ⟨keep a hy _,by rw [<-Act.put_comm a v undef h2];exact h⟩
def Closed (ops:Array Oper) (listed:Array Bool):Prop:=
 ∀(k:Nat) (o:Oper),ops[k]?=some o->listed.getD k false=true->∀e∈o.after,Region.binds .any e=true->listed.getD e.on false=true
inductive Dep (ops:Array Oper):Nat->Nat->Prop
 | edge {j:Nat} {o:Oper} {e:Edge} (ho:ops[j]?=some o) (he:e∈o.after) (hb:Region.binds .any e=true):Dep ops j e.on
 | more {j k:Nat} {o:Oper} {e:Edge} (h:Dep ops j k) (ho:ops[k]?=some o) (he:e∈o.after) (hb:Region.binds .any e=true):Dep ops j e.on
theorem Dep.listed {listed:Array Bool} (hc:Closed ops listed) {j i:Nat} (hj:j∈Region.ready .any ops listed) (h:Dep ops j i):listed.getD i false=true:=by
 induction h with
 | edge ho he hb=>
  obtain ⟨_,o',ho',hall⟩:=mem_ready.1 hj
  rw [ho] at ho'
  exact hall _ (Option.some.inj ho'▸he) hb
 | more h ho he hb ih=>exact hc _ _ ho ih _ he hb
theorem Closed.set {listed:Array Bool} (hc:Closed ops listed) {i:Nat} (hi:i∈Region.ready .any ops listed):Closed ops (listed.setIfInBounds i true):=by
 intro k o ho hk e he hb
 by_cases hki:k=i
 ·subst hki
  obtain ⟨_,o',ho',hall⟩:=mem_ready.1 hi
  rw [ho] at ho'
  exact getD_set_true (hall e (Option.some.inj ho'▸he) hb)
 ·rw [getD_set_ne false (Ne.symm hki)] at hk
  exact getD_set_true (hc k o ho hk e he hb)
theorem Closed.start:Closed ops (Array.replicate ops.size false):=by
 intro k o _ hk
 exfalso
 by_cases h:k<ops.size
 ·simp [Array.getD,h] at hk
 ·simp [Array.getD,h] at hk
def marked (ops:Array Oper):List Nat->Array Bool->Array Bool
 | [],m=>m
 | k::rest,m=>
  if m.getD k false then marked ops rest (((ops[k]?).map (·.after.toList)).getD [] |>.foldl (fun m e=>if Region.binds .any e then m.setIfInBounds e.on true else m) m)
  else marked ops rest m
theorem Bjo {t:Nat} {k:Nat} {o:Oper} (ho:ops[k]?=some o) (hk:k=t∨Dep ops t k):∀(l:List Edge) (m:Array Bool),(∀e∈l,e∈o.after)->(∀x,m.getD x false=true->x=t∨Dep ops t x) ->
  ∀x,(l.foldl (fun m e=>if Region.binds .any e then m.setIfInBounds e.on true else m) m).getD x false=true->x=t∨Dep ops t x
 | [],_,_,hm=>hm
 | e::l,m,hl,hm=>by
  simp only [List.foldl_cons]
  refine Bjo ho hk l _ (fun e' he'=>hl e' (List.mem_cons_of_mem _ he')) fun x hx=>?_
  by_cases hb:Region.binds .any e=true
  ·rw [if_pos hb] at hx
   by_cases hxe:e.on=x
   ·subst hxe
    refine .inr ?_
    rcases hk with rfl | hk
    ·exact .edge ho (hl e List.mem_cons_self) hb
    ·exact .more hk ho (hl e List.mem_cons_self) hb
   ·rw [getD_set_ne false hxe] at hx;exact hm x hx
  ·rw [if_neg hb] at hx;exact hm x hx
theorem Ava {t:Nat}:∀(l:List Nat) (m:Array Bool),(∀x,m.getD x false=true->x=t∨Dep ops t x)->∀x,(marked ops l m).getD x false=true->x=t∨Dep ops t x
 | [],_,hm=>hm
 | k::rest,m,hm=>by
  intro x hx
  unfold marked at hx
  split at hx
  ·rename_i hk
   refine Ava rest _ ?_ x hx
   cases ho:ops[k]? with
   | none=>simpa [ho] using hm
   | some o=>
    simp only [Option.map_some,Option.getD_some]
    exact Bjo ho (hm k hk) _ m (fun e he=>by simpa using he) hm
  ·exact Ava rest m hm x hx
def anyS (P:Program) (main:Md) (lp:Option Nat) (ops:Array Oper) (Q:Exit->Act->Hp->Prop) (S:Hp->Prop) (t:Nat):Nat->Array Bool->Act->Hp->Prop
 | 0,listed,a,H=>Region.ready .any ops listed=[]/\Q .normal a H
 | fuel+1,listed,a,H=>
  (Region.ready .any ops listed=[]->Q .normal a H) /\
  ∀i∈Region.ready .any ops listed,numX P main lp ops i Q (fun a' H'=>(i=t∨S H')/\anyS P main lp ops Q S t fuel (listed.setIfInBounds i true) a' H') a H
theorem Bq0 {t:Nat}:∀(fuel:Nat) (listed:Array Bool) (a:Act) (H:Hp),anyS P main lp ops Q S t fuel listed a H->anyX P main lp ops Q (fun _=>True) fuel listed a H
 | 0,_,_,_,h=>h
 | fuel+1,_,_,_,h=>⟨h.1,fun i hi=>Axx (fun a' H' h'=>⟨trivial,Bq0 fuel _ a' H' h'.2⟩) (h.2 i hi)⟩
theorem Cx9 {t i:Nat} {oi:Oper} {v:Value} (hi:ops[i]?=some oi) (hsel:∀(j:Nat) (o:Oper) cs b,ops[j]?=some o->o.op≠.select cs b)
  (hit:i≠t) (hdep:t<ops.size->Dep ops t i)
  (hQ:∀c a H,Q (.panic c) (a.put oi.dst v) H->Q (.panic c) a H) :
  ∀(fuel:Nat) (listed:Array Bool) (a:Act) (H:Hp),Closed ops listed ->
   (∀j oj,ops[j]?=some oj->j≠i->listed.getD j true=false->(∀e∈oj.after,Region.binds .any e=true->e.on≠i)->oi.apart ops oj=true) ->
   i∈Region.ready .any ops listed->Ax9 P main lp ops S oi v a->S H ->
   anyS P main lp ops Q S t fuel (listed.setIfInBounds i true) (a.put oi.dst v) H->anyS P main lp ops Q S t (fuel+1) listed a H:=by
 intro fuel
 induction fuel with
 | zero=>
  intro listed a H _ _ hr hy hS h
  refine ⟨fun h0=>(by rw [h0] at hr;cases hr),fun j hj=>?_⟩
  by_cases hji:j=i
  ·subst hji;exact hy.num hi hS ⟨.inr hS,h⟩
  ·have:=ready_mono hj hji
   rw [h.1] at this
   cases this
 | succ fuel ih=>
  intro listed a H hcl hfree hr hy hS h
  refine ⟨fun h0=>(by rw [h0] at hr;cases hr),fun j hj=>?_⟩
  by_cases hji:j=i
  ·subst hji;exact hy.num hi hS ⟨.inr hS,h⟩
  ·have h1:=h.2 j (ready_mono hj hji)
   obtain ⟨hjun,oj,hoj,hall⟩:=mem_ready.1 hj
   have hiun:listed.getD i false=false:=by
    have h0:=(mem_ready.1 hr).1
    rcases Nat.lt_or_ge i listed.size with h' | h'
    ·simpa [h'] using h0
    ·simp [Array.getElem?_eq_none h']
   have hjt:j≠t:=fun e=>by
    have hlt:t<ops.size:=e▸(Array.getElem?_eq_some_iff.1 hoj).1
    have:=(hdep hlt).listed hcl (e▸hj)
    rw [hiun] at this;cases this
   have hnot:∀e∈oj.after,Region.binds .any e=true->e.on≠i:=fun e he hb heq=>by
    have h1:=hall e he hb
    rw [heq,hiun] at h1
    cases h1
   have h2:=Bkw hoj (hfree j oj hoj hji hjun hnot) (fun cs b=>hsel i oi cs b hi) (fun cs b=>hsel j oj cs b hoj) hQ hy h1
   have hfree':∀k ok,ops[k]?=some ok->k≠i->(listed.setIfInBounds j true).getD k true=false ->
     (∀e∈ok.after,Region.binds .any e=true->e.on≠i)->oi.apart ops ok=true:=fun k ok hk hki hun hno=>by
    refine hfree k ok hk hki ?_ hno
    by_cases hjk:j=k
    ·subst hjk;exact hjun
    ·rw [getD_set_ne true hjk] at hun;exact hun
   refine Axx (fun a' H' h3=>?_) h2
   obtain ⟨hy',hd,h4⟩:=h3
   have hS':S H':=hd.resolve_left hjt
   exact ⟨.inr hS',ih (listed.setIfInBounds j true) a' H' (hcl.set hj) hfree' (ready_mono hr (Ne.symm hji)) hy' hS' (by rw [Array.setIfInBounds_comm _ _ hji];exact h4)⟩
def Ay8 (P:Program) (main:Md) (lp:Option Nat) (ops:Array Oper) (Q:Exit->Act->Hp->Prop) (S:Hp->Prop) (t:Nat):List (Bool×Nat)->Act->Hp->Prop
 | [],a,H=>Q .normal a H
 | (true,i)::rest,a,H=>S H/\∃o,ops[i]?=some o/\∃v,Ax9 P main lp ops S o v a/\Ay8 P main lp ops Q S t rest (a.put o.dst v) H
 | (false,i)::rest,a,H=>numX P main lp ops i Q (fun a' H'=>(i=t∨S H')/\Ay8 P main lp ops Q S t rest a' H') a H
def Av9 (ops:Array Oper) (t:Nat) (deps:Array Bool):List (Bool×Nat)->Array Bool->Bool
 | [],listed=>(Region.ready .any ops listed).isEmpty
 | (true,i)::rest,listed=>i != t&&(!(decide (t<ops.size))||deps.getD i false)&&Region.free .any ops listed i&&(Region.ready .any ops listed).contains i&&Av9 ops t deps rest (listed.setIfInBounds i true)
 | (false,i)::rest,listed=>(Region.ready .any ops listed==[i])&&Av9 ops t deps rest (listed.setIfInBounds i true)
theorem Ayi {t:Nat} {deps:Array Bool} (hdeps:∀x,deps.getD x false=true->x=t∨Dep ops t x) (hsel:Region.noSelect ops=true)
  (hQ:∀c a H d v,Q (.panic c) (a.put d v) H->Q (.panic c) a H) :
  ∀(plan:List (Bool×Nat)) (fuel:Nat) (listed:Array Bool) (a:Act) (H:Hp),plan.length<=fuel->Closed ops listed->Av9 ops t deps plan listed=true ->
   Ay8 P main lp ops Q S t plan a H->anyS P main lp ops Q S t fuel listed a H
 | [],fuel,listed,a,H,_,_,hok,h=>by
  have hr:Region.ready .any ops listed=[]:=by simpa [Av9] using hok
  cases fuel with
  | zero=>exact ⟨hr,h⟩
  | succ n=>exact ⟨fun _=>h,by rw [hr];simp⟩
 | (true,i)::rest,0,_,_,_,hl,_,_,_=>by simp at hl
 | (false,i)::rest,0,_,_,_,hl,_,_,_=>by simp at hl
 | (true,i)::rest,fuel+1,listed,a,H,hl,hcl,hok,h=>by
  simp only [Av9,Bool.and_eq_true,Bool.or_eq_true,bne_iff_ne,ne_eq,Bool.not_eq_true',decide_eq_false_iff_not] at hok
  obtain ⟨⟨⟨⟨hit,hd⟩,hf⟩,hr⟩,hok⟩:=hok
  obtain ⟨hS,o,ho,v,hy,h⟩:=h
  have hr':i∈Region.ready .any ops listed:=by simpa using hr
  exact Cx9 ho (Region.noSelect_spec hsel) hit (fun hlt=>((hdeps i (hd.resolve_left (fun hn=>hn hlt))).resolve_left hit)) (fun c a H=>hQ c a H _ _) fuel listed a H hcl (Region.free_spec ho hf) hr' hy hS
   (Ayi hdeps hsel hQ rest fuel _ _ _ (by simp at hl;omega) (hcl.set hr') hok h)
 | (false,i)::rest,fuel+1,listed,a,H,hl,hcl,hok,h=>by
  simp only [Av9,Bool.and_eq_true,beq_iff_eq] at hok
  obtain ⟨hr,hok⟩:=hok
  refine ⟨fun h0=>(by rw [hr] at h0;cases h0),fun j hj=>?_⟩
  have hji:j=i:=by rw [hr] at hj;simpa using hj
  subst hji
  exact Axx (fun a' H' h'=>⟨h'.1,Ayi hdeps hsel hQ rest fuel _ _ _ (by simp at hl;omega) (hcl.set hj) hok h'.2⟩) h
theorem Cx5 {id:Nat} {a:Act} {H:Hp} (S:Hp->Prop) (t:Nat) (plan:List (Bool×Nat)) (hm:P.follows .mixedOrders=true) (hsel:Region.noSelect ops=true) (hlen:plan.length<=ops.size)
  (hok:Av9 ops t (marked ops (List.range ops.size).reverse ((Array.replicate ops.size false).setIfInBounds t true)) plan (Array.replicate ops.size false)=true)
  (hQ:∀c a H d v,Q (.panic c) (a.put d v) H->Q (.panic c) a H) (h:Ay8 P main lp ops Q S t plan a H):wpX P main lp (.region id ops true) Q a H:=by
 refine Bvb (fun _=>True) hm (Bq0 _ _ _ _ (Ayi (fun x hx=>Ava _ _ (fun y hy=>?_) x hx) hsel hQ plan _ _ _ _ hlen .start hok h))
 by_cases hyt:t=y
 ·exact .inl hyt.symm
 ·rw [getD_set_ne false hyt] at hy
  by_cases hlt:y<ops.size<;>simp [Array.getD,hlt] at hy
end
end Go.X
end
section
namespace Go.X
open Go
open Go.Conc (G base)
def Leaving (P:Program) (fr:Frame) (H:Hp) (R:Ending->Hp->Prop):Prop:=
 (fr.mode=.returning/\fr.defers=[]/\fr.kind=.normal/\∃fn,P.funcs[fr.fn]?=some fn/\wpS P (results fn fr.tmps) H (fun v H'=>R (.returned v) H') fun _ _=>False) ∨
 (∃ch,fr.mode=.panicking ch/\fr.defers=[]/\fr.kind=.normal/\(∃fn,P.funcs[fr.fn]?=some fn)/\R (.panicked ch) H)
def FnX (P:Program) (main:Md) (f:FuncId) (args:Array Value) (H:Hp) (R:Ending->Hp->Prop):Prop:=
 ∀(cs:List Frame) (Stop:Goroutine->Hp->Prop),(∀fr H',fr.fn=f->Leaving P fr H' R->WPG P main Stop (G fr cs) H')->WPG P main Stop (G (Frame.enter P f args .normal) cs) H
section
variable {P:Program} {main:Md} {Stop:Goroutine->Hp->Prop}
theorem Leaving.mono {fr:Frame} {H:Hp} {R R':Ending->Hp->Prop} (h:Leaving P fr H R) (hr:∀e H,R e H->R' e H):Leaving P fr H R':=by
 rcases h with ⟨hm,hd,hk,fn,hf,h⟩ | ⟨ch,hm,hd,hk,hf,h⟩
 ·exact .inl ⟨hm,hd,hk,fn,hf,Bqb h (fun v H' r=>hr _ _ r) fun _ _ h=>h⟩
 ·exact .inr ⟨ch,hm,hd,hk,hf,hr _ _ h⟩
theorem FnX.mono {f:FuncId} {args:Array Value} {H:Hp} {R R':Ending->Hp->Prop} (h:FnX P main f args H R) (hr:∀e H,R e H->R' e H):FnX P main f args H R':=
 fun cs Stop hc=>h cs Stop fun fr H' hf hl=>hc fr H' hf (hl.mono hr)
theorem WPG.tree {α:Type} {g:Goroutine} {H:Hp} {s:Sem α} {K:α->Hp->Prop} {E:Value->Hp->Prop} (hs:g.status=.running) (h:wpS P s H K E) (T:Goroutine->Hp->Prop)
  (hok:∀(w w':World) (H':Hp) (es:Array Event) (a:α),s.runT P w #[]=(.ok a w',es)->Moves H w es H' w'->K a H'->∃g' es',stepG P main g w=.go g' w' es'/\(∀e∈es',e∈es)/\T g' H')
  (hpan:∀(w w':World) (H':Hp) (es:Array Event) (v:Value),s.runT P w #[]=(.halt (.panic v) w',es)->Moves H w es H' w'->E v H'->∃g' es',stepG P main g w=.go g' w' es'/\(∀e∈es',e∈es)/\T g' H')
  (ht:∀g' H',T g' H'->WPG P main Stop g' H'):WPG P main Stop g H:=by
 refine .step T hs (fun w hw=>?_) ht
 obtain ⟨es,w',H',hm,r,hr,hd⟩:=Akr s w hw h
 have hr0:s.runT P w #[]=(r,es):=by rw [hr #[]];simp
 rcases hd with ⟨a,rfl,hk⟩ | ⟨v,rfl,he⟩
 ·obtain ⟨g',es',h1,h2,h3⟩:=hok w w' H' es a hr0 hm hk
  exact ⟨g',w',es',H',h1,{ hm with evs:=fun e x=>hm.evs e (h2 e x),low:=fun e x=>hm.low e (h2 e x) },h3⟩
 ·obtain ⟨g',es',h1,h2,h3⟩:=hpan w w' H' es v hr0 hm he
  exact ⟨g',w',es',H',h1,{ hm with evs:=fun e x=>hm.evs e (h2 e x),low:=fun e x=>hm.low e (h2 e x) },h3⟩
theorem Leaving.back {fr:Frame} {c:Frame} {cs:List Frame} {H:Hp} {R:Ending->Hp->Prop} (h:Leaving P fr H R)
  (hv:∀v H',R (.returned v) H'->WPG P main Stop (G (c.finish v) cs) H') (hp:∀ch H',R (.panicked ch) H'->WPG P main Stop (G (c.raise ch) cs) H') :
  WPG P main Stop (G fr (c::cs)) H:=by
 rcases h with ⟨hm,hd,hk,fn,hf,h⟩ | ⟨ch,hm,hd,hk,⟨fn,hf⟩,h⟩
 ·refine WPG.tree rfl h (fun g' H'=>∃v,g'=G (c.finish v) cs/\R (.returned v) H') (fun w w' H' es v hr _ hk'=>?_) (fun _ _ _ _ _ _ _ he=>he.elim) ?_
  ·refine ⟨_,seen P fr.fn es,?_,fun e=>mem_seen,v,rfl,hk'⟩
   simp [G,stepG,unwind,doReturn,hm,hd,hk,hf,hr,GStep.after,-Sem.runT_eq]
  ·rintro g' H' ⟨v,rfl,r⟩;exact hv v H' r
 ·refine .ctl (g':=G (c.raise ch) cs) rfl (fun w=>?_) (hp ch H h)
  simp [G,stepG,unwind,Frame.catches,hm,hd,hf]
theorem FnX.runs {f:FuncId} {args:Array Value} {H:Hp} {R:Ending->Hp->Prop} (h:FnX P main f args H R):Runs P main (Frame.enter P f args .normal) H R:=
 fun c cs Stop hv hp=>h (c::cs) Stop fun _ _ _ hl=>hl.back hv hp
def DefX (P:Program) (main:Md) (m:FrameMode) (d:Deferred) (H:Hp) (R:FrameMode->Hp->Prop):Prop:=
 ∀(c:Frame) (cs:List Frame) (Stop:Goroutine->Hp->Prop),c.mode=m->(∀m' H',R m' H'->WPG P main Stop (G { c with mode:=m' } cs) H')->WPG P main Stop (G { c with defers:=d::c.defers } cs) H
def Ayq (P:Program) (main:Md) (fn:Func) (tmps:Array Value) (R:Ending->Hp->Prop):List Deferred->FrameMode->Hp->Prop
 | [],.returning,H=>wpS P (results fn tmps) H (fun v H'=>R (.returned v) H') fun _ _=>False
 | [],.panicking ch,H=>R (.panicked ch) H
 | [],.run,_=>False
 | d::ds,m,H=>DefX P main m d H fun m' H'=>Ayq P main fn tmps R ds m' H'
def Bvs (P:Program) (main:Md) (fn:Func) (R:Ending->Hp->Prop):Exit->Act->Hp->Prop
 | .normal,a,H | .ret,a,H=>Ayq P main fn a.tmps R a.defers .returning H
 | .panic ch,a,H=>Ayq P main fn a.tmps R a.defers (.panicking ch) H
 | _,_,_=>False
theorem Ayq.go {f:FuncId} {fn:Func} {tmps:Array Value} {R:Ending->Hp->Prop} (hf:P.funcs[f]?=some fn) {cs:List Frame}
  (hc:∀fr H',fr.fn=f->Leaving P fr H' R->WPG P main Stop (G fr cs) H'):∀(ds:List Deferred) (m:FrameMode) (H:Hp) (fr:Frame),fr.fn=f->fr.tmps=tmps->fr.kind=.normal->fr.mode=m->fr.defers=ds ->
  Ayq P main fn tmps R ds m H->WPG P main Stop (G fr cs) H
 | [],.returning,H,fr,h1,h2,h3,h4,h5,h=>hc fr H h1 (.inl ⟨h4,h5,h3,fn,by rw [h1];exact hf,by rw [h2];exact h⟩)
 | [],.panicking ch,H,fr,h1,_,h3,h4,h5,h=>hc fr H h1 (.inr ⟨ch,h4,h5,h3,⟨fn,by rw [h1];exact hf⟩,h⟩)
 | [],.run,_,_,_,_,_,_,_,h=>h.elim
 | d::ds,m,H,fr,h1,h2,h3,h4,h5,h=>by
  have he:fr={ ({ fr with defers:=ds }:Frame) with defers:=d::({ fr with defers:=ds }:Frame).defers }:=by
   cases fr;simp at h5;simp [h5]
  rw [he]
  refine h { fr with defers:=ds } cs Stop h4 fun m' H' r=>?_
  exact Ayq.go hf hc ds m' H' { { fr with defers:=ds } with mode:=m' } h1 h2 h3 rfl rfl r
theorem Djm {f:FuncId} {fn:Func} {c:Code} {args:Array Value} {H:Hp} {R:Ending->Hp->Prop} (hf:P.funcs[f]?=some fn) (hb:fn.body=some c)
  (h:wpX P main none c (Bvs P main fn R) { tmps:=args++Array.replicate (fn.ntmps-args.size) undef,defers:=[] } H):FnX P main f args H R:=by
 intro cs Stop hc
 have he:Frame.enter P f args .normal=fat (base f) { tmps:=args++Array.replicate (fn.ntmps-args.size) undef,defers:=[] } [.code c]:=by
  simp [Frame.enter,fat,hf,hb,base];rfl
 rw [he]
 have hret:∀(a':Act) (H':Hp) (k':List Item),Ayq P main fn a'.tmps R a'.defers .returning H'->WPG P main Stop (G { fat (base f) a' k' with mode:=.returning } cs) H':=fun a' H' k' q=>
  Ayq.go hf hc a'.defers .returning H' _ rfl rfl rfl rfl rfl q
 refine h (base f) [] cs Stop (by simp [base]) rfl fun e a' H' q=>?_
 cases e with
 | normal=>exact .ctl (g':=G { fat (base f) a' [] with mode:=.returning } cs) rfl (fun w=>by simp [G,stepG,stepG.exec,fat,base];rfl) (hret a' H' _ q)
 | ret=>exact fun k'=>.ctl (g':=G { fat (base f) a' (.code .ret::k') with mode:=.returning } cs) rfl (fun w=>by simp [G,stepG,stepG.exec,fat,base];rfl) (hret a' H' _ q)
 | panic ch=>exact fun k'=>Ayq.go hf hc a'.defers (.panicking ch) H' _ rfl rfl rfl rfl rfl q
 | exit id=>exact q.elim
 | goto l=>exact q.elim
 | outgrown=>exact q.elim
end
end Go.X
end
section
namespace Go.X
open Go
open Go.Conc
open Go.ConcN (upd upd_same upd_ne)
theorem EvOK.touch {K:Hp} {n:Nat} {e:Event} (h:EvOK K n e) {a:Touch} (ha:(MemAct.ofEvent e).touch?=some a) :
  a.loc=e.loc/\∃b,Awz a.loc=some b/\((∃o,K b=some (true,o))∨n<=b∨(a.write=false/\∃o,K b=some (false,o))):=by
 obtain ⟨loc,wr,sy⟩:=e
 cases loc with
 | cell c=>
  obtain ⟨rfl,h⟩:=h
  have:a=⟨.cell c,wr,.plain⟩:=by cases wr<;>simpa [MemAct.ofEvent,MemAct.touch?] using ha.symm
  subst this
  exact ⟨rfl,c.block,rfl,h⟩
 | obj r=>
  obtain ⟨_,h⟩:=h
  cases wr<;>cases sy<;>simp [MemAct.ofEvent,MemAct.touch?] at ha<;>subst ha<;>exact ⟨rfl,r,rfl,h⟩
 | output=>exact h.elim
 | goroutines=>exact h.elim
 | mark m=>cases m<;>first | exact h.elim | (simp [MemAct.ofEvent,MemAct.touch?] at ha)
section
variable {t:Trace} {w w':World} {hp:Nat->Option Hp} {K K':Hp} {x:Nat} {es:Array Event} {fn:FuncId} {pos:String}
theorem touchAt_new {t u:Trace} {i:Nat} {a:Touch} (h:touchAt (t++u) i=some a):(i<t.size/\touchAt t i=some a)∨(t.size<=i/\∃op,op∈u/\(t++u)[i]?=some op/\op.act.touch?=some a):=by
 obtain ⟨op,ho,ha⟩:=touch_of h
 rcases getElem?_append_cases ho with ⟨hi,ho'⟩ | ⟨hi,hu⟩
 ·exact .inl ⟨hi,by rw [touchAt_of ho'];exact ha⟩
 ·exact .inr ⟨hi,op,hu,ho,ha⟩
theorem By0 {said:Bool} {u:Trace} (h:¬Race said t) (hu:∀op∈u,op.act.touch?=none):¬Race said (t++u):=by
 rintro ⟨i,j,hij,⟨a,b,ha,hb,hc⟩,n1,n2⟩
 rcases touchAt_new (t:=t) (u:=u) (i:=j) hb with ⟨hj,hb'⟩ | ⟨_,op,hop,_,hoa⟩
 ·rcases touchAt_new (t:=t) (u:=u) (i:=i) ha with ⟨hi,ha'⟩ | ⟨hi,_⟩
  ·exact h ⟨i,j,hij,⟨a,b,ha',hb',hc⟩,fun e=>n1 (hb_app u e),fun e=>n2 (hb_app u e)⟩
  ·omega
 ·rw [hu op hop] at hoa;cases hoa
end
end Go.X
end
section
namespace Go.X
open Go
open Go.Conc
open Go.ConcN (upd upd_same upd_ne)
inductive Rk where
 | zero
 | node (f:Goroutine×Hp->Rk)
open Classical in
inductive Gh where
 | idle
 | busy (c cap:Nat) (L:List Value) (D:Nat->Prop)
def Hp.del (H:Hp) (c:Nat):Hp:=fun b=>if b=c then none else H b
theorem Hp.del_le {H G:Hp} (h:H.le G) (c:Nat):(H.del c).le (G.del c):=fun b x hb=>by
 unfold Hp.del at *
 by_cases hc:b=c
 ·rw [if_pos hc] at hb;cases hb
 ·rw [if_neg hc] at hb ⊢;exact h b x hb
theorem Hp.del_same (H:Hp) (c:Nat):H.del c c=none:=by simp [Hp.del]
end Go.X
end
section
namespace Go.X
open Go
open Go.Conc
section
variable {P:Program} {gs:Array Goroutine} {w w':World} {sl:Option (Nat×Nat)}
section
variable {c e cap s r s' r':Nat} {buf:Array Value} {g₁:Goroutine} {z z' v:Value} {i:Nat}
def handed (P:Program) (v:Value) (g:Goroutine):Goroutine:=match g.offers with
 | some (cs,shape)=>g.finishComm P cs shape (0:Nat) v (((cs[0]?).map (·.send.isNone)).getD false)
 | none=>g
end
end
end Go.X
end
section
namespace Go.X
open Go
open Go.Conc
open Go.ConcN (upd upd_same upd_ne)
abbrev Ro:=Nat->Option (Hp×Value)
def hps (H:Hp) (ro:Ro) (x:Nat):Option Hp:=if x=0 then some H else (ro x).map (·.1)
def vals (ro:Ro):Nat->List Value
 | 0=>[]
 | n+1=>vals ro n++((ro n).map (·.2)).toList
structure Base (W w:World):Prop where
 os:w.os=W.os
 output:w.output=W.output
 size:W.heap.size<=w.heap.size
 block:∀b,b<W.heap.size->w.heap[b]?=W.heap[b]?
section
variable {P:Program} {W:World} {γ:Gh} {H H':Hp} {gs:Array Goroutine} {w w':World} {t:Trace} {μ:List Rk} {ro:Ro} {bf:List Nat} {es:Array Event} {fn:FuncId} {pos:String}
theorem Base.moves {K K':Hp} (h:Base W w) (ho:∀b o,K b=some (true,o)->W.heap.size<=b) (hm:Moves K w es K' w'):Base W w':=
 ⟨hm.os.trans h.os,hm.output.trans h.output,Nat.le_trans h.size hm.size,fun b hb=>(hm.frame b (Nat.lt_of_lt_of_le hb h.size) fun o hbo=>absurd (ho b o hbo) (by omega)).trans (h.block b hb)⟩
theorem lt_of_heap {c:Nat} {o:Obj} (h:w.heap[c]?=some o):c<w.heap.size:=(Array.getElem?_eq_some_iff.1 h).1
end
end Go.X
end
section
namespace Go.X
open Go
open Go.Conc
open Go.ConcN (upd upd_same upd_ne)
section
variable {P:Program} {W:World} {γ:Gh} {H H':Hp} {gs:Array Goroutine} {w w':World} {t:Trace} {μ:List Rk} {ro:Ro} {bf:List Nat} {f₁ f₂ f₃ f₄:FuncId} {p₁ p₂ p₃ p₄:String}
variable {c cap r:Nat} {L:List Value} {D:Nat->Prop} {buf:Array Value} {v:Value} {K:Hp} {i:Nat} {ρ ρ':Rk} {g' a':Goroutine}
theorem Base.chan {o:Obj} (h:Base W w) (hc:W.heap.size<=c):Base W { w with heap:=w.heap.setIfInBounds c o }:=
 ⟨h.os,h.output,by simpa using h.size,fun b hb=>by rw [show ({ w with heap:=w.heap.setIfInBounds c o }:World).heap=w.heap.setIfInBounds c o from rfl,Array.getElem?_setIfInBounds_ne (by omega)];exact h.block b hb⟩
end
end Go.X
end
