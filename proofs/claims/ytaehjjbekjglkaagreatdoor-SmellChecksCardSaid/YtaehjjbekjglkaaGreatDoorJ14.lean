/- Texts SmG SmB SmA SmM SmC SmK. -/
import Derived.Test.YtaehjjbekjglkaaGreatDoorJ13
set_option linter.defProp false
set_option linter.unusedSimpArgs false
set_option linter.unusedVariables false
set_option maxRecDepth 100000
set_option maxHeartbeats 2000000
section
namespace Go.Proofs.YtaehjjbekjglkaaGreatDoor
open Go Go.X
def Edg:List Dr->List Int->Int->Int->Int->Prop
 | d::ds,t::ts,a,b,n=>(n=t/\((a=d.a/\b=d.b)∨(a=d.b/\b=d.a)))∨Edg ds ts a b n
 | _,_,_,_,_=>False
inductive Walk (E:Int->Int->Int->Prop) (p:Int):Int->Int->Prop
 | here:Walk E p p 0
 | step {a b n t:Int}:Walk E p a n->E a b t->Walk E p b (n+t)
theorem Edg.symm:∀ {ds:List Dr} {ts:List Int} {a b n:Int},Edg ds ts a b n->Edg ds ts b a n
 | d::ds,t::ts,a,b,n,h=>by
  rcases h with ⟨h,h1 | h1⟩ | h
  ·exact .inl ⟨h,.inr ⟨h1.2,h1.1⟩⟩
  ·exact .inl ⟨h,.inl ⟨h1.2,h1.1⟩⟩
  ·exact .inr h.symm
theorem Edg.ix:∀ {ds:List Dr} {ts:List Int} {a b n:Int},Edg ds ts a b n->∃(i:Nat) (d:Dr),ds[i]?=some d/\ts[i]?=some n/\((a=d.a/\b=d.b)∨(a=d.b/\b=d.a))
 | d::ds,t::ts,a,b,n,h=>by
  rcases h with ⟨rfl,h⟩ | h
  ·exact ⟨0,d,rfl,rfl,h⟩
  ·obtain ⟨i,d',h1,h2,h3⟩:=h.ix
   exact ⟨i+1,d',h1,h2,h3⟩
theorem Edg.of:∀ {ds:List Dr} {ts:List Int} {i:Nat} {d:Dr} {n:Int},ds[i]?=some d->ts[i]?=some n->Edg ds ts d.a d.b n
 | d'::ds,t::ts,0,d,n,h1,h2=>by
  simp at h1 h2
  subst h1 h2
  exact .inl ⟨rfl,.inl ⟨rfl,rfl⟩⟩
 | d'::ds,t::ts,i+1,d,n,h1,h2=>.inr (Edg.of (i:=i) h1 h2)
 | [],_,_,_,_,h1,_=>by simp at h1
 | _::_,[],_,_,_,_,h2=>by simp at h2
theorem Walk.map {E E':Int->Int->Int->Prop} (f:Int->Int) (hE:∀a b t,E a b t->E' (f a) (f b) t) {p q n:Int} (h:Walk E p q n):Walk E' (f p) (f q) n:=by
 induction h with
 | here=>exact .here
 | step _ he ih=>exact ih.step (hE _ _ _ he)
theorem Walk.ge {E:Int->Int->Int->Prop} {p q n:Int} (h:Walk E p q n) {c:Int->Int} (hr:∀a b t,E a b t->c b<=c a+t):c q<=c p+n:=by
 induction h with
 | here=>omega
 | step _ he ih=>have:=hr _ _ _ he;omega
def TsOk (ds:List Dr) (ts:List Int):Prop:=∀a b n,Edg ds ts a b n->1<=n/\n<=4
def Avx (pl:Int) (ds:List Dr):Prop:=∀d∈ds,DrOk pl d
theorem Edg.place {pl:Int} {ds:List Dr} (hd:Avx pl ds) {ts:List Int} {a b n:Int} (h:Edg ds ts a b n):(0<=a/\a<pl)/\(0<=b/\b<pl):=by
 obtain ⟨i,d,h1,_,h3⟩:=h.ix
 have hk:=hd d (List.mem_of_getElem? h1)
 have:=hk.a0;have:=hk.a1;have:=hk.b0;have:=hk.b1
 rcases h3 with ⟨rfl,rfl⟩ | ⟨rfl,rfl⟩<;>omega
structure Aj4 (E:Int->Int->Int->Prop) (pl p:Int) (c:List Int):Prop where
 len:c.length=6
 at0:gI c p=0
 att:∀q,0<=q->q<6->gI c q=99∨(gI c q<99/\Walk E p q (gI c q))
 pos:∀q,0<=q->q<6->0<=gI c q
theorem Aj4.start (E:Int->Int->Int->Prop) {pl p:Int} (h0:0<=p) (h1:p<6):Aj4 E pl p (Byt p):=by
 have hl:∀q,0<=q->q<6->gI (List.replicate 6 (99:Int)) q=99:=fun q h0 h1=>by
  unfold gI
  rw [List.getD,List.getElem?_replicate,if_pos (by omega)]
  rfl
 have hg:∀q,0<=q->q<6->gI (Byt p) q=if p=q then 0 else 99:=fun q hq0 hq1=>by
  unfold Byt
  rw [Av5 h0 (by simp;omega) hq0,hl q hq0 hq1]
 refine ⟨by simp [Byt],by rw [hg p h0 h1,if_pos rfl],fun q hq0 hq1=>?_,fun q hq0 hq1=>?_⟩
 ·rw [hg q hq0 hq1]
  split
  ·rename_i h;subst h;exact .inr ⟨by omega,.here⟩
  ·exact .inl rfl
 ·rw [hg q hq0 hq1];split<;>omega
theorem Bx9 {pl:Int} {d:Dr} (hd:DrOk pl d) (hp:pl<=6) {c:List Int} (hl:c.length=6) (t:Int) {q:Int} (hq0:0<=q) (hq1:q<6) :
  gI (Akk c d t) q=if d.b=q then min (gI c d.b) (min (gI c d.a) (gI c d.b+t)+t) else if d.a=q then min (gI c d.a) (gI c d.b+t) else gI c q:=by
 have:=hd.a0;have:=hd.a1;have:=hd.b0;have:=hd.b1;have hne:=hd.ne
 unfold Akk
 have ga:∀x,gI (c.set d.a.toNat x) d.a=x:=fun x=>by rw [Av5 hd.a0 (by omega) hd.a0,if_pos rfl]
 have gb:∀x,gI (c.set d.a.toNat x) d.b=gI c d.b:=fun x=>by rw [Av5 hd.a0 (by omega) hd.b0,if_neg hne]
 rw [Av5 hd.b0 (by rw [Cvv];omega) hq0,ga,gb]
 split
 ·rfl
 ·rw [Av5 hd.a0 (by omega) hq0]
theorem Aj4.one {E:Int->Int->Int->Prop} {pl p:Int} {c:List Int} (h:Aj4 E pl p c) {d:Dr} {t:Int} (hd:DrOk pl d) (hp:pl<=6) (hE:E d.a d.b t) (hE':E d.b d.a t) (ht:1<=t) (h0:0<=p) (h1:p<6):Aj4 E pl p (Akk c d t)/\(∀q,0<=q->q<6->gI (Akk c d t) q<=gI c q):=by
 have:=hd.a0;have:=hd.a1;have:=hd.b0;have:=hd.b1;have hne:=hd.ne
 have hg:=fun q hq0 hq1=>Bx9 hd hp h.len t (q:=q) hq0 hq1
 have pa:=h.pos d.a hd.a0 (by omega)
 have pb:=h.pos d.b hd.b0 (by omega)
 have p0:=h.at0
 have ha:gI c d.a<=99:=by rcases h.att d.a hd.a0 (by omega) with h | h<;>omega
 have hb:gI c d.b<=99:=by rcases h.att d.b hd.b0 (by omega) with h | h<;>omega
 have na:min (gI c d.a) (gI c d.b+t)=99∨(min (gI c d.a) (gI c d.b+t)<99/\Walk E p d.a (min (gI c d.a) (gI c d.b+t))):=by
  by_cases hlt:gI c d.b+t<gI c d.a
  ·rw [show min (gI c d.a) (gI c d.b+t)=gI c d.b+t by omega]
   rcases h.att d.b hd.b0 (by omega) with h | ⟨h,hw⟩
   ·omega
   ·exact .inr ⟨by omega,hw.step hE'⟩
  ·rw [show min (gI c d.a) (gI c d.b+t)=gI c d.a by omega]
   exact h.att d.a hd.a0 (by omega)
 have nb:min (gI c d.b) (min (gI c d.a) (gI c d.b+t)+t)=99∨(min (gI c d.b) (min (gI c d.a) (gI c d.b+t)+t)<99/\Walk E p d.b (min (gI c d.b) (min (gI c d.a) (gI c d.b+t)+t))):=by
  generalize min (gI c d.a) (gI c d.b+t)=x at *
  by_cases hlt:x+t<gI c d.b
  ·rw [show min (gI c d.b) (x+t)=x+t by omega]
   rcases na with h | ⟨h,hw⟩
   ·omega
   ·exact .inr ⟨by omega,hw.step hE⟩
  ·rw [show min (gI c d.b) (x+t)=gI c d.b by omega]
   exact h.att d.b hd.b0 (by omega)
 refine ⟨⟨by rw [Bj0];exact h.len,?_,fun q hq0 hq1=>?_,fun q hq0 hq1=>?_⟩,fun q hq0 hq1=>?_⟩
 ·rw [hg p h0 h1]
  split
  ·rename_i e;subst e;omega
  ·split
   ·rename_i e;subst e;omega
   ·exact p0
 ·rw [hg q hq0 hq1]
  split
  ·rename_i e;subst e;exact nb
  ·split
   ·rename_i e;subst e;exact na
   ·exact h.att q hq0 hq1
 ·rw [hg q hq0 hq1]
  split
  ·omega
  ·split
   ·omega
   ·exact h.pos q hq0 hq1
 ·rw [hg q hq0 hq1]
  split
  ·rename_i e;subst e;omega
  ·split
   ·rename_i e;subst e;omega
   ·omega
theorem Aj4.all {E:Int->Int->Int->Prop} {pl p:Int} (hp:pl<=6) (h0:0<=p) (h1:p<6) (hs:∀a b t,E a b t->E b a t) (ht:∀a b t,E a b t->1<=t):∀(ds:List Dr) (ts:List Int),Avx pl ds->(∀a b n,Edg ds ts a b n->E a b n)->∀ {c:List Int},Aj4 E pl p c ->
  Aj4 E pl p (Ajg ds ts c)/\(∀q,0<=q->q<6->gI (Ajg ds ts c) q<=gI c q)
 | [],_,_,_,c,h=>⟨by unfold Ajg;exact h,fun q _ _=>by unfold Ajg;exact Int.le_refl _⟩
 | _::_,[],_,_,c,h=>⟨h,fun q _ _=>Int.le_refl _⟩
 | d::ds,t::ts,hd,hE,c,h=>by
  have he:E d.a d.b t:=hE _ _ _ (.inl ⟨rfl,.inl ⟨rfl,rfl⟩⟩)
  obtain ⟨g1,g2⟩:=h.one (hd d List.mem_cons_self) hp he (hs _ _ _ he) (ht _ _ _ he) h0 h1
  obtain ⟨g3,g4⟩:=Aj4.all hp h0 h1 hs ht ds ts (fun x hx=>hd x (List.mem_cons_of_mem _ hx)) (fun a b n hn=>hE a b n (.inr hn)) g1
  exact ⟨g3,fun q a b=>Int.le_trans (g4 q a b) (g2 q a b)⟩
theorem Bj1 {pl p:Int} {E:Int->Int->Int->Prop} (hp:pl<=6) (h0:0<=p) (h1:p<6) (hs:∀a b t,E a b t->E b a t) (ht:∀a b t,E a b t->1<=t):∀(ds:List Dr) (ts:List Int),Avx pl ds->(∀a b n,Edg ds ts a b n->E a b n)->∀ {c:List Int},Aj4 E pl p c ->
  (∀q,0<=q->q<6->gI (Ajg ds ts c) q=gI c q)->∀a b n,Edg ds ts a b n->gI c b<=gI c a+n
 | [],_,_,_,c,_,_,a,b,n,hh=>by simp [Edg] at hh
 | _::_,[],_,_,c,_,_,a,b,n,hh=>by simp [Edg] at hh
 | d::ds,t::ts,hd,hE,c,h,hf,a,b,n,hn=>by
  have hdk:=hd d List.mem_cons_self
  have:=hdk.a0;have:=hdk.a1;have:=hdk.b0;have:=hdk.b1;have hne:=hdk.ne
  have he:E d.a d.b t:=hE _ _ _ (.inl ⟨rfl,.inl ⟨rfl,rfl⟩⟩)
  obtain ⟨g1,g2⟩:=h.one hdk hp he (hs _ _ _ he) (ht _ _ _ he) h0 h1
  obtain ⟨g3,g4⟩:=Aj4.all hp h0 h1 hs ht ds ts (fun x hx=>hd x (List.mem_cons_of_mem _ hx)) (fun a b n hn=>hE a b n (.inr hn)) g1
  have heq:∀q,0<=q->q<6->gI (Akk c d t) q=gI c q:=fun q hq0 hq1=>by
   have e1:gI (Ajg ds ts (Akk c d t)) q=gI c q:=hf q hq0 hq1
   have e2:=g4 q hq0 hq1
   have e3:=g2 q hq0 hq1
   omega
  have ea:=heq d.a hdk.a0 (by omega)
  have eb:=heq d.b hdk.b0 (by omega)
  rw [Bx9 hdk hp h.len t hdk.a0 (by omega),if_neg (fun e=>hne e.symm),if_pos rfl] at ea
  rw [Bx9 hdk hp h.len t hdk.b0 (by omega),if_pos rfl] at eb
  rcases hn with ⟨rfl,⟨rfl,rfl⟩ | ⟨rfl,rfl⟩⟩ | hn
  ·omega
  ·omega
  ·have:=Bj1 hp h0 h1 hs ht ds ts (fun x hx=>hd x (List.mem_cons_of_mem _ hx)) (fun a b n hn=>hE a b n (.inr hn)) g1 (fun q hq0 hq1=>by
    have e1:gI (Ajg ds ts (Akk c d t)) q=gI c q:=hf q hq0 hq1
    rw [e1,heq q hq0 hq1]) a b n hn
   obtain ⟨ha,hb⟩:=hn.place (fun x hx=>hd x (List.mem_cons_of_mem _ hx))
   rw [heq a ha.1 (by omega),heq b hb.1 (by omega)] at this
   exact this
def sum6 (c:List Int):Int:=gI c 0+gI c 1+gI c 2+gI c 3+gI c 4+gI c 5
theorem Djg {c c':List Int} (h:c.length=6) (h':c'.length=6) (he:∀q,0<=q->q<6->gI c q=gI c' q):c=c':=by
 apply List.ext_getElem?
 intro i
 by_cases hi:i<6
 ·have:=he i (by omega) (by omega)
  have g1:=Av4 (c:=c) (p:=(i:Int)) (by omega) (by omega)
  have g2:=Av4 (c:=c') (p:=(i:Int)) (by omega) (by omega)
  simp only [Int.toNat_natCast] at g1 g2
  rw [g1,g2,this]
 ·rw [List.getElem?_eq_none (by omega),List.getElem?_eq_none (by omega)]
theorem Cv5 {c c':List Int} (h:c.length=6) (h':c'.length=6) (hle:∀q,0<=q->q<6->gI c' q<=gI c q) (hne:c'≠c):sum6 c'<sum6 c:=by
 by_cases hs:sum6 c'<sum6 c
 ·exact hs
 ·refine absurd (Djg h' h fun q hq0 hq1=>?_) hne
  have a0:=hle 0 (by omega) (by omega)
  have a1:=hle 1 (by omega) (by omega)
  have a2:=hle 2 (by omega) (by omega)
  have a3:=hle 3 (by omega) (by omega)
  have a4:=hle 4 (by omega) (by omega)
  have a5:=hle 5 (by omega) (by omega)
  unfold sum6 at hs
  rcases (by omega:q=0∨q=1∨q=2∨q=3∨q=4∨q=5) with rfl | rfl | rfl | rfl | rfl | rfl<;>omega
structure Aw2 (E:Int->Int->Int->Prop) (p:Int) (c:List Int):Prop where
 len:c.length=6
 at0:gI c p=0
 att:∀q,0<=q->q<6->gI c q=99∨(gI c q<99/\Walk E p q (gI c q))
 pos:∀q,0<=q->q<6->0<=gI c q
 rel:∀a b n,E a b n->gI c b<=gI c a+n
theorem Bj4 {pl p:Int} {ds:List Dr} {ts:List Int} (hp:pl<=6) (h0:0<=p) (h1:p<6) (hd:Avx pl ds) (ht:TsOk ds ts):∀(n:Nat) (c:List Int),Aj4 (Edg ds ts) pl p c->sum6 c<n->Aw2 (Edg ds ts) p (Avp ds ts n c)
 | 0,c,h,hs=>by
  have p0:=h.pos 0 (by omega) (by omega)
  have p1:=h.pos 1 (by omega) (by omega)
  have p2:=h.pos 2 (by omega) (by omega)
  have p3:=h.pos 3 (by omega) (by omega)
  have p4:=h.pos 4 (by omega) (by omega)
  have p5:=h.pos 5 (by omega) (by omega)
  unfold sum6 at hs
  omega
 | n+1,c,h,hs=>by
  obtain ⟨g1,g2⟩:=Aj4.all hp h0 h1 (fun _ _ _ h=>h.symm) (fun _ _ _ h=>(ht _ _ _ h).1) ds ts hd (fun _ _ _ h=>h) h
  unfold Avp
  split
  ·rename_i he
   exact ⟨h.len,h.at0,h.att,h.pos,Bj1 hp h0 h1 (fun _ _ _ h=>h.symm) (fun _ _ _ h=>(ht _ _ _ h).1) ds ts hd (fun _ _ _ h=>h) h (fun q _ _=>by rw [he])⟩
  ·rename_i hne
   have:=Cv5 h.len g1.len g2 hne
   exact Bj4 hp h0 h1 hd ht n _ g1 (by omega)
theorem Bj3 {pl p:Int} {ds:List Dr} {ts:List Int} (hp:pl<=6) (h0:0<=p) (h1:p<6) (hd:Avx pl ds) (ht:TsOk ds ts):Aw2 (Edg ds ts) p (Axk ds p ts):=by
 refine Bj4 hp h0 h1 hd ht 600 _ (Aj4.start _ h0 h1) ?_
 have h:=Aj4.start (Edg ds ts) (pl:=pl) h0 h1
 have hle:∀q,0<=q->q<6->gI (Byt p) q<=99:=fun q a b=>by rcases h.att q a b with h | h<;>omega
 have p0:=hle 0 (by omega) (by omega)
 have p1:=hle 1 (by omega) (by omega)
 have p2:=hle 2 (by omega) (by omega)
 have p3:=hle 3 (by omega) (by omega)
 have p4:=hle 4 (by omega) (by omega)
 have p5:=hle 5 (by omega) (by omega)
 unfold sum6
 omega
def b01 (x v:Int):Int:=if x<v then 1 else 0
theorem Bjk (x:Int) {u v:Int} (h:u<=v):b01 x u<=b01 x v:=by
 unfold b01;split<;>split<;>omega
theorem Djr {x v:Int} (h:x<v):b01 x x+1<=b01 x v:=by
 unfold b01;rw [if_neg (by omega),if_pos h];omega
theorem Bjj (x v:Int):0<=b01 x v/\b01 x v<=1:=by
 unfold b01;split<;>omega
def below (c:List Int) (v:Int):Int:=b01 (gI c 0) v+b01 (gI c 1) v+b01 (gI c 2) v+b01 (gI c 3) v+b01 (gI c 4) v+b01 (gI c 5) v
theorem Cq7 (c:List Int) (v:Int):0<=below c v/\below c v<=6:=by
 have h0:=Bjj (gI c 0) v
 have h1:=Bjj (gI c 1) v
 have h2:=Bjj (gI c 2) v
 have h3:=Bjj (gI c 3) v
 have h4:=Bjj (gI c 4) v
 have h5:=Bjj (gI c 5) v
 unfold below
 omega
theorem Cwy {c:List Int} {a:Int} {v:Int} (h0:0<=a) (h1:a<6) (h:gI c a<v):below c (gI c a)+1<=below c v:=by
 have g0:=Bjk (gI c 0) (Int.le_of_lt h)
 have g1:=Bjk (gI c 1) (Int.le_of_lt h)
 have g2:=Bjk (gI c 2) (Int.le_of_lt h)
 have g3:=Bjk (gI c 3) (Int.le_of_lt h)
 have g4:=Bjk (gI c 4) (Int.le_of_lt h)
 have g5:=Bjk (gI c 5) (Int.le_of_lt h)
 have hx:=Djr h
 unfold below
 rcases (by omega:a=0∨a=1∨a=2∨a=3∨a=4∨a=5) with rfl | rfl | rfl | rfl | rfl | rfl<;>omega
theorem Aw2.most {pl p:Int} {ds:List Dr} {ts:List Int} {c:List Int} (h:Aw2 (Edg ds ts) p c) (hp:pl<=6) (hd:Avx pl ds) (ht:TsOk ds ts) (hp0:0<=p) (hp1:p<6):∀(n:Nat) (q:Int),0<=q->q<6->gI c q<99->gI c q<=n->gI c q<=4*below c (gI c q)
 | n,q,h0,h1,h2,h3=>by
  rcases h.att q h0 h1 with h4 | ⟨_,hw⟩
  ·omega
  ·generalize hg:gI c q=v at hw
   have hb:=(Cq7 c v).1
   cases hw with
   | here=>omega
   | @step a _ m t hwa he=>
    obtain ⟨ha,_⟩:=he.place hd
    obtain ⟨ht1,ht4⟩:=ht _ _ _ he
    have r1:=h.rel _ _ _ he
    have r2:=hwa.ge h.rel
    rw [h.at0] at r2
    have r3:gI c a=m:=by omega
    have r4:=h.pos a ha.1 (by omega)
    match n,h3 with
    | 0,h3=>omega
    | n+1,h3=>
     have ih:=Aw2.most h hp hd ht hp0 hp1 n a ha.1 (by omega) (by omega) (by omega)
     have:=Cwy (c:=c) (v:=m+t) ha.1 (by omega) (by omega)
     omega
theorem Aw2.small {pl p:Int} {ds:List Dr} {ts:List Int} {c:List Int} (h:Aw2 (Edg ds ts) p c) (hp:pl<=6) (hd:Avx pl ds) (ht:TsOk ds ts) (hp0:0<=p) (hp1:p<6) {q:Int} (h0:0<=q) (h1:q<6):gI c q=99∨gI c q<=24:=by
 rcases h.att q h0 h1 with h2 | ⟨h2,_⟩
 ·exact .inl h2
 ·have:=h.most hp hd ht hp0 hp1 (gI c q).toNat q h0 h1 h2 (by have:=h.pos q h0 h1;omega)
  have:=(Cq7 c (gI c q)).2
  right
  omega
theorem Aw2.walk {pl p:Int} {ds:List Dr} {ts:List Int} {c:List Int} (h:Aw2 (Edg ds ts) p c) (hp:pl<=6) (hd:Avx pl ds) (ht:TsOk ds ts) (hp0:0<=p) (hp1:p<6) {q n:Int} (hw:Walk (Edg ds ts) p q n):0<=q/\q<6/\gI c q<=24/\gI c q<=n:=by
 refine ⟨?_,?_,?_,by have:=hw.ge h.rel;rw [h.at0] at this;omega⟩
 ·cases hw with
  | here=>exact hp0
  | step _ he=>exact (he.place hd).2.1
 ·cases hw with
  | here=>exact hp1
  | step _ he=>have:=(he.place hd).2.2;omega
 ·induction hw with
  | here=>rw [h.at0];omega
  | @step a b n t _ he ih=>
   have r:=h.rel _ _ _ he
   have:=(ht _ _ _ he).2
   obtain ⟨_,hb⟩:=he.place hd
   rcases h.small hp hd ht hp0 hp1 hb.1 (by omega) with h2 | h2<;>omega
theorem Cj5 {c:List Int}:∀(ns:List Ns) {lo hi l h:Int},begN ns c lo hi=some (l,h)->lo<=l/\h<=hi
 | [],lo,hi,l,h,he=>by
  simp [begN] at he
  omega
 | n::ns,lo,hi,l,h,he=>by
  unfold begN at he
  by_cases hc:(n.sm=true/\gI c n.pl=99)∨(if n.sm then min hi (n.hr-gI c n.pl) else hi)<(if n.sm then lo else max lo (n.hr-gI c n.pl+1))
  ·rw [if_pos hc] at he;cases he
  ·rw [if_neg hc] at he
   have:=Cj5 ns he
   constructor
   ·refine Int.le_trans ?_ this.1
    split<;>omega
   ·refine Int.le_trans this.2 ?_
    split<;>omega
theorem Cxr {d:Dr} (h:0<=d.mn) (h':d.mx<=4) {n:Int}:n∈hrsF d↔d.mn<=n/\n<=d.mx:=by
 unfold hrsF
 rw [List.mem_filter]
 simp only [List.mem_map,List.mem_range,decide_eq_true_eq]
 constructor
 ·exact fun h=>h.2
 ·intro hn
  exact ⟨⟨n.toNat,by omega,by omega⟩,hn⟩
theorem Ake:∀ {ds:List Dr} {t:List Int},t∈Ax1 ds->t.length=ds.length
 | [],t,h=>by
  simp [Ax1] at h
  simp [h]
 | d::ds,t,h=>by
  simp only [Ax1,List.mem_flatMap,List.mem_map] at h
  obtain ⟨n,_,t',h2,rfl⟩:=h
  simp [Ake h2]
theorem Akd {pl:Int}:∀ {ds:List Dr} (hd:Avx pl ds) {t:List Int},t∈Ax1 ds↔t.length=ds.length/\∀(i:Nat) (d:Dr) (n:Int),ds[i]?=some d->t[i]?=some n->d.mn<=n/\n<=d.mx
 | [],_,t=>by
  simp [Ax1]
 | d::ds,hd,t=>by
  have hk:=hd d List.mem_cons_self
  have:=hk.m0
  have:=hk.m2
  simp only [Ax1,List.mem_flatMap,List.mem_map]
  cases t with
  | nil=>simp
  | cons n t=>
   have ih:=Akd (fun x hx=>hd x (List.mem_cons_of_mem _ hx)) (t:=t)
   constructor
   ·rintro ⟨m,hm,t',ht',he⟩
    obtain ⟨rfl,rfl⟩:=List.cons.inj he
    obtain ⟨h1,h2⟩:=ih.1 ht'
    refine ⟨by simp [h1],fun i d' n' hd' hn'=>?_⟩
    cases i with
    | zero=>
     simp at hd' hn'
     subst hd' hn'
     exact (Cxr (by omega) (by omega)).1 hm
    | succ i=>exact h2 i d' n' (by simpa using hd') (by simpa using hn')
   ·rintro ⟨h1,h2⟩
    exact ⟨n,(Cxr (by omega) (by omega)).2 (h2 0 d n rfl rfl),t,ih.2 ⟨by simpa using h1,fun i d' n' hd' hn'=>h2 (i+1) d' n' (by simpa using hd') (by simpa using hn')⟩,rfl⟩
theorem Cjy {ds:List Dr} {t:List Int} (hl:t.length=ds.length) (u:List Int) {a b n:Int}:Edg ds (t++u) a b n↔Edg ds t a b n:=by
 induction ds generalizing t with
 | nil=>simp [Edg]
 | cons d ds ih=>
  cases t with
  | nil=>simp at hl
  | cons x t=>simp only [List.cons_append,Edg,ih (by simpa using hl)]
theorem Akn {pl:Int} {ds:List Dr} (hd:Avx pl ds) {t:List Int} (ht:t∈Ax1 ds):TsOk ds (pad6 t):=by
 intro a b n h
 obtain ⟨hl,hk⟩:=(Akd hd).1 ht
 rw [pad6,Cjy hl] at h
 obtain ⟨i,d,h1,h2,_⟩:=h.ix
 have:=hk i d n h1 h2
 have hx:=hd d (List.mem_of_getElem? h1)
 have:=hx.m0
 have:=hx.m2
 omega
end Go.Proofs.YtaehjjbekjglkaaGreatDoor
end
section
namespace Go.Proofs.YtaehjjbekjglkaaGreatDoor
open Go Go.X Go.Proofs.Tryz
def Ajm:=aN @Dwa (aN @Dw3 (aN @Dv8 (aN @Dy5 (aN @Dv9 (aN @Dvz (aN @Dw2 (aN @Ayg @Bkv)))))))
def Cwn:=aN @Dv5 (aN @Dyp (aN @Dw2 @Ayg))
theorem Axj (main:Md) (H:Hp) (n lo hi:Int) :
  FnX Tryz.prog main 51 #[.int .i64 n,.int .i64 lo,.int .i64 hi] H fun e H'=>e=.returned (.bool (decide (n<lo)||decide (hi<n)))/\H'=H:=by
 refine Aqn func51 rfl ntmps51 (by simp) ?_
 by_cases h:n<lo
 ·(refine @unH _ (zA trivial ?_);(try clear hK K);intro K hK hc)
  (refine @unH _ ?_;refine z9 results51 ?_)
  exact ⟨by simp [h],trivial⟩
 ·(refine @unH _ (zA trivial ?_);(try clear hK K);intro K hK hc)
  (refine @unH _ ?_;refine z9 results51 ?_)
  exact ⟨by simp [h],trivial⟩
theorem Ck3:∀m:Fin 64,∀n:Fin 8,(bitv (fun x a b=>a &&& b) IntKind.u8 ((m.val:Int).fdiv (2 ^ min (n.val:Int).toNat IntKind.u8.bits)) 1==1)=m.val.testBit (n.val:Int).toNat:=by decide +kernel
theorem Cvq (main:Md) (H:Hp) (m:Nat) (n:Int) (hm:m<64) (h0:0<=n) (h1:n<8) :
  FnX Tryz.prog main 57 #[.int .u8 m,.int .i64 n] H fun e H'=>e=.returned (.bool (m.testBit n.toNat))/\H'=H:=by
 refine Aqn func57 rfl ntmps57 (by simp) ?_
 (refine @unH _ (zA trivial ?_);(try clear hK K);intro K hK hc)
 (refine @unH _ ?_;refine z9 results57 ?_)
 obtain ⟨a,b,rfl,rfl⟩:∃(a:Fin 64) (b:Fin 8),a.val=m/\(b.val:Int)=n:=⟨⟨m,hm⟩,⟨n.toNat,by omega⟩,rfl,by simp;omega⟩
 exact ⟨by rw [Ck3 a b],trivial⟩
theorem Cjj (main:Md) (H:Hp) (m:Nat) (n:Int) (hm:m<64) (h0:0<=n) (h1:n<6) :
  FnX Tryz.prog main 58 #[.int .u8 m,.int .i64 n] H fun e H'=>e=.returned (.int .u8 (Bqm m n.toNat))/\H'=H:=by
 refine Aqn func58 rfl ntmps58 (by simp) ?_
 (refine @unH _ (zA trivial ?_);(try clear hK K);intro K hK hc)
 (refine @unH _ ?_;refine z9 results58 ?_)
 obtain ⟨a,b,rfl,rfl⟩:=Ck4 hm h0 h1
 exact ⟨by rw [(Bwv a b).1],trivial⟩
theorem Bzc (main:Md) (H:Hp) (x y:Int) (b:Nat) (p:Bool) (fr:Nat×Nat) (hb:H b=some (p,.cells #[.int .i64 y] 3 fr)) :
  FnX Tryz.prog main 80 #[.int .i64 x,.slice (some ⟨b,0,none⟩) 1 1] H fun e H'=>e=.returned (.int .i64 (min x y))/\H'=H:=by
 refine Aqn func80 rfl ntmps80 (by simp) ?_
 (refine @unH _ (zA Cwn ?_);(try clear hK K);intro K hK hc)
 refine Axg (fun w a' H'=>∃e j,w=1-j/\j<=1/\a'=act 18 e []/\e 0=.int .i64 (if j=0 then x else min x y)/\e 7=.slice (some ⟨b,0,none⟩) 1 1/\e 8=.int .i64 1/\e 9=.int .i64 (j:Nat)/\H'=H) (n:=1) ?_ ?_
 ·exact ⟨_,0,by omega,by omega,rfl,rfl,rfl,rfl,rfl,rfl⟩
 ·rintro w a' H' ⟨e,j,rfl,hj,rfl,e0,e7,e8,e9,rfl⟩
  rcases (by omega:j=0∨j=1) with rfl | rfl
  ·simp only [if_true] at e0
   (refine @unH _ (zA Cwn ?_);(try clear hK K);intro K hK hc)
   refine ⟨0,by omega,_,1,rfl,by omega,rfl,?_,e7,e8,rfl,trivial⟩
   show Value.int .i64 (if y<x then y else x)=Value.int .i64 (min x y)
   congr 1
   split<;>omega
  ·(refine @unH _ (zA Cwn ?_);(try clear hK K);intro K hK hc)
   (refine @unH _ ?_;refine z9 results80 ?_)
   exact ⟨trivial,trivial⟩
structure BdC (c:Array Value) (o:Nat) (b:Bd):Prop where
 lo:c[o]?=some (.int .i64 b.lo)
 hi:c[o+1]?=some (.int .i64 b.hi)
 sm:c[o+2]?=some (.bool b.some)
theorem BdC.size {c:Array Value} {o:Nat} {b:Bd} (h:BdC c o b):o+2<c.size:=(Array.getElem?_eq_some_iff.1 h.sm).1
def Bz7 (c:Array Value) (o:Nat) (b:Bd):Array Value:=((c.setIfInBounds o (.int .i64 b.lo)).setIfInBounds (o+1) (.int .i64 b.hi)).setIfInBounds (o+2) (.bool b.some)
theorem Bqa {c:Array Value} {i:Nat} {v:Value}:(c.setIfInBounds i v).size=c.size:=by simp
theorem Ayv {c:Array Value} {o:Nat} {b:Bd} (h:o+2<c.size) (i:Nat):(Bz7 c o b)[i]?=if i=o then some (.int .i64 b.lo) else if i=o+1 then some (.int .i64 b.hi) else if i=o+2 then some (.bool b.some) else c[i]?:=by
 unfold Bz7
 simp only [Array.getElem?_setIfInBounds,Array.size_setIfInBounds]
 by_cases e0:i=o
 ·subst e0
  rw [if_pos rfl,if_neg (by omega),if_neg (by omega),if_pos rfl,if_pos (by omega)]
 ·by_cases e1:i=o+1
  ·subst e1
   rw [if_neg e0,if_pos rfl,if_neg (by omega),if_pos rfl,if_pos (by omega)]
  ·by_cases e2:i=o+2
   ·subst e2
    rw [if_neg e0,if_neg e1,if_pos rfl,if_pos rfl,if_pos (by omega)]
   ·rw [if_neg e0,if_neg e1,if_neg e2,if_neg (by omega),if_neg (by omega),if_neg (by omega)]
theorem Czc (c:Array Value) (o:Nat) (b:Bd):(Bz7 c o b).size=c.size:=by simp [Bz7]
theorem Bwh (main:Md) (H:Hp) (bb o:Nat) (b:Bd) (x:Int) (c:Array Value) (e:TypeId) (vb:H bb=some (true,.cells c e (0,0))) (hb:BdC c o b) :
  FnX Tryz.prog main 79 #[.pointer (some ⟨bb,o,none⟩),.int .i64 x] H fun e' H'=>e'=.returned (.tuple #[])/\H' bb=some (true,.cells (Bz7 c o (Bqg b x)) e (0,0))/\∀y,y≠bb->H' y=H y:=by
 have hsz:=hb.size
 obtain ⟨b0,b1,b2⟩:=hb
 obtain ⟨lo,hi,sm⟩:=b
 simp only at b0 b1 b2
 cases sm with
 | false=>
  refine Aqn func79 rfl ntmps79 (by simp) ?_
  (refine @unH _ (zA (aN Ajm @Bqa) ?_);(try clear hK K);intro K hK hc)
  obtain ⟨c1,hc1⟩:∃c1:Array Value,c1=((c.setIfInBounds o (.int .i64 x)).setIfInBounds (o+1) (.int .i64 x)).setIfInBounds (o+2) (.bool true):=⟨_,rfl⟩
  have hs1:c1.size=c.size:=by rw [hc1];simp
  have g0:c1[o]?=some (.int .i64 x):=by rw [hc1];simp [Array.getElem?_setIfInBounds,show o<c.size by omega]
  have g1:c1[o+1]?=some (.int .i64 x):=by rw [hc1];simp [Array.getElem?_setIfInBounds,show o+1<c.size by omega]
  have hz1:o<c1.size:=by omega
  have hz2:o+1<c1.size:=by omega
  have hput:(c1.setIfInBounds o (.int .i64 (if x<x then x else x))).setIfInBounds (o+1) (.int .i64 (if x<x then x else x))=Bz7 c o (Bqg ⟨lo,hi,false⟩ x):=by
   apply Array.ext_getElem?
   intro i
   rw [Ayv hsz,hc1]
   simp only [Array.getElem?_setIfInBounds,Array.size_setIfInBounds,Bqg,Bool.false_eq_true,if_false,if_true]
   by_cases e1:i=o+1
   ·subst e1
    simp only [show ¬(o+1=o) by omega,show o+1<c.size by omega,↓reduceIte]
    refine congrArg some (congrArg (Value.int .i64) ?_);(try dsimp only);(repeat' split)<;>omega
   ·by_cases e0:i=o
    ·subst e0
     simp only [show ¬(i+1=i) by omega,show i<c.size by omega,↓reduceIte]
     refine congrArg some (congrArg (Value.int .i64) ?_);(try dsimp only);(repeat' split)<;>omega
    ·rw [if_neg (Ne.symm e1),if_neg (Ne.symm e0),if_neg e0,if_neg e1]
     by_cases e2:i=o+2
     ·subst e2
      rw [if_pos rfl,if_pos rfl,if_pos (by omega)]
     ·rw [if_neg (Ne.symm e2),if_neg (Ne.symm e1),if_neg (Ne.symm e0),if_neg e2]
  rw [<-hc1]
  generalize hG:Hp.set H bb (.cells c1 e (0,0))=H1
  have v1:H1 bb=some (true,.cells c1 e (0,0)):=by rw [<-hG,Axh]
  have ho:∀y,y≠bb->H1 y=H y:=fun y hy=>by rw [<-hG,Aqv hy]
  clear hc1 vb b0 b1 b2 hG
  refine Axm (fun HX=>HX bb=some (true,.cells c1 e (0,0))) [16,19] (.free 0 (.free 1 (.free 2 (.free 3 (.free 4 (.take 5 (.free 6 (.free 7 (.free 8 (.free 9 (.free 10 (.take 11 (.free 12 (.free 13 (.free 14 (.free 15 (.one 16 (.free 17 (.free 18 (.one 19 .nil)))))))))))))))))))) (by kernel_rfl) (by kernel_rfl) (by decide) (by kernel_rfl) ?_;intro K hK
  (iterate 5 (refine @unH _ ?_;refine zI Ajm ?_))
  (refine @unH _ ?_;refine zJ Ajm ?_)
  (iterate 5 (refine @unH _ ?_;refine zI Ajm ?_))
  (refine @unH _ ?_;refine zJ Ajm ?_)
  (iterate 4 (refine @unH _ ?_;refine zI Ajm ?_))
  refine Aqw ?_
  (refine @unH _ ?_;refine zX Ajm ?_)
  refine ⟨.inl (by decide),?_⟩
  (iterate 2 (refine @unH _ ?_;refine zI Ajm ?_))
  refine Aqw ?_
  (refine @unH _ ?_;refine zX (aN Ajm @Bqa) ?_)
  refine ⟨.inl (by decide),?_⟩
  refine Axq (hK _ _ ?_)
  clear hK K
  (try refine @unH _ (zQ ?_))
  (refine @unH _ ?_;refine zD results79 ?_)
  refine ⟨by trivial,?_,fun y hy=>(Aqv hy).trans (ho y hy)⟩
  rw [Axh,<-hput]
 | true=>
  refine Aqn func79 rfl ntmps79 (by simp) ?_
  (refine @unH _ (zA (aN Ajm @Bqa) ?_);(try clear hK K);intro K hK hc)
  obtain ⟨c1,hc1⟩:∃c1:Array Value,c1=c:=⟨_,rfl⟩
  have hs1:c1.size=c.size:=by rw [hc1]
  have g0:c1[o]?=some (.int .i64 lo):=by rw [hc1];exact b0
  have g1:c1[o+1]?=some (.int .i64 hi):=by rw [hc1];exact b1
  have hz1:o<c1.size:=by omega
  have hz2:o+1<c1.size:=by omega
  have hput:(c1.setIfInBounds o (.int .i64 (if x<lo then x else lo))).setIfInBounds (o+1) (.int .i64 (if hi<x then x else hi))=Bz7 c o (Bqg ⟨lo,hi,true⟩ x):=by
   apply Array.ext_getElem?
   intro i
   rw [Ayv hsz,hc1]
   simp only [Array.getElem?_setIfInBounds,Array.size_setIfInBounds,Bqg,Bool.false_eq_true,if_false,if_true]
   by_cases e1:i=o+1
   ·subst e1
    simp only [show ¬(o+1=o) by omega,show o+1<c.size by omega,↓reduceIte]
    refine congrArg some (congrArg (Value.int .i64) ?_);(try dsimp only);(repeat' split)<;>omega
   ·by_cases e0:i=o
    ·subst e0
     simp only [show ¬(i+1=i) by omega,show i<c.size by omega,↓reduceIte]
     refine congrArg some (congrArg (Value.int .i64) ?_);(try dsimp only);(repeat' split)<;>omega
    ·rw [if_neg (Ne.symm e1),if_neg (Ne.symm e0),if_neg e0,if_neg e1]
     by_cases e2:i=o+2
     ·subst e2
      rw [if_pos rfl,b2]
     ·rw [if_neg e2]
  have v1:H bb=some (true,.cells c1 e (0,0)):=by rw [hc1];exact vb
  clear hc1 vb b0 b1 b2
  refine Axm (fun HX=>HX bb=some (true,.cells c1 e (0,0))) [16,19] (.free 0 (.free 1 (.free 2 (.free 3 (.free 4 (.take 5 (.free 6 (.free 7 (.free 8 (.free 9 (.free 10 (.take 11 (.free 12 (.free 13 (.free 14 (.free 15 (.one 16 (.free 17 (.free 18 (.one 19 .nil)))))))))))))))))))) (by kernel_rfl) (by kernel_rfl) (by decide) (by kernel_rfl) ?_;intro K hK
  (iterate 5 (refine @unH _ ?_;refine zI Ajm ?_))
  (refine @unH _ ?_;refine zJ Ajm ?_)
  (iterate 5 (refine @unH _ ?_;refine zI Ajm ?_))
  (refine @unH _ ?_;refine zJ Ajm ?_)
  (iterate 4 (refine @unH _ ?_;refine zI Ajm ?_))
  refine Aqw ?_
  (refine @unH _ ?_;refine zX Ajm ?_)
  refine ⟨.inl (by decide),?_⟩
  (iterate 2 (refine @unH _ ?_;refine zI Ajm ?_))
  refine Aqw ?_
  (refine @unH _ ?_;refine zX (aN Ajm @Bqa) ?_)
  refine ⟨.inl (by decide),?_⟩
  refine Axq (hK _ _ ?_)
  clear hK K
  (try refine @unH _ (zQ ?_))
  (refine @unH _ ?_;refine zD results79 ?_)
  refine ⟨by trivial,?_,fun y hy=>Aqv hy⟩
  rw [Axh,<-hput]
end Go.Proofs.YtaehjjbekjglkaaGreatDoor
end
section
namespace Go.X
open Go
def SlG (e:TypeId) (sz:Nat) (H:Hp) (v:Value) (rows:List (List Value)):Prop:=
 ∃a cap,v=.slice a rows.length cap/\rows.length<=cap/\∀(i:Nat) (r:List Value),rows[i]?=some r->∃b o p c fr,a=some ⟨b,o,none⟩/\H b=some (p,.cells c e fr)/\o+i*sz+sz<=c.size/\r.length=sz/\c.extract (o+i*sz) (o+i*sz+sz)=r.toArray
theorem SlG.move {e:TypeId} {sz:Nat} {H H':Hp} {v:Value} {rows:List (List Value)} (h:SlG e sz H v rows) (hl:∀x p c fr,H x=some (p,.cells c e fr)->∃p',H' x=some (p',.cells c e fr)):SlG e sz H' v rows:=by
 obtain ⟨a,cap,h1,h2,h3⟩:=h
 refine ⟨a,cap,h1,h2,fun i r hr=>?_⟩
 obtain ⟨b,o,p,c,fr,h4,h5,h6,h7,h8⟩:=h3 i r hr
 obtain ⟨p',h9⟩:=hl _ _ _ _ h5
 exact ⟨b,o,p',c,fr,h4,h9,h6,h7,h8⟩
theorem SlG.le {e:TypeId} {sz:Nat} {H H':Hp} {v:Value} {rows:List (List Value)} (h:SlG e sz H v rows) (hl:H.le H'):SlG e sz H' v rows:=h.move fun x p c fr hx=>⟨p,hl _ _ hx⟩
theorem SlG.get {e:TypeId} {sz:Nat} {H:Hp} {a:Option Addr} {n cap:Nat} {rows:List (List Value)} (h:SlG e sz H (.slice a n cap) rows) {i:Nat} {r:List Value} (hr:rows[i]?=some r) :
  ∃b o p c fr,a=some ⟨b,o,none⟩/\H b=some (p,.cells c e fr)/\o+i*sz+sz<=c.size/\r.length=sz/\c.extract (o+i*sz) (o+i*sz+sz)=r.toArray:=by
 obtain ⟨a',cap',h1,h2,h3⟩:=h
 cases h1
 exact h3 i r hr
theorem SlG.len {e:TypeId} {sz:Nat} {H:Hp} {a:Option Addr} {n cap:Nat} {rows:List (List Value)} (h:SlG e sz H (.slice a n cap) rows):n=rows.length/\rows.length<=cap:=by
 obtain ⟨a',cap',h1,h2,h3⟩:=h
 cases h1
 exact ⟨rfl,h2⟩
theorem SlG.isSlice {e:TypeId} {sz:Nat} {H:Hp} {v:Value} {rows:List (List Value)} (h:SlG e sz H v rows):∃a n cap,v=.slice a n cap:=by
 obtain ⟨a',cap',h1,h2,h3⟩:=h
 exact ⟨_,_,_,h1⟩
def RdG (sz:Nat) (H:Hp) (v:Value) (rows:List (List Value)):Prop:=
 ∃a cap,v=.slice a rows.length cap/\rows.length<=cap/\∀(i:Nat) (r:List Value),rows[i]?=some r->∃b o p c e fr,a=some ⟨b,o,none⟩/\H b=some (p,.cells c e fr)/\o+i*sz+sz<=c.size/\r.length=sz/\c.extract (o+i*sz) (o+i*sz+sz)=r.toArray
theorem RdG.le {sz:Nat} {H H':Hp} {v:Value} {rows:List (List Value)} (h:RdG sz H v rows) (hl:H.le H'):RdG sz H' v rows:=by
 obtain ⟨a,cap,h1,h2,h3⟩:=h
 exact ⟨a,cap,h1,h2,fun i r hr=>by
  obtain ⟨b,o,p,c,e,fr,g1,g2,g3⟩:=h3 i r hr
  exact ⟨b,o,p,c,e,fr,g1,hl _ _ g2,g3⟩⟩
theorem SlG.rd {e:TypeId} {sz:Nat} {H:Hp} {v:Value} {rows:List (List Value)} (h:SlG e sz H v rows):RdG sz H v rows:=by
 obtain ⟨a,cap,h1,h2,h3⟩:=h
 exact ⟨a,cap,h1,h2,fun i r hr=>by
  obtain ⟨b,o,p,c,fr,g⟩:=h3 i r hr
  exact ⟨b,o,p,c,e,fr,g⟩⟩
theorem RdG.get {sz:Nat} {H:Hp} {a:Option Addr} {n cap:Nat} {rows:List (List Value)} (h:RdG sz H (.slice a n cap) rows) {i:Nat} {r:List Value} (hr:rows[i]?=some r) :
  ∃b o p c e fr,a=some ⟨b,o,none⟩/\H b=some (p,.cells c e fr)/\o+i*sz+sz<=c.size/\r.length=sz/\c.extract (o+i*sz) (o+i*sz+sz)=r.toArray:=by
 obtain ⟨a',cap',h1,_,h3⟩:=h
 simp only [Value.slice.injEq] at h1
 obtain ⟨rfl,_,_⟩:=h1
 exact h3 i r hr
theorem RdG.form {sz:Nat} {H:Hp} {v:Value} {rows:List (List Value)} (h:RdG sz H v rows):∃a cap,v=.slice a rows.length cap/\rows.length<=cap:=by
 obtain ⟨a,cap,h1,h2,_⟩:=h
 exact ⟨a,cap,h1,h2⟩
theorem RdG.len {sz:Nat} {H:Hp} {a:Option Addr} {n cap:Nat} {rows:List (List Value)} (h:RdG sz H (.slice a n cap) rows):n=rows.length/\rows.length<=cap:=by
 obtain ⟨a',cap',h1,h2,h3⟩:=h
 cases h1
 exact ⟨rfl,h2⟩
theorem Bxk {c:Array Value} {o n:Nat} {r:List Value} (h:c.extract o (o+n)=r.toArray) (hs:o+n<=c.size) {k:Nat} {x:Value} (hx:r[k]?=some x):c[o+k]?=some x:=by
 have h1:(c.extract o (o+n))[k]?=some x:=by rw [h];simpa using hx
 rw [Array.getElem?_extract] at h1
 split at h1
 ·exact h1
 ·cases h1
end Go.X
namespace Go.Proofs.YtaehjjbekjglkaaGreatDoor
open Go Go.X
def Bx4 (d:Dr):List Value:=[.int .i64 d.a,.int .i64 d.b,.int .i64 d.mn,.int .i64 d.mx]
def Bzf (n:Ns):List Value:=[.int .i64 n.pl,.int .i64 n.hr,.bool n.sm]
def SlD (H:Hp) (v:Value) (ds:List Dr):Prop:=SlG 30 4 H v (ds.map Bx4)
def SlN (H:Hp) (v:Value) (ns:List Ns):Prop:=SlG 32 3 H v (ns.map Bzf)
theorem SlD.move {H H':Hp} {v:Value} {ds:List Dr} (h:SlD H v ds) (hl:∀x p c fr,H x=some (p,.cells c 30 fr)->∃p',H' x=some (p',.cells c 30 fr)):SlD H' v ds:=SlG.move h hl
theorem SlN.move {H H':Hp} {v:Value} {ns:List Ns} (h:SlN H v ns) (hl:∀x p c fr,H x=some (p,.cells c 32 fr)->∃p',H' x=some (p',.cells c 32 fr)):SlN H' v ns:=SlG.move h hl
theorem SlD.le {H H':Hp} {v:Value} {ds:List Dr} (h:SlD H v ds) (hl:H.le H'):SlD H' v ds:=SlG.le h hl
theorem SlN.le {H H':Hp} {v:Value} {ns:List Ns} (h:SlN H v ns) (hl:H.le H'):SlN H' v ns:=SlG.le h hl
theorem SlD.isSlice {H:Hp} {v:Value} {ds:List Dr} (h:SlD H v ds):∃a n cap,v=.slice a n cap:=SlG.isSlice h
theorem SlN.isSlice {H:Hp} {v:Value} {ns:List Ns} (h:SlN H v ns):∃a n cap,v=.slice a n cap:=SlG.isSlice h
abbrev smV (pl:Int) (dv hv nv:Value):Value:=.agg #[.int .i64 pl,dv,hv,nv]
abbrev smO (pl:Int) (dv hv nv:Value):Obj:=.cells #[.int .i64 pl,dv,hv,nv] 26 (0,0)
structure SmIn (H:Hp) (dv hv nv:Value) (s:Sm):Prop where
 dd:SlD H dv s.doors
 hh:SlI H hv s.hampers
 nn:SlN H nv s.noses
theorem SmIn.le {H H':Hp} {dv hv nv:Value} {s:Sm} (h:SmIn H dv hv nv s) (hl:H.le H'):SmIn H' dv hv nv s:=⟨h.dd.le hl,h.hh.le hl,h.nn.le hl⟩
theorem SlD.get {H:Hp} {a:Option Addr} {n cap:Nat} {ds:List Dr} (h:SlD H (.slice a n cap) ds) {i:Nat} {d:Dr} (hd:ds[i]?=some d) :
  ∃b o p c fr,a=some ⟨b,o,none⟩/\H b=some (p,.cells c 30 fr)/\o+i*4+4<=c.size/\c.extract (o+i*4) (o+i*4+4)=#[.int .i64 d.a,.int .i64 d.b,.int .i64 d.mn,.int .i64 d.mx]:=by
 obtain ⟨b,o,p,c,fr,h1,h2,h3,h4,h5⟩:=SlG.get h (i:=i) (r:=Bx4 d) (by simp [hd])
 exact ⟨b,o,p,c,fr,h1,h2,h3,h5⟩
theorem SlN.get {H:Hp} {a:Option Addr} {n cap:Nat} {ns:List Ns} (h:SlN H (.slice a n cap) ns) {i:Nat} {d:Ns} (hd:ns[i]?=some d) :
  ∃b o p c fr,a=some ⟨b,o,none⟩/\H b=some (p,.cells c 32 fr)/\o+i*3+3<=c.size/\c.extract (o+i*3) (o+i*3+3)=#[.int .i64 d.pl,.int .i64 d.hr,.bool d.sm]:=by
 obtain ⟨b,o,p,c,fr,h1,h2,h3,h4,h5⟩:=SlG.get h (i:=i) (r:=Bzf d) (by simp [hd])
 exact ⟨b,o,p,c,fr,h1,h2,h3,h5⟩
theorem SlD.len {H:Hp} {a:Option Addr} {n cap:Nat} {ds:List Dr} (h:SlD H (.slice a n cap) ds):n=ds.length/\ds.length<=cap:=by
 have:=SlG.len h
 simpa using this
theorem SlN.len {H:Hp} {a:Option Addr} {n cap:Nat} {ns:List Ns} (h:SlN H (.slice a n cap) ns):n=ns.length/\ns.length<=cap:=by
 have:=SlG.len h
 simpa using this
theorem SmIn.forms {H:Hp} {dv hv nv:Value} {s:Sm} (h:SmIn H dv hv nv s):∃da dc ha hc na nc,dv=.slice da s.doors.length dc/\hv=.slice ha s.hampers.length hc/\nv=.slice na s.noses.length nc/\s.doors.length<=dc/\s.hampers.length<=hc/\s.noses.length<=nc:=by
 obtain ⟨a1,n1,c1,rfl⟩:=h.dd.isSlice
 obtain ⟨a2,c2,rfl,l2,_⟩:=id h.hh
 obtain ⟨a3,n3,c3,rfl⟩:=h.nn.isSlice
 obtain ⟨rfl,l1⟩:=h.dd.len
 obtain ⟨rfl,l3⟩:=h.nn.len
 refine ⟨a1,c1,a2,c2,a3,c3,?_,rfl,?_,?_,l2,?_⟩<;>first | simp | simpa using l1 | simpa using l3
structure RsS (H:Hp) (dv hv nv:Value) (s:Sm):Prop where
 dd:RdG 4 H dv (s.doors.map Bx4)
 hh:RdI H hv s.hampers
 nn:RdG 3 H nv (s.noses.map Bzf)
theorem RsS.le {H H':Hp} {dv hv nv:Value} {s:Sm} (h:RsS H dv hv nv s) (hl:H.le H'):RsS H' dv hv nv s:=⟨h.dd.le hl,h.hh.le hl,h.nn.le hl⟩
theorem SmIn.rd {H:Hp} {dv hv nv:Value} {s:Sm} (h:SmIn H dv hv nv s):RsS H dv hv nv s:=⟨SlG.rd h.dd,SlI.rd h.hh,SlG.rd h.nn⟩
theorem RsS.forms {H:Hp} {dv hv nv:Value} {s:Sm} (h:RsS H dv hv nv s):∃da dc ha kc na nc,dv=.slice da s.doors.length dc/\hv=.slice ha s.hampers.length kc/\nv=.slice na s.noses.length nc/\s.doors.length<=dc/\s.hampers.length<=kc/\s.noses.length<=nc:=by
 obtain ⟨a1,c1,h1,g1⟩:=h.dd.form
 obtain ⟨a2,c2,h2,g2⟩:=h.hh.form
 obtain ⟨a3,c3,h3,g3⟩:=h.nn.form
 rw [List.length_map] at h1 g1 h3 g3
 exact ⟨a1,c1,a2,c2,a3,c3,h1,h2,h3,g1,g2,g3⟩
end Go.Proofs.YtaehjjbekjglkaaGreatDoor
end
section
namespace Go.Proofs.YtaehjjbekjglkaaGreatDoor
open Go Go.X Go.Proofs.Tryz
def Aj3:=aN @Dwi (aN @Dw2 (aN @Aya (aN @Dwj (aN @Dwz (aN @Dv4 (aN @Dyo (aN @Dyb (aN @Dyz (aN @Dyj (aN @Dw9 (aN @Dzb (aN @Dwk (aN @Dw0 (aN @Dv5 (aN @Dyp (aN @Dzc (aN @Dzd (aN @Dwl (aN @Dw1 (aN @Dv6 (aN @Dyq (aN @Dyc (aN @Dy0 (aN @Dyk (aN @Dze (aN @Ckn (aN @Dzy (aN (fun H=>Bw7 (H:=H) underlying90) (aN (fun H=>Bkb (H:=H) underlying90) (aN (fun H=>Bw8 (H:=H) underlying90) (aN (fun H=>Bkd (H:=H) underlying90) @Dzf)))))))))))))))))))))))))))))))
def Bj8:=aN @Dwo (aN @Dw2 (aN @Dwi (aN @Aya (aN @Dwp (aN @Dwq (aN @Dwm @Dwn))))))
def Cx6:=aN @Dwr (aN @Dw2 (aN @Dwi (aN @Aya (aN @Bkf (aN @Eqe @Dws)))))
theorem Bvw (main:Md) (H:Hp) (pl:Int) (dv hv nv:Value) (n:Ns) (at_:Int) (hn:NsOk pl n) (hp:pl<=6) (h1:one dv=true) (h2:one hv=true) (h3:one nv=true) :
  FnX Tryz.prog main 59 #[smV pl dv hv nv,.agg #[.int .i64 n.pl,.int .i64 n.hr,.bool n.sm],.int .i64 at_] H fun e H'=>e=.returned .nilIface/\H.le H':=by
 obtain ⟨p0,p1,q0,q1⟩:=hn
 refine Aqn func59 rfl ntmps59 (by simp) ?_
 (refine @unH _ (zA Cx6 ?_);(try clear hK K);intro K hK hc)
 (intro sb hsb nb hnb;replace hnb:(Hp.set _ sb _) nb=none:=hnb;generalize hG:Hp.set _ sb _=H1 at hnb ⊢;have lH1:=Aqc hG hsb;have wsb:=Aqb hG;clear hG;generalize hG:Hp.set _ nb _=H2;have lH2:=Aqc hG hnb;have vnb:=Aqb hG;have vsb:=lH2 _ _ wsb;have nsbnb:=Aqr wsb hnb;clear hG wsb)
 have l2:=Hp.le_trans lH1 lH2
 clear hsb hnb lH1 lH2
 (refine @unH _ (zU Cx6 ?_);(try clear hK K);intro K hK hc)
 refine (Axj main H2 n.pl 0 (pl-1)).runs.mono ?_
 rintro _ _ ⟨rfl,hQ⟩
 rw [hQ,show (decide (n.pl<0)||decide (pl-1<n.pl))=false by simp;omega]
 clear hQ
 (refine @unH _ (zU Cx6 ?_);(try clear hK K);intro K hK hc)
 refine (Axj main H2 n.hr 0 12).runs.mono ?_
 rintro _ _ ⟨rfl,hQ⟩
 rw [hQ,show (decide (n.hr<0)||decide (12<n.hr))=false by simp;omega]
 clear hQ
 (refine @unH _ (zU Cx6 ?_);(try clear hK K);intro K hK hc)
 (refine @unH _ ?_;refine z9 results59 ?_)
 exact ⟨trivial,l2⟩
theorem Bvv (main:Md) (H:Hp) (pl:Int) (dv hv nv:Value) (d:Dr) (hn:DrOk pl d) (hp:pl<=6) (h1:one dv=true) (h2:one hv=true) (h3:one nv=true) :
  FnX Tryz.prog main 56 #[smV pl dv hv nv,.agg #[.int .i64 d.a,.int .i64 d.b,.int .i64 d.mn,.int .i64 d.mx]] H fun e H'=>e=.returned (.int .i64 0)/\H.le H':=by
 obtain ⟨p0,p1,q0,q1,ne,r0,r1,r2⟩:=hn
 refine Aqn func56 rfl ntmps56 (by simp) ?_
 (refine @unH _ (zA Bj8 ?_);(try clear hK K);intro K hK hc)
 (intro sb hsb nb hnb;replace hnb:(Hp.set _ sb _) nb=none:=hnb;generalize hG:Hp.set _ sb _=H1 at hnb ⊢;have lH1:=Aqc hG hsb;have wsb:=Aqb hG;clear hG;generalize hG:Hp.set _ nb _=H2;have lH2:=Aqc hG hnb;have vnb:=Aqb hG;have vsb:=lH2 _ _ wsb;have nsbnb:=Aqr wsb hnb;clear hG wsb)
 have l2:=Hp.le_trans lH1 lH2
 clear hsb hnb lH1 lH2
 (refine @unH _ (zU Bj8 ?_);(try clear hK K);intro K hK hc)
 refine (Axj main H2 d.a 0 (pl-1)).runs.mono ?_
 rintro _ _ ⟨rfl,hQ⟩
 rw [hQ,show (decide (d.a<0)||decide (pl-1<d.a))=false by simp;omega]
 clear hQ
 (refine @unH _ (zU Bj8 ?_);intro _ _ hc)
 refine (Axj main H2 d.b 0 (pl-1)).runs.mono ?_
 rintro _ _ ⟨rfl,hQ⟩
 rw [hQ,show (decide (d.b<0)||decide (pl-1<d.b))=false by simp;omega]
 clear hQ
 (refine @unH _ (zU Bj8 ?_);(try clear hK K);intro K hK hc)
 refine (Axj main H2 d.mn 1 4).runs.mono ?_
 rintro _ _ ⟨rfl,hQ⟩
 rw [hQ,show (decide (d.mn<1)||decide (4<d.mn))=false by simp;omega]
 clear hQ
 (refine @unH _ (zU Bj8 ?_);intro _ _ hc)
 refine (Axj main H2 d.mx 1 4).runs.mono ?_
 rintro _ _ ⟨rfl,hQ⟩
 rw [hQ,show (decide (d.mx<1)||decide (4<d.mx))=false by simp;omega]
 clear hQ
 (refine @unH _ (zU Bj8 ?_);(try clear hK K);intro K hK hc)
 (refine @unH _ ?_;refine z9 results56 ?_)
 exact ⟨trivial,l2⟩
theorem Dqh (xs:List Int) (x:Int):oOf (xs++[x])=Bqm (oOf xs) x.toNat:=by simp [oOf]
theorem Avi (main:Md) (H:Hp) (s:Sm) (dv hv nv:Value) (hs:SmIn H dv hv nv s) (ok:SmOk s) :
  FnX Tryz.prog main 17 #[smV s.places dv hv nv] H fun e H'=>e=.returned (.int .i64 0)/\H.le H':=by
 obtain ⟨da,dc,ha,kc,na,nc,rfl,rfl,rfl,l1,l2,l3⟩:=hs.forms
 obtain ⟨p0,p1,dl,dk,h0,h1,hk,hd,nl,nk⟩:=ok
 obtain ⟨pl,ds,hp,ns⟩:=s
 simp only at *
 have hsD:SlD H _ ds:=hs.dd
 have hsH:SlI H _ hp:=hs.hh
 have hsN:SlN H _ ns:=hs.nn
 clear hs
 refine Aqn func17 rfl ntmps17 (by simp) ?_
 (refine @unH _ (zA Aj3 ?_);(try clear hK K);intro K hK hc)
 (intro sb hsb;generalize hG:Hp.set _ sb _=H1;have lH1:=Aqc hG hsb;have vsb:=Aqb hG;clear hG)
 replace hsD:=hsD.le lH1
 replace hsH:=hsH.le lH1
 replace hsN:=hsN.le lH1
 (refine @unH _ (zU Aj3 ?_);(try clear hK K);intro K hK hc)
 refine (Axj main H1 pl 1 6).runs.mono ?_
 rintro _ _ ⟨rfl,hQ⟩
 rw [hQ,show (decide (pl<1)||decide (6<pl))=false by simp;omega]
 clear hQ
 (refine @unH _ (zU Aj3 ?_);(try clear hK K);intro K hK hc)
 refine Axg (fun w a' H'=>∃e,∃k:Nat,w=ds.length-k/\k<=ds.length/\a'=act 83 e []/\e 1=.pointer (some ⟨sb,0,none⟩)/\e 21=.slice da ds.length dc/\e 22=.int .i64 ds.length/\e 23=.int .i64 (k:Nat)/\H1.le H') (n:=ds.length) ?_ ?_
 ·exact ⟨_,0,by omega,by omega,rfl,rfl,rfl,rfl,rfl,Hp.le_refl _⟩
 ·rename_i eold
  clear eold
  rintro w a' H2 ⟨e,k,rfl,hk',rfl,e1,e21,e22,e23,l12⟩
  have vs2:=l12 _ _ vsb
  by_cases hlt:k<ds.length
  ·obtain ⟨b,o,p,c,fr,rfl,hb,hcs,hce⟩:=hsD.get (List.getElem?_eq_getElem hlt)
   have hdk:=dk _ (List.getElem_mem hlt)
   generalize ds[k]=d at *
   have hb2:=l12 _ _ hb
   clear hb vsb hsD
   (refine @unH _ (zA Aj3 ?_);(try clear hK K);intro K hK hc)
   intro ab hab
   have nsb:=Aqr vs2 hab
   (refine @unH _ (zU Aj3 ?_);(try clear hK K);intro K hK hc)
   generalize hG:Hp.set _ ab _=H3
   have vs3:=Aqi hG vs2 nsb
   have l13:=Hp.le_trans l12 (Aqc hG hab)
   clear vs2 hb2 hab hG
   refine (Bvv main H3 pl (.slice _ _ _) (.slice _ _ _) (.slice _ _ _) d hdk p1 rfl rfl rfl).runs.mono ?_
   rintro _ H4 ⟨rfl,lH4⟩
   have l14:=Hp.le_trans l13 lH4
   clear lH4 vs3 hce hcs hdk
   (refine @unH _ (zU Aj3 ?_);(try clear hK K);intro K hK hc)
   exact ⟨_,by omega,_,k+1,rfl,by omega,rfl,e1,e21,e22,rfl,l14⟩
  ·obtain rfl:k=ds.length:=by omega
   have hn0:(hp.length:Int)≠0:=by omega
   (refine @unH _ (zA Aj3 ?_);(try clear hK K);intro K hK hc)
   clear e21 e22 e23 hsD
   refine Axg (fun w a' H'=>∃e,∃k:Nat,w=hp.length-k/\k<=hp.length/\a'=act 83 e []/\e 1=.pointer (some ⟨sb,0,none⟩)/\e 7=.int .u8 (oOf (hp.take k):Nat)/\e 44=.slice ha hp.length kc/\e 45=.int .i64 hp.length/\e 46=.int .i64 (k:Nat)/\H1.le H') (n:=hp.length) ?_ ?_
   ·exact ⟨_,0,by omega,by omega,rfl,e1,rfl,rfl,rfl,rfl,l12⟩
   clear vs2 l12 e1 H2
   rename_i eold
   clear eold
   rintro w a' H2 ⟨e,k,rfl,hk',rfl,e1,e7,e44,e45,e46,l12⟩
   have vs2:=l12 _ _ vsb
   by_cases hlt:k<hp.length
   ·obtain ⟨b,o,p,c,fr,rfl,hb,hce⟩:=hsH.get (List.getElem?_eq_getElem hlt)
    have hce':c[o+(k:Int).toNat*1]?=some (.int .i64 hp[k]):=by simpa using hce
    have hx:=hk _ (List.getElem_mem hlt)
    have hb2:=l12 _ _ hb
    have hnm:(oOf (hp.take k)).testBit (hp[k]).toNat=false:=by
     rw [By2 _ (fun x hx=>(hk x (List.mem_of_mem_take hx)).1) _ hx.1]
     rw [decide_eq_false_iff_not]
     intro hm
     have:=List.nodup_iff_pairwise_ne.1 hd
     obtain ⟨i,hi,he⟩:=List.getElem_of_mem hm
     rw [List.length_take] at hi
     rw [List.getElem_take] at he
     exact (List.pairwise_iff_getElem.1 this i k (by omega) hlt (by omega)) he
    have hlt64:oOf (hp.take k)<64:=Dq8 _ 0 (by decide) (fun x hx=>by have:=hk x (List.mem_of_mem_take hx);omega)
    have hsn:oOf (hp.take (k+1))=Bqm (oOf (hp.take k)) (hp[k]).toNat:=by rw [List.take_add_one,List.getElem?_eq_getElem hlt];exact Dqh _ _
    obtain ⟨m1,hm1⟩:∃m1,m1=oOf (hp.take (k+1)):=⟨_,rfl⟩
    rw [<-hm1] at hsn
    replace hm1:Aqk _:=hm1
    generalize oOf (hp.take k)=m at *
    generalize hp[k]=x at *
    clear hb vsb
    replace hsn:Aqk _:=hsn
    replace hnm:Aqk _:=hnm
    (refine @unH _ (zA Aj3 ?_);(try clear hK K);intro K hK hc)
    refine (Axj main H2 x 0 (pl-1)).runs.mono ?_
    rintro _ _ ⟨rfl,hQ⟩
    rw [hQ,show (decide (x<0)||decide (pl-1<x))=false by simp;omega]
    clear hQ
    (refine @unH _ (zU Aj3 ?_);(try clear hK K);intro K hK hc)
    refine (Cvq main H2 m x hlt64 hx.1 (by omega)).runs.mono ?_
    rintro _ _ ⟨rfl,hQ⟩
    rw [hQ,show m.testBit x.toNat=false from hnm]
    clear hQ
    (refine @unH _ (zU Aj3 ?_);(try clear hK K);intro K hK hc)
    refine (Cjj main H2 m x hlt64 hx.1 (by omega)).runs.mono ?_
    rintro _ _ ⟨rfl,hQ⟩
    rw [hQ,<-show m1=Bqm m x.toNat from hsn]
    clear hQ
    (refine @unH _ (zU Aj3 ?_);(try clear hK K);intro K hK hc)
    exact ⟨_,by omega,_,k+1,rfl,by omega,rfl,e1,by rw [<-show m1=_ from hm1];rfl,e44,e45,rfl,l12⟩
   ·obtain rfl:k=hp.length:=by omega
    (refine @unH _ (zA Aj3 ?_);(try clear hK K);intro K hK hc)
    clear e7 e44 e45 e46 hsH
    refine Axg (fun w a' H'=>∃e,∃k:Nat,w=ns.length-k/\k<=ns.length/\a'=act 83 e []/\e 1=.pointer (some ⟨sb,0,none⟩)/\e 67=.slice na ns.length nc/\e 68=.int .i64 ns.length/\e 69=.int .i64 (k:Nat)/\H1.le H') (n:=ns.length) ?_ ?_
    ·exact ⟨_,0,by omega,by omega,rfl,e1,rfl,rfl,rfl,l12⟩
    clear vs2 l12 e1 H2
    rename_i eold
    clear eold
    rintro w a' H2 ⟨e,k,rfl,hk',rfl,e1,e67,e68,e69,l12⟩
    have vs2:=l12 _ _ vsb
    by_cases hlt:k<ns.length
    ·obtain ⟨b,o,p,c,fr,rfl,hb,hcs,hce⟩:=hsN.get (List.getElem?_eq_getElem hlt)
     have hdk:=nk _ (List.getElem_mem hlt)
     generalize ns[k]=d at *
     have hb2:=l12 _ _ hb
     clear hb vsb hsN
     (refine @unH _ (zA Aj3 ?_);(try clear hK K);intro K hK hc)
     intro ab hab
     have nsb:=Aqr vs2 hab
     (refine @unH _ (zU Aj3 ?_);(try clear hK K);intro K hK hc)
     generalize hG:Hp.set _ ab _=H3
     have vs3:=Aqi hG vs2 nsb
     have l13:=Hp.le_trans l12 (Aqc hG hab)
     clear vs2 hb2 hab hG
     refine (Bvw main H3 pl (.slice _ _ _) (.slice _ _ _) (.slice _ _ _) d _ hdk p1 rfl rfl rfl).runs.mono ?_
     rintro _ H4 ⟨rfl,lH4⟩
     have l14:=Hp.le_trans l13 lH4
     clear lH4 vs3 hce hcs hdk
     (refine @unH _ (zU Aj3 ?_);(try clear hK K);intro K hK hc)
     exact ⟨_,by omega,_,k+1,rfl,by omega,rfl,e1,e67,e68,rfl,l14⟩
    ·obtain rfl:k=ns.length:=by omega
     (refine @unH _ (zA Aj3 ?_);(try clear hK K);intro K hK hc)
     (refine @unH _ ?_;refine z9 results17 ?_)
     exact ⟨trivial,Hp.le_trans lH1 l12⟩
end Go.Proofs.YtaehjjbekjglkaaGreatDoor
end
section
namespace Go.X
open Go
section
variable {P:Program} {ks:TypeId}
theorem Bjm {H:Hp} {t et:TypeId} (hu:P.underlying t=some (.array 6 et)) {d:IntKind} (he:P.underlying et=some (.int d)) (hs:∀w,(sizeOf et).run P w=.ok 1 w) (n:Nat) (x0 x1 x2 x3 x4 x5 y0 y1 y2 y3 y4 y5:Int) (K:Bool->Hp->Prop) (E:Value->Hp->Prop) :
  wpS P (Op.equalIn (n+1+1) t (.agg #[.int .i64 x0,.int .i64 x1,.int .i64 x2,.int .i64 x3,.int .i64 x4,.int .i64 x5]) (.agg #[.int .i64 y0,.int .i64 y1,.int .i64 y2,.int .i64 y3,.int .i64 y4,.int .i64 y5])) H K E=K (x0==y0&&(x1==y1&&(x2==y2&&(x3==y3&&(x4==y4&&(x5==y5)))))) H:=by
 conv=>lhs;unfold Op.equalIn
 simp only [Aqa,Aqj hu,Aq0 hs,Std.Legacy.Range.forIn_eq_forIn_range',Std.Legacy.Range.size]
 simp only [Nat.sub_zero,Nat.add_one_sub_one,Nat.div_one,List.range'_succ,List.range'_zero,List.forIn_cons,List.forIn_nil,Aqa,Aqf]
 simp only [Aqm he rfl (v:=.int .i64 x0) #[.int .i64 x0,.int .i64 x1,.int .i64 x2,.int .i64 x3,.int .i64 x4,.int .i64 x5] (0*1) rfl,Aqm he rfl (v:=.int .i64 x1) #[.int .i64 x0,.int .i64 x1,.int .i64 x2,.int .i64 x3,.int .i64 x4,.int .i64 x5] ((0+1)*1) rfl,Aqm he rfl (v:=.int .i64 x2) #[.int .i64 x0,.int .i64 x1,.int .i64 x2,.int .i64 x3,.int .i64 x4,.int .i64 x5] ((0+1+1)*1) rfl,Aqm he rfl (v:=.int .i64 x3) #[.int .i64 x0,.int .i64 x1,.int .i64 x2,.int .i64 x3,.int .i64 x4,.int .i64 x5] ((0+1+1+1)*1) rfl,Aqm he rfl (v:=.int .i64 x4) #[.int .i64 x0,.int .i64 x1,.int .i64 x2,.int .i64 x3,.int .i64 x4,.int .i64 x5] ((0+1+1+1+1)*1) rfl,Aqm he rfl (v:=.int .i64 x5) #[.int .i64 x0,.int .i64 x1,.int .i64 x2,.int .i64 x3,.int .i64 x4,.int .i64 x5] ((0+1+1+1+1+1)*1) rfl,Aqm he rfl (v:=.int .i64 y0) #[.int .i64 y0,.int .i64 y1,.int .i64 y2,.int .i64 y3,.int .i64 y4,.int .i64 y5] (0*1) rfl,Aqm he rfl (v:=.int .i64 y1) #[.int .i64 y0,.int .i64 y1,.int .i64 y2,.int .i64 y3,.int .i64 y4,.int .i64 y5] ((0+1)*1) rfl,Aqm he rfl (v:=.int .i64 y2) #[.int .i64 y0,.int .i64 y1,.int .i64 y2,.int .i64 y3,.int .i64 y4,.int .i64 y5] ((0+1+1)*1) rfl,Aqm he rfl (v:=.int .i64 y3) #[.int .i64 y0,.int .i64 y1,.int .i64 y2,.int .i64 y3,.int .i64 y4,.int .i64 y5] ((0+1+1+1)*1) rfl,Aqm he rfl (v:=.int .i64 y4) #[.int .i64 y0,.int .i64 y1,.int .i64 y2,.int .i64 y3,.int .i64 y4,.int .i64 y5] ((0+1+1+1+1)*1) rfl,Aqm he rfl (v:=.int .i64 y5) #[.int .i64 y0,.int .i64 y1,.int .i64 y2,.int .i64 y3,.int .i64 y4,.int .i64 y5] ((0+1+1+1+1+1)*1) rfl,Ajj he]
 generalize (x0==y0)=q
 cases q
 ·simp only [Bool.not_false,if_true,Aqf,Bool.false_and]
 simp only [Bool.not_true,Bool.false_eq_true,if_false,Aqf,Aqa,Bool.true_and,Aqm he rfl (v:=.int .i64 x0) #[.int .i64 x0,.int .i64 x1,.int .i64 x2,.int .i64 x3,.int .i64 x4,.int .i64 x5] (0*1) rfl,Aqm he rfl (v:=.int .i64 x1) #[.int .i64 x0,.int .i64 x1,.int .i64 x2,.int .i64 x3,.int .i64 x4,.int .i64 x5] ((0+1)*1) rfl,Aqm he rfl (v:=.int .i64 x2) #[.int .i64 x0,.int .i64 x1,.int .i64 x2,.int .i64 x3,.int .i64 x4,.int .i64 x5] ((0+1+1)*1) rfl,Aqm he rfl (v:=.int .i64 x3) #[.int .i64 x0,.int .i64 x1,.int .i64 x2,.int .i64 x3,.int .i64 x4,.int .i64 x5] ((0+1+1+1)*1) rfl,Aqm he rfl (v:=.int .i64 x4) #[.int .i64 x0,.int .i64 x1,.int .i64 x2,.int .i64 x3,.int .i64 x4,.int .i64 x5] ((0+1+1+1+1)*1) rfl,Aqm he rfl (v:=.int .i64 x5) #[.int .i64 x0,.int .i64 x1,.int .i64 x2,.int .i64 x3,.int .i64 x4,.int .i64 x5] ((0+1+1+1+1+1)*1) rfl,Aqm he rfl (v:=.int .i64 y0) #[.int .i64 y0,.int .i64 y1,.int .i64 y2,.int .i64 y3,.int .i64 y4,.int .i64 y5] (0*1) rfl,Aqm he rfl (v:=.int .i64 y1) #[.int .i64 y0,.int .i64 y1,.int .i64 y2,.int .i64 y3,.int .i64 y4,.int .i64 y5] ((0+1)*1) rfl,Aqm he rfl (v:=.int .i64 y2) #[.int .i64 y0,.int .i64 y1,.int .i64 y2,.int .i64 y3,.int .i64 y4,.int .i64 y5] ((0+1+1)*1) rfl,Aqm he rfl (v:=.int .i64 y3) #[.int .i64 y0,.int .i64 y1,.int .i64 y2,.int .i64 y3,.int .i64 y4,.int .i64 y5] ((0+1+1+1)*1) rfl,Aqm he rfl (v:=.int .i64 y4) #[.int .i64 y0,.int .i64 y1,.int .i64 y2,.int .i64 y3,.int .i64 y4,.int .i64 y5] ((0+1+1+1+1)*1) rfl,Aqm he rfl (v:=.int .i64 y5) #[.int .i64 y0,.int .i64 y1,.int .i64 y2,.int .i64 y3,.int .i64 y4,.int .i64 y5] ((0+1+1+1+1+1)*1) rfl,Ajj he]
 generalize (x1==y1)=q
 cases q
 ·simp only [Bool.not_false,if_true,Aqf,Bool.false_and]
 simp only [Bool.not_true,Bool.false_eq_true,if_false,Aqf,Aqa,Bool.true_and,Aqm he rfl (v:=.int .i64 x0) #[.int .i64 x0,.int .i64 x1,.int .i64 x2,.int .i64 x3,.int .i64 x4,.int .i64 x5] (0*1) rfl,Aqm he rfl (v:=.int .i64 x1) #[.int .i64 x0,.int .i64 x1,.int .i64 x2,.int .i64 x3,.int .i64 x4,.int .i64 x5] ((0+1)*1) rfl,Aqm he rfl (v:=.int .i64 x2) #[.int .i64 x0,.int .i64 x1,.int .i64 x2,.int .i64 x3,.int .i64 x4,.int .i64 x5] ((0+1+1)*1) rfl,Aqm he rfl (v:=.int .i64 x3) #[.int .i64 x0,.int .i64 x1,.int .i64 x2,.int .i64 x3,.int .i64 x4,.int .i64 x5] ((0+1+1+1)*1) rfl,Aqm he rfl (v:=.int .i64 x4) #[.int .i64 x0,.int .i64 x1,.int .i64 x2,.int .i64 x3,.int .i64 x4,.int .i64 x5] ((0+1+1+1+1)*1) rfl,Aqm he rfl (v:=.int .i64 x5) #[.int .i64 x0,.int .i64 x1,.int .i64 x2,.int .i64 x3,.int .i64 x4,.int .i64 x5] ((0+1+1+1+1+1)*1) rfl,Aqm he rfl (v:=.int .i64 y0) #[.int .i64 y0,.int .i64 y1,.int .i64 y2,.int .i64 y3,.int .i64 y4,.int .i64 y5] (0*1) rfl,Aqm he rfl (v:=.int .i64 y1) #[.int .i64 y0,.int .i64 y1,.int .i64 y2,.int .i64 y3,.int .i64 y4,.int .i64 y5] ((0+1)*1) rfl,Aqm he rfl (v:=.int .i64 y2) #[.int .i64 y0,.int .i64 y1,.int .i64 y2,.int .i64 y3,.int .i64 y4,.int .i64 y5] ((0+1+1)*1) rfl,Aqm he rfl (v:=.int .i64 y3) #[.int .i64 y0,.int .i64 y1,.int .i64 y2,.int .i64 y3,.int .i64 y4,.int .i64 y5] ((0+1+1+1)*1) rfl,Aqm he rfl (v:=.int .i64 y4) #[.int .i64 y0,.int .i64 y1,.int .i64 y2,.int .i64 y3,.int .i64 y4,.int .i64 y5] ((0+1+1+1+1)*1) rfl,Aqm he rfl (v:=.int .i64 y5) #[.int .i64 y0,.int .i64 y1,.int .i64 y2,.int .i64 y3,.int .i64 y4,.int .i64 y5] ((0+1+1+1+1+1)*1) rfl,Ajj he]
 generalize (x2==y2)=q
 cases q
 ·simp only [Bool.not_false,if_true,Aqf,Bool.false_and]
 simp only [Bool.not_true,Bool.false_eq_true,if_false,Aqf,Aqa,Bool.true_and,Aqm he rfl (v:=.int .i64 x0) #[.int .i64 x0,.int .i64 x1,.int .i64 x2,.int .i64 x3,.int .i64 x4,.int .i64 x5] (0*1) rfl,Aqm he rfl (v:=.int .i64 x1) #[.int .i64 x0,.int .i64 x1,.int .i64 x2,.int .i64 x3,.int .i64 x4,.int .i64 x5] ((0+1)*1) rfl,Aqm he rfl (v:=.int .i64 x2) #[.int .i64 x0,.int .i64 x1,.int .i64 x2,.int .i64 x3,.int .i64 x4,.int .i64 x5] ((0+1+1)*1) rfl,Aqm he rfl (v:=.int .i64 x3) #[.int .i64 x0,.int .i64 x1,.int .i64 x2,.int .i64 x3,.int .i64 x4,.int .i64 x5] ((0+1+1+1)*1) rfl,Aqm he rfl (v:=.int .i64 x4) #[.int .i64 x0,.int .i64 x1,.int .i64 x2,.int .i64 x3,.int .i64 x4,.int .i64 x5] ((0+1+1+1+1)*1) rfl,Aqm he rfl (v:=.int .i64 x5) #[.int .i64 x0,.int .i64 x1,.int .i64 x2,.int .i64 x3,.int .i64 x4,.int .i64 x5] ((0+1+1+1+1+1)*1) rfl,Aqm he rfl (v:=.int .i64 y0) #[.int .i64 y0,.int .i64 y1,.int .i64 y2,.int .i64 y3,.int .i64 y4,.int .i64 y5] (0*1) rfl,Aqm he rfl (v:=.int .i64 y1) #[.int .i64 y0,.int .i64 y1,.int .i64 y2,.int .i64 y3,.int .i64 y4,.int .i64 y5] ((0+1)*1) rfl,Aqm he rfl (v:=.int .i64 y2) #[.int .i64 y0,.int .i64 y1,.int .i64 y2,.int .i64 y3,.int .i64 y4,.int .i64 y5] ((0+1+1)*1) rfl,Aqm he rfl (v:=.int .i64 y3) #[.int .i64 y0,.int .i64 y1,.int .i64 y2,.int .i64 y3,.int .i64 y4,.int .i64 y5] ((0+1+1+1)*1) rfl,Aqm he rfl (v:=.int .i64 y4) #[.int .i64 y0,.int .i64 y1,.int .i64 y2,.int .i64 y3,.int .i64 y4,.int .i64 y5] ((0+1+1+1+1)*1) rfl,Aqm he rfl (v:=.int .i64 y5) #[.int .i64 y0,.int .i64 y1,.int .i64 y2,.int .i64 y3,.int .i64 y4,.int .i64 y5] ((0+1+1+1+1+1)*1) rfl,Ajj he]
 generalize (x3==y3)=q
 cases q
 ·simp only [Bool.not_false,if_true,Aqf,Bool.false_and]
 simp only [Bool.not_true,Bool.false_eq_true,if_false,Aqf,Aqa,Bool.true_and,Aqm he rfl (v:=.int .i64 x0) #[.int .i64 x0,.int .i64 x1,.int .i64 x2,.int .i64 x3,.int .i64 x4,.int .i64 x5] (0*1) rfl,Aqm he rfl (v:=.int .i64 x1) #[.int .i64 x0,.int .i64 x1,.int .i64 x2,.int .i64 x3,.int .i64 x4,.int .i64 x5] ((0+1)*1) rfl,Aqm he rfl (v:=.int .i64 x2) #[.int .i64 x0,.int .i64 x1,.int .i64 x2,.int .i64 x3,.int .i64 x4,.int .i64 x5] ((0+1+1)*1) rfl,Aqm he rfl (v:=.int .i64 x3) #[.int .i64 x0,.int .i64 x1,.int .i64 x2,.int .i64 x3,.int .i64 x4,.int .i64 x5] ((0+1+1+1)*1) rfl,Aqm he rfl (v:=.int .i64 x4) #[.int .i64 x0,.int .i64 x1,.int .i64 x2,.int .i64 x3,.int .i64 x4,.int .i64 x5] ((0+1+1+1+1)*1) rfl,Aqm he rfl (v:=.int .i64 x5) #[.int .i64 x0,.int .i64 x1,.int .i64 x2,.int .i64 x3,.int .i64 x4,.int .i64 x5] ((0+1+1+1+1+1)*1) rfl,Aqm he rfl (v:=.int .i64 y0) #[.int .i64 y0,.int .i64 y1,.int .i64 y2,.int .i64 y3,.int .i64 y4,.int .i64 y5] (0*1) rfl,Aqm he rfl (v:=.int .i64 y1) #[.int .i64 y0,.int .i64 y1,.int .i64 y2,.int .i64 y3,.int .i64 y4,.int .i64 y5] ((0+1)*1) rfl,Aqm he rfl (v:=.int .i64 y2) #[.int .i64 y0,.int .i64 y1,.int .i64 y2,.int .i64 y3,.int .i64 y4,.int .i64 y5] ((0+1+1)*1) rfl,Aqm he rfl (v:=.int .i64 y3) #[.int .i64 y0,.int .i64 y1,.int .i64 y2,.int .i64 y3,.int .i64 y4,.int .i64 y5] ((0+1+1+1)*1) rfl,Aqm he rfl (v:=.int .i64 y4) #[.int .i64 y0,.int .i64 y1,.int .i64 y2,.int .i64 y3,.int .i64 y4,.int .i64 y5] ((0+1+1+1+1)*1) rfl,Aqm he rfl (v:=.int .i64 y5) #[.int .i64 y0,.int .i64 y1,.int .i64 y2,.int .i64 y3,.int .i64 y4,.int .i64 y5] ((0+1+1+1+1+1)*1) rfl,Ajj he]
 generalize (x4==y4)=q
 cases q
 ·simp only [Bool.not_false,if_true,Aqf,Bool.false_and]
 simp only [Bool.not_true,Bool.false_eq_true,if_false,Aqf,Aqa,Bool.true_and,Aqm he rfl (v:=.int .i64 x0) #[.int .i64 x0,.int .i64 x1,.int .i64 x2,.int .i64 x3,.int .i64 x4,.int .i64 x5] (0*1) rfl,Aqm he rfl (v:=.int .i64 x1) #[.int .i64 x0,.int .i64 x1,.int .i64 x2,.int .i64 x3,.int .i64 x4,.int .i64 x5] ((0+1)*1) rfl,Aqm he rfl (v:=.int .i64 x2) #[.int .i64 x0,.int .i64 x1,.int .i64 x2,.int .i64 x3,.int .i64 x4,.int .i64 x5] ((0+1+1)*1) rfl,Aqm he rfl (v:=.int .i64 x3) #[.int .i64 x0,.int .i64 x1,.int .i64 x2,.int .i64 x3,.int .i64 x4,.int .i64 x5] ((0+1+1+1)*1) rfl,Aqm he rfl (v:=.int .i64 x4) #[.int .i64 x0,.int .i64 x1,.int .i64 x2,.int .i64 x3,.int .i64 x4,.int .i64 x5] ((0+1+1+1+1)*1) rfl,Aqm he rfl (v:=.int .i64 x5) #[.int .i64 x0,.int .i64 x1,.int .i64 x2,.int .i64 x3,.int .i64 x4,.int .i64 x5] ((0+1+1+1+1+1)*1) rfl,Aqm he rfl (v:=.int .i64 y0) #[.int .i64 y0,.int .i64 y1,.int .i64 y2,.int .i64 y3,.int .i64 y4,.int .i64 y5] (0*1) rfl,Aqm he rfl (v:=.int .i64 y1) #[.int .i64 y0,.int .i64 y1,.int .i64 y2,.int .i64 y3,.int .i64 y4,.int .i64 y5] ((0+1)*1) rfl,Aqm he rfl (v:=.int .i64 y2) #[.int .i64 y0,.int .i64 y1,.int .i64 y2,.int .i64 y3,.int .i64 y4,.int .i64 y5] ((0+1+1)*1) rfl,Aqm he rfl (v:=.int .i64 y3) #[.int .i64 y0,.int .i64 y1,.int .i64 y2,.int .i64 y3,.int .i64 y4,.int .i64 y5] ((0+1+1+1)*1) rfl,Aqm he rfl (v:=.int .i64 y4) #[.int .i64 y0,.int .i64 y1,.int .i64 y2,.int .i64 y3,.int .i64 y4,.int .i64 y5] ((0+1+1+1+1)*1) rfl,Aqm he rfl (v:=.int .i64 y5) #[.int .i64 y0,.int .i64 y1,.int .i64 y2,.int .i64 y3,.int .i64 y4,.int .i64 y5] ((0+1+1+1+1+1)*1) rfl,Ajj he]
 generalize (x5==y5)=q
 cases q
 ·simp only [Bool.not_false,if_true,Aqf,Bool.false_and]
 ·simp only [Bool.not_true,Bool.false_eq_true,if_false,Aqf,Aqa,Bool.true_and]
theorem Czj {H:Hp} {t et:TypeId} (hu:P.underlying t=some (.array 6 et)) {d:IntKind} (he:P.underlying et=some (.int d)) (hs:∀w,(sizeOf et).run P w=.ok 1 w) (em:Bool) (n:Nat) (x0 x1 x2 x3 x4 x5:Int) (K:Unit->Hp->Prop) (E:Value->Hp->Prop) :
  wpS P (Instr.checkKey em (n+1+1) t (.agg #[.int .i64 x0,.int .i64 x1,.int .i64 x2,.int .i64 x3,.int .i64 x4,.int .i64 x5])) H K E=K () H:=by
 conv=>lhs;unfold Instr.checkKey
 simp only [Aqa,Aqj hu,Aq0 hs,Std.Legacy.Range.forIn_eq_forIn_range',Std.Legacy.Range.size]
 simp only [Nat.sub_zero,Nat.add_one_sub_one,Nat.div_one,List.range'_succ,List.range'_zero,List.forIn_cons,List.forIn_nil,Aqa,Aqf,Aq0 hs,Aqm he rfl (v:=.int .i64 x0) #[.int .i64 x0,.int .i64 x1,.int .i64 x2,.int .i64 x3,.int .i64 x4,.int .i64 x5] (0*1) rfl,Aqm he rfl (v:=.int .i64 x1) #[.int .i64 x0,.int .i64 x1,.int .i64 x2,.int .i64 x3,.int .i64 x4,.int .i64 x5] ((0+1)*1) rfl,Aqm he rfl (v:=.int .i64 x2) #[.int .i64 x0,.int .i64 x1,.int .i64 x2,.int .i64 x3,.int .i64 x4,.int .i64 x5] ((0+1+1)*1) rfl,Aqm he rfl (v:=.int .i64 x3) #[.int .i64 x0,.int .i64 x1,.int .i64 x2,.int .i64 x3,.int .i64 x4,.int .i64 x5] ((0+1+1+1)*1) rfl,Aqm he rfl (v:=.int .i64 x4) #[.int .i64 x0,.int .i64 x1,.int .i64 x2,.int .i64 x3,.int .i64 x4,.int .i64 x5] ((0+1+1+1+1)*1) rfl,Aqm he rfl (v:=.int .i64 x5) #[.int .i64 x0,.int .i64 x1,.int .i64 x2,.int .i64 x3,.int .i64 x4,.int .i64 x5] ((0+1+1+1+1+1)*1) rfl,Bq1 he]
theorem Bzn (l:List Int) (h:l.length=6):∃x0 x1 x2 x3 x4 x5,l=[x0,x1,x2,x3,x4,x5]:=by
 match l,h with
 | [x0,x1,x2,x3,x4,x5],_=>exact ⟨x0,x1,x2,x3,x4,x5,rfl⟩
def arrV (l:List Int):Value:=.agg (l.map fun x=>Value.int .i64 x).toArray
theorem Bvq {H:Hp} {t et:TypeId} (hu:P.underlying t=some (.array 6 et)) {d:IntKind} (he:P.underlying et=some (.int d)) (hs:∀w,(sizeOf et).run P w=.ok 1 w) (l l':List Int) (hl:l.length=6) (hl':l'.length=6) (K:Value->Hp->Prop) (E:Value->Hp->Prop) :
  wpS P (binOp .neq t (arrV l) (arrV l')) H K E=K (.bool (decide (l≠l'))) H:=by
 obtain ⟨x0,x1,x2,x3,x4,x5,rfl⟩:=Bzn l hl
 obtain ⟨y0,y1,y2,y3,y4,y5,rfl⟩:=Bzn l' hl'
 have hd:decide ([x0,x1,x2,x3,x4,x5]≠[y0,y1,y2,y3,y4,y5]) = !(x0==y0&&(x1==y1&&(x2==y2&&(x3==y3&&(x4==y4&&(x5==y5)))))):=by
  rw [Bool.eq_iff_iff]
  simp
 rw [hd]
 unfold arrV
 simp only [List.map_cons,List.map_nil,binOp]
 rw [Aqa]
 unfold Op.equal Op.maxDepth
 rw [show (10000:Nat)=9998+1+1 from rfl,Bjm hu he hs]
 rfl
structure Dk6 (P:Program) (ks:TypeId):Prop where
 ex:∃(f1 f2:Field) (et:TypeId),P.underlying ks=some (.struct #[f1,f2])/\f1.name ≠ "_" /\f2.name ≠ "_" /\f1.offset=0/\f2.offset=1/\P.underlying f2.type=some (.array 6 et)/\(∀w,(sizeOf f2.type).run P w=.ok 6 w) /\
  (∃d,P.underlying et=some (.int d))/\(∀w,(sizeOf et).run P w=.ok 1 w)/\(∃d,P.underlying f1.type=some (.int d))
 held:P.stoodInHeld ks=false
def K7:Type:={ l:List Int // l.length=7 }
instance:DecidableEq K7:=fun a b=>decidable_of_iff (a.1=b.1) ⟨Subtype.ext,fun h=>congrArg _ h⟩
def K7.enc (k:K7):Value:=.agg (k.1.map fun x=>Value.int .i64 x).toArray
theorem K7.cells (k:K7):∃a x0 x1 x2 x3 x4 x5,k.1=[a,x0,x1,x2,x3,x4,x5]:=by
 obtain ⟨l,hl⟩:=k
 match l,hl with
 | [a,x0,x1,x2,x3,x4,x5],_=>exact ⟨a,x0,x1,x2,x3,x4,x5,rfl⟩
theorem Dvg (h:Dk6 P ks):KeyT P ks K7.enc where
 eq:=fun x y H K E=>by
  obtain ⟨f1,f2,et,hu,hn1,hn2,ho1,ho2,h1,hs1,⟨de,he⟩,hse,⟨d2,h2⟩⟩:=h.ex
  have hh:=h.held
  obtain ⟨a,x0,x1,x2,x3,x4,x5,hx⟩:=x.cells
  obtain ⟨b,y0,y1,y2,y3,y4,y5,hy⟩:=y.cells
  have hdec:decide (x=y)=(a==b&&(x0==y0&&(x1==y1&&(x2==y2&&(x3==y3&&(x4==y4&&(x5==y5))))))):=by
   rw [Bool.eq_iff_iff]
   simp only [decide_eq_true_eq,Bool.and_eq_true,beq_iff_eq]
   constructor
   ·rintro rfl
    rw [hx] at hy
    simp at hy
    obtain ⟨rfl,rfl,rfl,rfl,rfl,rfl,rfl⟩:=hy
    simp
   ·rintro ⟨rfl,rfl,rfl,rfl,rfl,rfl,rfl⟩
    exact Subtype.ext (hx.trans hy.symm)
  rw [hdec]
  unfold K7.enc
  rw [hx,hy]
  simp only [List.map_cons,List.map_nil]
  unfold Op.equal Op.maxDepth
  rw [show (10000:Nat)=9997+1+1+1 from rfl]
  conv=>lhs;unfold Op.equalIn
  simp only [Aqa,Aqj hu,Ajr,hh,Bool.false_eq_true,if_false,Aqf,List.forIn_toArray,List.forIn_cons,List.forIn_nil,hn1,hn2,ne_eq,not_false_eq_true,if_true]
  rw [Aqm h2 rfl (v:=.int .i64 a) _ _ (by simp [ho1]),Aqm h2 rfl (v:=.int .i64 b) _ _ (by simp [ho1]),show (9999:Nat)=9998+1 from rfl,Ajj h2]
  cases a==b
  ·simp only [Bool.not_false,if_true,Aqf,Bool.false_and]
  ·simp only [Bool.not_true,Bool.false_eq_true,if_false,Aqf,Bool.true_and,Aqa]
   rw [Bxp h1 rfl hs1,Bxp h1 rfl hs1,ho2]
   simp only [List.extract_toArray,List.extract_eq_take_drop,List.drop_zero,List.drop_succ_cons,List.take_succ_cons,List.take_zero,Nat.reduceAdd,Nat.reduceSub,Nat.sub_zero]
   rw [show (9999:Nat)=9997+1+1 from rfl,Bjm h1 he hse]
   generalize (x0==y0&&(x1==y1&&(x2==y2&&(x3==y3&&(x4==y4&&(x5==y5))))))=q
   cases q
   ·simp only [Bool.not_false,if_true,Aqf]
   ·simp only [Bool.not_true,Bool.false_eq_true,if_false,Aqf]
 ck:=fun em x H K E=>by
  obtain ⟨f1,f2,et,hu,hn1,hn2,ho1,ho2,h1,hs1,⟨de,he⟩,hse,⟨d2,h2⟩⟩:=h.ex
  obtain ⟨a,x0,x1,x2,x3,x4,x5,hx⟩:=x.cells
  unfold K7.enc
  rw [hx]
  simp only [List.map_cons,List.map_nil]
  rw [show (10000:Nat)=9997+1+1+1 from rfl]
  conv=>lhs;unfold Instr.checkKey
  rw [Aqa,Aqj hu]
  simp only [Aqa,Aqf,List.forIn_toArray,List.forIn_cons,List.forIn_nil,hn1,hn2,ne_eq,not_false_eq_true,if_true]
  rw [Aqm h2 rfl (v:=.int .i64 a) _ _ (by simp [ho1]),show (9999:Nat)=9998+1 from rfl,Bq1 h2,Bxp h1 rfl hs1,ho2]
  simp only [List.extract_toArray,List.extract_eq_take_drop,List.drop_zero,List.drop_succ_cons,List.take_succ_cons,List.take_zero,Nat.reduceAdd,Nat.reduceSub,Nat.sub_zero]
  rw [show (9999:Nat)=9997+1+1 from rfl,Czj h1 he hse]
 un:=by
  obtain ⟨f1,f2,et,hu,_⟩:=h.ex
  exact ⟨_,hu,fun a b=>rfl⟩
 bits:=fun x=>by
  obtain ⟨a,x0,x1,x2,x3,x4,x5,hx⟩:=x.cells
  unfold K7.enc
  rw [hx,show (10000:Nat)=9998+1+1 from rfl]
  simp [Instr.sameBits]
end
end Go.X
end
