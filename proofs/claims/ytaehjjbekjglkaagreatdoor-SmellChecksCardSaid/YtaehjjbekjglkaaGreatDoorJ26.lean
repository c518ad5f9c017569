/- Texts SmFar SmRf SmAr SmX4 SrC. -/
import Derived.Test.YtaehjjbekjglkaaGreatDoorJ25
import Derived.Deep.Slices
import Derived.Deep.Strs
import Derived.Lib.SmallJoins
set_option linter.defProp false
set_option linter.unusedSimpArgs false
set_option linter.unusedVariables false
set_option maxRecDepth 100000
set_option maxHeartbeats 2000000
section
namespace Go.Proofs.YtaehjjbekjglkaaGreatDoor
open Go Go.X
def relaxR (c:List Int) (d:Dr) (t:Int):List Int:=(c.set d.a.toNat (min (gI c d.a) (gI c d.b+t))).set d.b.toNat (min (gI c d.b) (gI c d.a+t))
def roundR:List Dr->List Int->List Int->List Int
 | d::ds,t::ts,c=>roundR ds ts (relaxR c d t)
 | _,_,c=>c
def roundsR (ds:List Dr) (ts:List Int):Nat->List Int->List Int
 | 0,c=>c
 | k+1,c=>roundR ds ts (roundsR ds ts k c)
def from1 (pl p:Int):List Int:=(List.replicate pl.toNat (1000:Int)).set p.toNat 0
def farR (pl:Int) (ds:List Dr) (p:Int) (ts:List Int):List Int:=roundsR ds ts pl.toNat (from1 pl p)
theorem relaxR_len (c:List Int) (d:Dr) (t:Int):(relaxR c d t).length=c.length:=by simp [relaxR]
theorem roundR_len:∀(ds:List Dr) (ts c:List Int),(roundR ds ts c).length=c.length
 | d::ds,t::ts,c=>by
  unfold roundR
  rw [roundR_len ds ts,relaxR_len]
 | [],_,c=>by unfold roundR;rfl
 | _::_,[],c=>by unfold roundR;rfl
theorem gI_relaxR {pl:Int} {d:Dr} (hd:DrOk pl d) {c:List Int} (hl:c.length=pl.toNat) (t:Int) {q:Int} (hq0:0<=q) :
  gI (relaxR c d t) q=if d.b=q then min (gI c d.b) (gI c d.a+t) else if d.a=q then min (gI c d.a) (gI c d.b+t) else gI c q:=by
 have:=hd.a0;have:=hd.a1;have:=hd.b0;have:=hd.b1
 unfold relaxR
 rw [Av5 hd.b0 (by rw [Cvv];omega) hq0]
 split
 ·rfl
 ·rw [Av5 hd.a0 (by omega) hq0]
structure FarOk (E:Int->Int->Int->Prop) (pl p:Int) (c:List Int):Prop where
 len:c.length=pl.toNat
 at0:gI c p=0
 att:∀q,0<=q->q<pl->gI c q=1000∨(gI c q<1000/\Walk E p q (gI c q))
 pos:∀q,0<=q->q<pl->0<=gI c q
theorem FarOk.start (E:Int->Int->Int->Prop) {pl p:Int} (h0:0<=p) (h1:p<pl):FarOk E pl p (from1 pl p):=by
 have hl:∀q,0<=q->q<pl->gI (List.replicate pl.toNat (1000:Int)) q=1000:=fun q h0 h1=>by
  unfold gI
  rw [List.getD,List.getElem?_replicate,if_pos (by omega)]
  rfl
 have hg:∀q,0<=q->q<pl->gI (from1 pl p) q=if p=q then 0 else 1000:=fun q hq0 hq1=>by
  unfold from1
  rw [Av5 h0 (by simp;omega) hq0,hl q hq0 hq1]
 refine ⟨by simp [from1],by rw [hg p h0 h1,if_pos rfl],fun q hq0 hq1=>?_,fun q hq0 hq1=>?_⟩
 ·rw [hg q hq0 hq1]
  split
  ·rename_i h;subst h;exact .inr ⟨by omega,.here⟩
  ·exact .inl rfl
 ·rw [hg q hq0 hq1];split<;>omega
theorem FarOk.one {E:Int->Int->Int->Prop} {pl p:Int} {c:List Int} (h:FarOk E pl p c) {d:Dr} {t:Int} (hd:DrOk pl d) (hE:E d.a d.b t) (hE':E d.b d.a t) (ht:1<=t) (h0:0<=p) (h1:p<pl) :
  FarOk E pl p (relaxR c d t)/\(∀q,0<=q->q<pl->gI (relaxR c d t) q<=gI c q)/\gI (relaxR c d t) d.b<=gI c d.a+t/\gI (relaxR c d t) d.a<=gI c d.b+t:=by
 have:=hd.a0;have:=hd.a1;have:=hd.b0;have:=hd.b1;have hne:=hd.ne
 have hg:=fun q hq0=>gI_relaxR hd h.len t (q:=q) hq0
 have pa:=h.pos d.a hd.a0 hd.a1
 have pb:=h.pos d.b hd.b0 hd.b1
 have p0:=h.at0
 have ha:gI c d.a<=1000:=by rcases h.att d.a hd.a0 hd.a1 with h | h<;>omega
 have hb:gI c d.b<=1000:=by rcases h.att d.b hd.b0 hd.b1 with h | h<;>omega
 have na:min (gI c d.a) (gI c d.b+t)=1000∨(min (gI c d.a) (gI c d.b+t)<1000/\Walk E p d.a (min (gI c d.a) (gI c d.b+t))):=by
  by_cases hlt:gI c d.b+t<gI c d.a
  ·rw [show min (gI c d.a) (gI c d.b+t)=gI c d.b+t by omega]
   rcases h.att d.b hd.b0 hd.b1 with h | ⟨h,hw⟩
   ·omega
   ·exact .inr ⟨by omega,hw.step hE'⟩
  ·rw [show min (gI c d.a) (gI c d.b+t)=gI c d.a by omega]
   exact h.att d.a hd.a0 hd.a1
 have nb:min (gI c d.b) (gI c d.a+t)=1000∨(min (gI c d.b) (gI c d.a+t)<1000/\Walk E p d.b (min (gI c d.b) (gI c d.a+t))):=by
  by_cases hlt:gI c d.a+t<gI c d.b
  ·rw [show min (gI c d.b) (gI c d.a+t)=gI c d.a+t by omega]
   rcases h.att d.a hd.a0 hd.a1 with h | ⟨h,hw⟩
   ·omega
   ·exact .inr ⟨by omega,hw.step hE⟩
  ·rw [show min (gI c d.b) (gI c d.a+t)=gI c d.b by omega]
   exact h.att d.b hd.b0 hd.b1
 refine ⟨⟨by rw [relaxR_len];exact h.len,?_,fun q hq0 hq1=>?_,fun q hq0 hq1=>?_⟩,fun q hq0 hq1=>?_,?_,?_⟩
 ·rw [hg p h0]
  split
  ·rename_i e;subst e;omega
  ·split
   ·rename_i e;subst e;omega
   ·exact p0
 ·rw [hg q hq0]
  split
  ·rename_i e;subst e;exact nb
  ·split
   ·rename_i e;subst e;exact na
   ·exact h.att q hq0 hq1
 ·rw [hg q hq0]
  split
  ·omega
  ·split
   ·omega
   ·exact h.pos q hq0 hq1
 ·rw [hg q hq0]
  split
  ·rename_i e;subst e;omega
  ·split
   ·rename_i e;subst e;omega
   ·omega
 ·rw [hg d.b hd.b0,if_pos rfl];omega
 ·rw [hg d.a hd.a0,if_neg (Ne.symm hne),if_pos rfl];omega
theorem FarOk.round {E:Int->Int->Int->Prop} {pl p:Int} (h0:0<=p) (h1:p<pl):∀ {ds:List Dr} {ts c:List Int},(∀d∈ds,DrOk pl d)->(∀a b n,Edg ds ts a b n->E a b n/\1<=n)->FarOk E pl p c ->
  FarOk E pl p (roundR ds ts c)/\(∀q,0<=q->q<pl->gI (roundR ds ts c) q<=gI c q)/\∀a b n,Edg ds ts a b n->gI (roundR ds ts c) b<=gI c a+n
 | d::ds,t::ts,c,hd,hE,h=>by
  have e1:=hE d.a d.b t (.inl ⟨rfl,.inl ⟨rfl,rfl⟩⟩)
  have e2:=hE d.b d.a t (.inl ⟨rfl,.inr ⟨rfl,rfl⟩⟩)
  have hdk:=hd d List.mem_cons_self
  obtain ⟨k1,k2,k3,k4⟩:=h.one hdk e1.1 e2.1 e1.2 h0 h1
  obtain ⟨r1,r2,r3⟩:=FarOk.round h0 h1 (ds:=ds) (ts:=ts) (fun d' hm=>hd d' (List.mem_cons_of_mem _ hm)) (fun a b n he=>hE a b n (.inr he)) k1
  unfold roundR
  refine ⟨r1,fun q hq0 hq1=>Int.le_trans (r2 q hq0 hq1) (k2 q hq0 hq1),fun a b n he=>?_⟩
  rcases he with ⟨rfl,⟨rfl,rfl⟩ | ⟨rfl,rfl⟩⟩ | he
  ·exact Int.le_trans (r2 _ hdk.b0 hdk.b1) k3
  ·exact Int.le_trans (r2 _ hdk.a0 hdk.a1) k4
  ·obtain ⟨i,d',g1,_,g3⟩:=he.ix
   have hk':=hd d' (List.mem_cons_of_mem _ (List.mem_of_getElem? g1))
   have ha:0<=a/\a<pl:=by
    rcases g3 with ⟨rfl,rfl⟩ | ⟨rfl,rfl⟩
    ·exact ⟨hk'.a0,hk'.a1⟩
    ·exact ⟨hk'.b0,hk'.b1⟩
   have:=r3 a b n he
   have:=k2 a ha.1 ha.2
   omega
 | [],ts,c,_,_,h=>by
  unfold roundR
  exact ⟨h,fun _ _ _=>Int.le_refl _,fun a b n he=>by cases ts<;>exact he.elim⟩
 | _::_,[],c,_,_,h=>by
  unfold roundR
  exact ⟨h,fun _ _ _=>Int.le_refl _,fun a b n he=>he.elim⟩
def rankG (g:Int->Int) (n:Nat) (q:Int):Nat:=((List.range n).filter fun r=>decide (g (r:Nat)<g q)).length
theorem filter_less {α:Type} {p q:α->Bool}:∀ {l:List α},(∀x∈l,p x=true->q x=true)->(∃x∈l,q x=true/\p x=false)->(l.filter p).length<(l.filter q).length
 | [],_,⟨x,hx,_⟩=>by cases hx
 | a::l,h,⟨x,hx,h1,h2⟩=>by
  have hle:(l.filter p).length<=(l.filter q).length:=by
   have h':=fun x hx=>h x (List.mem_cons_of_mem a hx)
   clear h hx h1 h2 x
   induction l with
   | nil=>exact Nat.le_refl _
   | cons b l ih=>
    have ih':=ih fun x hx=>h' x (List.mem_cons_of_mem _ hx)
    have hb:=h' b List.mem_cons_self
    rw [List.filter_cons,List.filter_cons]
    split
    ·rw [if_pos (hb (by assumption))]
     simp only [List.length_cons]
     omega
    ·split
     ·simp only [List.length_cons]
      omega
     ·exact ih'
  rw [List.filter_cons,List.filter_cons]
  rcases List.mem_cons.1 hx with rfl | hx
  ·rw [if_neg (by rw [h2];decide),if_pos h1]
   simp only [List.length_cons]
   omega
  ·have ih:=filter_less (fun x hx=>h x (List.mem_cons_of_mem a hx)) ⟨x,hx,h1,h2⟩
   have ha:=h a List.mem_cons_self
   split
   ·rw [if_pos (ha (by assumption))]
    simp only [List.length_cons]
    omega
   ·split
    ·simp only [List.length_cons]
     omega
    ·exact ih
theorem rank_lt {g:Int->Int} {n:Nat} {a q:Int} (h0:0<=a) (h1:a<n) (h:g a<g q):rankG g n a<rankG g n q:=
 filter_less (fun x _ hx=>by
  have:=of_decide_eq_true hx
  exact decide_eq_true (by omega)) ⟨a.toNat,List.mem_range.2 (by omega),by rw [Int.toNat_of_nonneg h0];exact decide_eq_true h,by rw [Int.toNat_of_nonneg h0];exact decide_eq_false (by omega)⟩
theorem rank_max {g:Int->Int} {n:Nat} {q:Int} (h0:0<=q) (h1:q<n):rankG g n q<n:=by
 have:=filter_less (l:=List.range n) (p:=fun r:Nat=>decide (g (r:Nat)<g q)) (q:=fun _=>true) (fun _ _ _=>rfl) ⟨q.toNat,List.mem_range.2 (by omega),rfl,by rw [Int.toNat_of_nonneg h0];exact decide_eq_false (by omega)⟩
 rw [List.filter_eq_self.2 (fun _ _=>rfl),List.length_range] at this
 exact this
theorem far_rounds {pl p:Int} {ds:List Dr} {ts g:List Int} (hp:pl<=6) (h0:0<=p) (h1:p<pl) (hd:Avx pl ds) (ht:TsOk ds ts) (hg:Aw2 (Edg ds ts) p g):∀k:Nat,FarOk (Edg ds ts) pl p (roundsR ds ts k (from1 pl p))/\∀q,0<=q->q<pl->gI g q<99->rankG (gI g) pl.toNat q<=k->gI (roundsR ds ts k (from1 pl p)) q=gI g q
  | 0=>by
    refine ⟨FarOk.start _ h0 h1,fun q hq0 hq1 hq hr=>?_⟩
    have hq':q=p:=Classical.byContradiction fun hne=>by
      have h3:1<=gI g q:=by
        rcases hg.att q hq0 (by omega) with h | ⟨_,hw⟩
        · omega
        · have key:∀m,Walk (Edg ds ts) p q m->1<=m:=fun m hw=>by
            cases hw with
            | here=>exact absurd rfl hne
            | @step a b n t hw he=>
              have:=(ht _ _ _ he).1
              have:=hg.pos a (Edg.place hd he).1.1 (by have:=(Edg.place hd he).1.2;omega)
              have:=hw.ge hg.rel
              rw [hg.at0] at this
              omega
          exact key _ hw
      have:=rank_lt (g:=gI g) (n:=pl.toNat) (a:=p) (q:=q) h0 (by omega) (by rw [hg.at0];omega)
      omega
    subst hq'
    rw [hg.at0]
    exact (FarOk.start (Edg ds ts) h0 h1).at0
  | k+1=>by
    obtain ⟨f1,f2⟩:=far_rounds hp h0 h1 hd ht hg k
    obtain ⟨r1,r2,r3⟩:=FarOk.round h0 h1 hd (fun a b n he=>⟨he,(ht a b n he).1⟩) f1
    refine ⟨r1,fun q hq0 hq1 hq hr=>?_⟩
    show gI (roundR ds ts (roundsR ds ts k (from1 pl p))) q=_
    have hlow:gI g q<=gI (roundR ds ts (roundsR ds ts k (from1 pl p))) q:=by
      rcases r1.att q hq0 hq1 with h | ⟨_,hw⟩
      · omega
      · have:=hw.ge hg.rel
        rw [hg.at0] at this
        omega
    refine Int.le_antisymm ?_ hlow
    rcases hg.att q hq0 (by omega) with h | ⟨_,hw⟩
    · omega
    · have key:∀m,Walk (Edg ds ts) p q m->gI g q=m->gI (roundR ds ts (roundsR ds ts k (from1 pl p))) q<=gI g q:=fun m hw hn=>by
       cases hw with
       | here=>
        rw [r1.at0]
        omega
       | @step a b n t hw he=>
        have hpa:=(Edg.place hd he).1
        have ht1:=(ht _ _ _ he).1
        have hga:=hw.ge hg.rel
        rw [hg.at0] at hga
        have hra:=rank_lt (g:=gI g) (n:=pl.toNat) (a:=a) (q:=q) hpa.1 (by omega) (by omega)
        have e:=f2 a hpa.1 hpa.2 (by omega) (by omega)
        have:=r3 a q t he
        omega
      exact key _ hw rfl
theorem farR_len (pl:Int) (ds:List Dr) (p:Int) (ts:List Int):(farR pl ds p ts).length=pl.toNat:=by
 unfold farR
 have:∀k,(roundsR ds ts k (from1 pl p)).length=pl.toNat:=fun k=>by
  induction k with
  | zero=>simp [roundsR,from1]
  | succ k ih=>unfold roundsR;rw [roundR_len];exact ih
 exact this _
theorem farR_is {s:Sm} (ok:SmOk s) {p:Int} (h0:0<=p) (h1:p<s.places) {ts:List Int} (ht:ts∈Ax1 s.doors) {q:Int} (q0:0<=q) (q1:q<s.places) :
  gI (farR s.places s.doors p ts) q=if gI (Axk s.doors p (pad6 ts)) q=99 then 1000 else gI (Axk s.doors p (pad6 ts)) q:=by
 have hE:∀a b n,Edg s.doors (pad6 ts) a b n↔Edg s.doors ts a b n:=fun a b n=>by unfold pad6;exact Cjy (Ake ht) _
 have hd:=Bko ok h0 h1 ht
 have hto:=Akn (pl:=s.places) ok.dk ht
 have h6:=ok.p1
 have hto':TsOk s.doors ts:=fun a b n he=>hto a b n ((hE a b n).2 he)
 have hg:Aw2 (Edg s.doors ts) p (Axk s.doors p (pad6 ts)):=⟨hd.len,hd.at0,fun q a b=>(hd.att q a b).imp id fun h=>⟨h.1,h.2.map id fun a b t he=>(hE a b t).1 he⟩,hd.pos,fun a b n he=>hd.rel a b n ((hE a b n).2 he)⟩
 obtain ⟨f1,f2⟩:=far_rounds h6 h0 h1 ok.dk hto' hg s.places.toNat
 unfold farR
 split
 ·rename_i h99
  rcases f1.att q q0 q1 with h | ⟨_,hw⟩
  ·exact h
  ·have:=hg.walk h6 ok.dk hto' h0 (by omega) hw
   omega
 ·rename_i h99
  have hlt:gI (Axk s.doors p (pad6 ts)) q<99:=by
   rcases hg.att q q0 (by omega) with h | h
   ·exact absurd h h99
   ·exact h.1
  exact f2 q q0 q1 hlt (Nat.le_of_lt (rank_max q0 (by omega)))
theorem rea_ref {s:Sm} (ok:SmOk s) {a b:Int} (a0:0<=a) (a1:a<s.places) (b0:0<=b) (b1:b<s.places) :
  reaE s a b=if gI (farR s.places s.doors a (s.doors.map Dr.mn)) b=1000 then (0,0,11) else (gI (farR s.places s.doors a (s.doors.map Dr.mn)) b,gI (farR s.places s.doors a (s.doors.map Dr.mx)) b,0):=by
 have e1:=farR_is ok a0 a1 (Dja (pl:=s.places) ok.dk) b0 b1
 have e2:=farR_is ok a0 a1 (Djb (pl:=s.places) ok.dk) b0 b1
 rcases rea_cases ok a0 a1 b0 b1 with ⟨h1,h2,h3⟩ | ⟨h1,h2,h3⟩
 ·rw [h1,e1,if_pos (show gI (Axk s.doors a (pad6 (s.doors.map Dr.mn))) b=99 from h3),if_pos rfl]
 ·have h2':¬gI (Axk s.doors a (pad6 (s.doors.map Dr.mx))) b=99:=fun e=>by
   have h:gI (Axk s.doors a (pad6 (s.doors.map Dr.mx))) b<99:=h2
   omega
  have h3':gI (Axk s.doors a (pad6 (s.doors.map Dr.mn))) b<99:=h3
  rw [h1,e1,e2,if_neg h2',if_neg (show ¬gI (Axk s.doors a (pad6 (s.doors.map Dr.mn))) b=99 by omega),if_neg (by omega)]
  rfl
end Go.Proofs.YtaehjjbekjglkaaGreatDoor
end
section
namespace Go.Proofs.YtaehjjbekjglkaaGreatDoor
open Go Go.X Go.ChangeShapes Go.WideShapes Go.RowKit Go.Deep Go.Joins Go.Proofs.Tryz
section
variable {H:Type} {enc:TypeId×Value->H} {P:Program} {W:World} {sp:Nat->Bool} {held:Bool}
theorem cells_spot {a:Addr} {sz:Nat} {r:List Value} (hsz:0<sz) (h:W.cells? 0 (a.add 0) sz=some r):a.spot=none:=by
 obtain ⟨_,hlen,hcell⟩:=World.cells?_some h
 have h0:=hcell 0 hsz
 rw [List.getElem?_eq_getElem (by omega)] at h0
 have:=World.cell?_spot h0
 simpa [Addr.add] using this
theorem cells_at {b off k sz:Nat} {r:List Value} (hsz:0<sz) (h:W.cells? 0 ((⟨b,off,none⟩:Addr).add k) sz=some r):r.length=sz/\∃c e fr,W.heap[b]?=some (.cells c e fr)/\off+k+sz<=c.size/\c.extract (off+k) (off+k+sz)=r.toArray:=by
 obtain ⟨_,hlen,hcell⟩:=World.cells?_some h
 have h0:=hcell 0 hsz
 have hr0:∃v,r[0]?=some v:=⟨_,List.getElem?_eq_getElem (by omega)⟩
 obtain ⟨v0,hv0⟩:=hr0
 rw [hv0] at h0
 rw [add_plain,add_plain] at h0
 have hb:∃c e fr,W.heap[b]?=some (.cells c e fr):=by
  unfold World.cell? at h0
  split at h0
  ·rename_i c e fr hb
   exact ⟨c,e,fr,hb⟩
  ·cases h0
 obtain ⟨c,e,fr,hb⟩:=hb
 have hc:∀i,i<sz->c[off+k+i]?=r[i]?:=fun i hi=>by
  have h1:=hcell i hi
  rw [add_plain,add_plain] at h1
  unfold World.cell? at h1
  simp only [hb] at h1
  simpa using h1
 have hsize:off+k+sz<=c.size:=by
  have h1:=hc (sz-1) (by omega)
  rw [List.getElem?_eq_getElem (show sz-1<r.length by omega)] at h1
  have:=(Array.getElem?_eq_some_iff.1 h1).1
  omega
 refine ⟨hlen,c,e,fr,hb,hsize,?_⟩
 apply Array.ext_getElem?
 intro i
 rw [Array.getElem?_extract]
 by_cases hi:i<sz
 ·rw [if_pos (by omega),List.getElem?_toArray]
  simpa using hc i hi
 ·rw [if_neg (by omega),List.getElem?_toArray,List.getElem?_eq_none (by omega)]
theorem open_rows {α:Type} [Inhabited α] {te e:TypeId} {sz fuel:Nat} {f:α->List Value} {v:Value} {x:DataW H×List MemPlace} (ht:P.underlying te=some (.slice e)) (hc:P.cellsOf e=sz) (hsz:0<sz)
  (hel:∀n cs y,DataW.trod enc P W 0 sp held n e cs=some y->∃r:α,cs=f r) (h:DataW.trod enc P W 0 sp held fuel te [v]=some x):∃rows:List α,RdG sz (Ays W) v (rows.map f):=by
 rcases open_slice ht h with ⟨hcs,_⟩ | ⟨a,len,cap,m,n,D,Pl,hcs,hb,hl,hm,hmm,_,hx⟩
 ·simp only [List.cons.injEq,and_true] at hcs
  subst hcs
  exact ⟨[],none,0,rfl,Nat.le_refl _,fun i r h=>by simp at h⟩
 ·simp only [List.cons.injEq,and_true] at hcs
  subst hcs
  have hlm:len<=m:=by rw [hmm];split<;>omega
  obtain ⟨R,hR⟩:=choose_lt (α:=α) (p:=fun i r=>W.cells? 0 (a.add (i*sz)) sz=some (f r)) (n:=len) (fun i hi=>by
   obtain ⟨cs',h1,h2⟩:=hx i (by omega)
   rw [hc] at h1
   obtain ⟨r,rfl⟩:=hel _ _ _ h2
   exact ⟨r,h1⟩)
  refine ⟨(List.range len).map R,some a,cap,by simp,by simpa using hl,fun i r hr=>?_⟩
  have hil:i<len:=by simpa using (List.getElem?_eq_some_iff.1 hr).1
  have hri:r=f (R i):=by
   rw [List.getElem?_map,List.getElem?_map,List.getElem?_range hil] at hr
   exact (Option.some.inj hr).symm
  subst hri
  have hs0:=cells_spot hsz (by have h0:=hR 0 (by omega);rwa [Nat.zero_mul] at h0)
  obtain ⟨b,o,spot⟩:=a
  simp only at hs0
  subst hs0
  obtain ⟨h1,c,e',fr,h2,h3,h4⟩:=cells_at hsz (hR i hil)
  exact ⟨b,o,false,c,e',fr,rfl,by unfold Ays;rw [h2];rfl,h3,h1,h4⟩
end
theorem cellsDoor:Tryz.prog.cellsOf 30=4:=by kernel_rfl
theorem cellsNose:Tryz.prog.cellsOf 32=3:=by kernel_rfl
theorem cellsBand:Tryz.prog.cellsOf 28=2:=by kernel_rfl
theorem cellsSmell:Tryz.prog.cellsOf 26=4:=by kernel_rfl
theorem cellsBool:Tryz.prog.cellsOf 4=1:=by kernel_rfl
theorem cellsDs:Tryz.prog.cellsOf 22=1:=by kernel_rfl
theorem cellsIs:Tryz.prog.cellsOf 23=1:=by kernel_rfl
theorem cellsNs:Tryz.prog.cellsOf 24=1:=by kernel_rfl
section
variable {H:Type} {enc:TypeId×Value->H} {W:World} {sp:Nat->Bool} {held:Bool}
theorem one_int {n:Nat} {c:Value} {x:DataW H×List MemPlace} (h:DataW.trod enc Tryz.prog W 0 sp held n 3 [c]=some x):∃k:Int,c=.int .i64 k:=by
 obtain ⟨m,h1,_,_⟩:=DataW.trod_int underlying3 h
 exact ⟨m,by simpa using h1⟩
instance:Inhabited Dr:=⟨⟨0,0,0,0⟩⟩
instance:Inhabited Ns:=⟨⟨0,0,false⟩⟩
theorem open_dr {n:Nat} {cs:List Value} {x:DataW H×List MemPlace} (h:DataW.trod enc Tryz.prog W 0 sp held n 30 cs=some x):∃d:Dr,cs=Bx4 d:=by
 obtain ⟨y0,y1,y2,n',_,hl,t0,t1,t2⟩:=trod_struct3 underlying30 h
 rw [cellsDoor] at hl
 match cs,hl with
 | [c0,c1,c2,c3],_=>
  simp only [cellsK,cellsBand,List.drop,List.take] at t0 t1 t2
  obtain ⟨z0,z1,m,_,_,u0,u1⟩:=trod_struct2 underlying28 t2
  simp only [cellsK,List.drop,List.take] at u0 u1
  obtain ⟨k0,rfl⟩:=one_int t0
  obtain ⟨k1,rfl⟩:=one_int t1
  obtain ⟨k2,rfl⟩:=one_int u0
  obtain ⟨k3,rfl⟩:=one_int u1
  exact ⟨⟨k0,k1,k2,k3⟩,rfl⟩
theorem open_ns {n:Nat} {cs:List Value} {x:DataW H×List MemPlace} (h:DataW.trod enc Tryz.prog W 0 sp held n 32 cs=some x):∃d:Ns,cs=Bzf d:=by
 obtain ⟨y0,y1,y2,n',_,hl,t0,t1,t2⟩:=trod_struct3 underlying32 h
 rw [cellsNose] at hl
 match cs,hl with
 | [c0,c1,c2],_=>
  simp only [cellsK,cellsBool,List.drop,List.take] at t0 t1 t2
  obtain ⟨k0,rfl⟩:=one_int t0
  obtain ⟨k1,rfl⟩:=one_int t1
  obtain ⟨k2,hk,_⟩:=DataW.trod_bool underlying4 t2
  simp only [List.cons.injEq,and_true] at hk
  subst hk
  exact ⟨⟨k0,k1,k2⟩,rfl⟩
theorem open_is {n:Nat} {v:Value} {x:DataW H×List MemPlace} (h:DataW.trod enc Tryz.prog W 0 sp held n 23 [v]=some x):∃xs:List Int,RdI (Ays W) v xs:=by
 obtain ⟨xs,a,cap,h1,h2,h3⟩:=open_rows (α:=Int) (f:=fun k=>[.int .i64 k]) underlying23 cellsK (by decide) (fun n cs y hy=>by
  obtain ⟨m,h1,_,_⟩:=DataW.trod_int underlying3 hy
  exact ⟨m,h1⟩) h
 refine ⟨xs,a,cap,by simpa using h1,by simpa using h2,fun i x hx=>?_⟩
 obtain ⟨b,o,p,c,e,fr,g1,g2,g3,g4,g5⟩:=h3 i [.int .i64 x] (by rw [List.getElem?_map,hx];rfl)
 exact ⟨b,o,p,c,e,fr,g1,g2,by
  have:=Bxk (k:=0) g5 g3 rfl
  simpa using this⟩
theorem open_sm {v:Value} {d:DataW H} {ps:List MemPlace} (h:DataW.Trod enc Tryz.prog W 0 sp held 26 v d ps) (hv:∃cs,v=.agg cs):∃(s:Sm) (dv hv nv:Value),v=smV s.places dv hv nv/\RsS (Ays W) dv hv nv s:=by
 obtain ⟨cs,rfl⟩:=hv
 obtain ⟨n,h⟩:=h
 obtain ⟨y0,y1,y2,y3,n',_,hl,t0,t1,t2,t3⟩:=trod_struct4 underlying26 h
 rw [cellsSmell] at hl
 obtain ⟨cs⟩:=cs
 simp only [Value.cells] at hl t0 t1 t2 t3
 match cs,hl with
 | [c0,c1,c2,c3],_=>
  simp only [cellsK,cellsDs,cellsIs,cellsNs,List.drop,List.take] at t0 t1 t2 t3
  obtain ⟨k0,rfl⟩:=one_int t0
  obtain ⟨ds,hds⟩:=open_rows (f:=Bx4) underlying22 cellsDoor (by decide) (fun n cs y hy=>open_dr hy) t1
  obtain ⟨hs,hhs⟩:=open_is t2
  obtain ⟨ns,hns⟩:=open_rows (f:=Bzf) underlying24 cellsNose (by decide) (fun n cs y hy=>open_ns hy) t3
  exact ⟨⟨k0,ds,hs,ns⟩,c1,c2,c3,rfl,hds,hhs,hns⟩
end
end Go.Proofs.YtaehjjbekjglkaaGreatDoor
end
section
namespace Go.Proofs.YtaehjjbekjglkaaGreatDoor
open Go Go.X Go.Proofs.Tryz
def y17_177:=aN @Dwi (aN @Dw2 (aN @Aya (aN @Dwj (aN @Dwz (aN @Dv4 (aN @Dyo (aN @Dyb (aN @Dyz (aN @Dyj (aN @Dw9 (aN @Dzb (aN @Dwk (aN @Dw0 (aN @Dv5 (aN @Dyp (aN @Dzc (aN @Dzd (aN @Dwl (aN @Dw1 (aN @Dv6 (aN @Dyq (aN @Dyc (aN @Dy0 (aN @Dyk (aN @Dze (aN @Ckn (aN @Dzy (aN (fun H=>Bw7 (H:=H) underlying90) (aN (fun H=>Bkb (H:=H) underlying90) (aN (fun H=>Bw8 (H:=H) underlying90) (aN (fun H=>Bkd (H:=H) underlying90) @Dzf)))))))))))))))))))))))))))))))
def RdD (H:Hp) (v:Value) (ds:List Dr):Prop:=RdG 4 H v (ds.map Bx4)
def RdN (H:Hp) (v:Value) (ns:List Ns):Prop:=RdG 3 H v (ns.map Bzf)
theorem RdD.le {H H':Hp} {v:Value} {ds:List Dr} (h:RdD H v ds) (hl:H.le H'):RdD H' v ds:=RdG.le h hl
theorem RdN.le {H H':Hp} {v:Value} {ns:List Ns} (h:RdN H v ns) (hl:H.le H'):RdN H' v ns:=RdG.le h hl
theorem RdD.get {H:Hp} {a:Option Addr} {n cap:Nat} {ds:List Dr} (h:RdD H (.slice a n cap) ds) {i:Nat} {d:Dr} (hd:ds[i]?=some d) :
  ∃b o p c ee fr,a=some ⟨b,o,none⟩/\H b=some (p,.cells c ee fr)/\o+i*4+4<=c.size/\c.extract (o+i*4) (o+i*4+4)=#[.int .i64 d.a,.int .i64 d.b,.int .i64 d.mn,.int .i64 d.mx]:=by
 obtain ⟨b,o,p,c,ee,fr,h1,h2,h3,h4,h5⟩:=RdG.get h (i:=i) (r:=Bx4 d) (by simp [hd])
 exact ⟨b,o,p,c,ee,fr,h1,h2,h3,h5⟩
theorem RdN.get {H:Hp} {a:Option Addr} {n cap:Nat} {ns:List Ns} (h:RdN H (.slice a n cap) ns) {i:Nat} {d:Ns} (hd:ns[i]?=some d) :
  ∃b o p c ee fr,a=some ⟨b,o,none⟩/\H b=some (p,.cells c ee fr)/\o+i*3+3<=c.size/\c.extract (o+i*3) (o+i*3+3)=#[.int .i64 d.pl,.int .i64 d.hr,.bool d.sm]:=by
 obtain ⟨b,o,p,c,ee,fr,h1,h2,h3,h4,h5⟩:=RdG.get h (i:=i) (r:=Bzf d) (by simp [hd])
 exact ⟨b,o,p,c,ee,fr,h1,h2,h3,h5⟩
theorem smCheck_rd (main:Md) (H:Hp) (s:Sm) (dv hv nv:Value) (hs:RsS H dv hv nv s) (he:ErrS H) (hl1:s.doors.length<=1000) (hl2:s.hampers.length<=1000) (hl3:s.noses.length<=1000) :
  FnX Tryz.prog main 17 #[smV s.places dv hv nv] H fun e H'=>e=.returned (.int .i64 (chkS s))/\H.le H':=by
 obtain ⟨Z,hZ⟩:∃Z,Z=chkS s:=⟨_,rfl⟩
 rw [<-hZ]
 obtain ⟨da,dc,ha,kc,na,nc,rfl,rfl,rfl,-,-,-⟩:=hs.forms
 have hsD:RdD H _ s.doors:=hs.dd
 have hsH:RdI H _ s.hampers:=hs.hh
 have hsN:RdN H _ s.noses:=hs.nn
 unfold chkS at hZ
 replace hZ:Aqk _:=hZ
 clear hs
 refine Aqn func17 rfl ntmps17 (by simp) ?_
 (refine @unH _ (zA y17_177 ?_);(try clear hK K);intro K hK hc)
 (intro sb hsb;generalize hG:Hp.set _ sb _=H1;have lH1:=Aqc hG hsb;have vsb:=Aqb hG;clear hG)
 replace hsD:=hsD.le lH1
 replace hsH:=hsH.le lH1
 replace hsN:=hsN.le lH1
 replace he:=he.le lH1
 (refine @unH _ (zU y17_177 ?_);(try clear hK K);intro K hK hc)
 refine (Axj main H1 s.places 1 6).runs.mono ?_
 rintro _ _ ⟨rfl,hQ⟩
 rw [hQ]
 clear hQ
 by_cases hpl:s.places<1∨6<s.places
 ·obtain rfl:Z=1:=by have h:=(show Z=_ from hZ);rwa [if_pos hpl] at h
  rw [show (decide (s.places<1)||decide (6<s.places))=true by simpa using hpl]
  clear hpl hZ
  (refine @unH _ (zU y17_177 ?_);(try clear hK K);intro K hK hc)
  (refine @unH _ ?_;refine z9 results17 ?_)
  exact ⟨trivial,lH1⟩
 rw [show (decide (s.places<1)||decide (6<s.places))=false by simp;omega]
 have hY:=(show Z=_ from hZ)
 clear hZ
 rw [if_neg hpl] at hY
 unfold chkS1 at hY
 have hp1:1<=s.places:=by omega
 have hp6:s.places<=6:=by omega
 clear hpl
 by_cases hd6:6<s.doors.length
 ·obtain rfl:Z=6:=by rwa [if_pos hd6] at hY
  have hd6':(6:Int)<s.doors.length:=by omega
  clear hd6 hY
  (refine @unH _ (zU y17_177 ?_);(try clear hK K);intro K hK hc)
  (refine @unH _ ?_;refine z9 results17 ?_)
  exact ⟨trivial,lH1⟩
 rw [if_neg hd6] at hY
 have hd6':¬(6:Int)<s.doors.length:=by omega
 replace hY:Aqk _:=hY
 clear hd6
 (refine @unH _ (zU y17_177 ?_);(try clear hK K);intro K hK hc)
 refine Axg (fun w a' H'=>∃e,∃k:Nat,w=s.doors.length-k/\k<=s.doors.length/\a'=act 83 e []/\e 1=.pointer (some ⟨sb,0,none⟩)/\e 21=.slice da s.doors.length dc/\e 22=.int .i64 s.doors.length/\e 23=.int .i64 (k:Nat)/\H1.le H'/\Aqk (Z=orE (sfirstC (sdoorC s.places) (s.doors.drop k)) (chkS2 s))) (n:=s.doors.length) ?_ ?_
 ·exact ⟨_,0,by omega,by omega,rfl,rfl,rfl,rfl,rfl,Hp.le_refl _,hY⟩
 rename_i eold
 clear eold hY hd6'
 rintro w a' H2 ⟨e,k,rfl,hk',rfl,e1,e21,e22,e23,l12,hY⟩
 have vs2:=l12 _ _ vsb
 by_cases hlt:k<s.doors.length
 ·obtain ⟨b,o,p,c,ee,fr,rfl,hb,hcs,hce⟩:=hsD.get (List.getElem?_eq_getElem hlt)
  have hdk:=sfirstC_drop (f:=sdoorC s.places) (List.getElem?_eq_getElem hlt)
  generalize s.doors[k]=d at *
  have hb2:=l12 _ _ hb
  replace hdk:Aqk _:=hdk
  clear hb hsD
  (refine @unH _ (zA y17_177 ?_);(try clear hK K);intro K hK hc)
  intro ab hab
  have nsb:=Aqr vs2 hab
  (refine @unH _ (zU y17_177 ?_);(try clear hK K);intro K hK hc)
  generalize hG:Hp.set _ ab _=H3
  have vs3:=Aqi hG vs2 nsb
  have l13:=Hp.le_trans l12 (Aqc hG hab)
  clear vs2 hb2 hab hG
  refine (sdoorC_raw main H3 s.places (.slice _ _ _) (.slice _ _ _) (.slice _ _ _) d hp1 hp6 rfl rfl rfl).runs.mono ?_
  rintro _ H4 ⟨rfl,lH4⟩
  have l14:=Hp.le_trans l13 lH4
  clear lH4 vs3 hce hcs
  have hq:=(show Z=_ from hY)
  rw [show sfirstC _ _=_ from hdk] at hq
  clear hY hdk
  generalize sdoorC s.places d=y at *
  by_cases hy:y=0
  ·subst hy
   replace hq:Aqk _:=hq
   (refine @unH _ (zU y17_177 ?_);(try clear hK K);intro K hK hc)
   exact ⟨_,by omega,_,k+1,rfl,by omega,rfl,e1,e21,e22,rfl,l14,by
    have h:=(show Z=_ from hq)
    unfold orE at h
    simp only [ne_eq,not_true_eq_false,if_false] at h
    exact h⟩
  ·obtain rfl:Z=y:=by
    unfold orE at hq
    simp only [ne_eq,hy,not_false_eq_true,if_true] at hq
    exact hq
   clear hq
   (refine @unH _ (zU y17_177 ?_);(try clear hK K);intro K hK hc)
   (refine @unH _ ?_;refine z9 results17 ?_)
   exact ⟨trivial,Hp.le_trans lH1 l14⟩
 obtain rfl:k=s.doors.length:=by omega
 have hZ:=(show Z=_ from hY)
 rw [List.drop_length] at hZ
 unfold orE sfirstC chkS2 at hZ
 simp only [ne_eq,not_true_eq_false,if_false] at hZ
 clear hY
 by_cases hn0:s.hampers.length=0
 ·obtain rfl:Z=7:=by rwa [if_pos hn0] at hZ
  have hn0':(s.hampers.length:Int)=0:=by omega
  clear hn0 hZ
  (refine @unH _ (zA y17_177 ?_);(try clear hK K);intro K hK hc)
  (refine @unH _ ?_;refine z9 results17 ?_)
  exact ⟨trivial,Hp.le_trans lH1 l12⟩
 rw [if_neg hn0] at hZ
 have hn0':¬(s.hampers.length:Int)=0:=by omega
 clear hn0
 by_cases hn3:3<s.hampers.length
 ·obtain rfl:Z=6:=by rwa [if_pos hn3] at hZ
  have hn3':(3:Int)<s.hampers.length:=by omega
  clear hn3 hZ
  (refine @unH _ (zA y17_177 ?_);(try clear hK K);intro K hK hc)
  (refine @unH _ ?_;refine z9 results17 ?_)
  exact ⟨trivial,Hp.le_trans lH1 l12⟩
 rw [if_neg hn3] at hZ
 have hn3':¬(3:Int)<s.hampers.length:=by omega
 clear hn3
 replace hZ:Aqk _:=hZ
 (refine @unH _ (zA y17_177 ?_);(try clear hK K);intro K hK hc)
 clear e21 e22 e23 hsD
 refine Axg (fun w a' H'=>∃e,∃k:Nat,w=s.hampers.length-k/\k<=s.hampers.length/\a'=act 83 e []/\e 1=.pointer (some ⟨sb,0,none⟩)/\e 7=.int .u8 (oOf (s.hampers.take k):Nat)/\e 44=.slice ha s.hampers.length kc/\e 45=.int .i64 s.hampers.length/\e 46=.int .i64 (k:Nat)/\H1.le H'/\Aqk (∀x∈s.hampers.take k,0<=x/\x<s.places)/\Aqk (Z=orE (shampC s.places (s.hampers.take k) (s.hampers.drop k)) (chkS3 s))) (n:=s.hampers.length) ?_ ?_
 ·exact ⟨_,0,by omega,by omega,rfl,e1,rfl,rfl,rfl,rfl,l12,fun x hx=>by simp at hx,hZ⟩
 clear vs2 l12 e1 H2 hZ hn0' hn3'
 rename_i eold
 clear eold
 rintro w a' H2 ⟨e,k,rfl,hk',rfl,e1,e7,e44,e45,e46,l12,hmk,hY⟩
 have vs2:=l12 _ _ vsb
 by_cases hlt:k<s.hampers.length
 ·obtain ⟨b,o,p,c,ee,fr,rfl,hb,hce⟩:=hsH.get (List.getElem?_eq_getElem hlt)
  have hce':c[o+(k:Int).toNat*1]?=some (.int .i64 s.hampers[k]):=by simpa using hce
  have hb2:=l12 _ _ hb
  have hmk':=(show ∀x∈s.hampers.take k,0<=x/\x<s.places from hmk)
  have hlt64:oOf (s.hampers.take k)<64:=Dq8 _ 0 (by decide) (fun x hx=>by have:=hmk' x hx;omega)
  have hbit:0<=s.hampers[k]->(oOf (s.hampers.take k)).testBit (s.hampers[k]).toNat=decide (s.hampers[k]∈s.hampers.take k):=fun h0=>By2 _ (fun x hx=>(hmk' x hx).1) _ h0
  have hsn:oOf (s.hampers.take (k+1))=Bqm (oOf (s.hampers.take k)) (s.hampers[k]).toNat:=by rw [List.take_add_one,List.getElem?_eq_getElem hlt];exact Dqh _ _
  have hdr:=shampC_drop (pl:=s.places) (List.getElem?_eq_getElem hlt)
  have hnx:0<=s.hampers[k]/\s.hampers[k]<s.places->∀x∈s.hampers.take (k+1),0<=x/\x<s.places:=fun hh x hx=>by
   rw [List.take_add_one,List.getElem?_eq_getElem hlt] at hx
   rcases List.mem_append.1 hx with hx | hx
   ·exact hmk' x hx
   ·simp at hx
    rw [hx]
    exact hh
  obtain ⟨m1,hm1⟩:∃m1,m1=oOf (s.hampers.take (k+1)):=⟨_,rfl⟩
  rw [<-hm1] at hsn
  replace hm1:Aqk _:=hm1
  have hq:=(show Z=_ from hY)
  rw [hdr] at hq
  clear hdr hY hmk hmk'
  generalize hM:oOf (s.hampers.take k)=m at *
  generalize hX:s.hampers[k]=x at *
  clear hb
  replace hM:Aqk _:=hM
  replace hX:Aqk _:=hX
  replace hsn:Aqk _:=hsn
  replace hbit:Aqk _:=hbit
  replace hnx:Aqk _:=hnx
  replace hq:Aqk _:=hq
  (refine @unH _ (zA y17_177 ?_);(try clear hK K);intro K hK hc)
  refine (Axj main H2 x 0 (s.places-1)).runs.mono ?_
  rintro _ _ ⟨rfl,hQ⟩
  rw [hQ]
  clear hQ
  by_cases hxo:x<0∨s.places-1<x
  ·obtain rfl:Z=3:=by
    have h:=(show Z=_ from hq)
    rw [if_pos hxo] at h
    exact h
   rw [show (decide (x<0)||decide (s.places-1<x))=true by simpa using hxo]
   clear hxo hq hnx hbit hsn
   (refine @unH _ (zU y17_177 ?_);(try clear hK K);intro K hK hc)
   (refine @unH _ ?_;refine z9 results17 ?_)
   exact ⟨trivial,Hp.le_trans lH1 l12⟩
  rw [show (decide (x<0)||decide (s.places-1<x))=false by simp;omega]
  have h2:=(show Z=_ from hq)
  rw [if_neg hxo] at h2
  clear hq
  have hb2':=(show 0<=x->_ from hbit) (by omega)
  clear hbit
  replace h2:Aqk _:=h2
  replace hb2':Aqk _:=hb2'
  (refine @unH _ (zU y17_177 ?_);(try clear hK K);intro K hK hc)
  refine (Cvq main H2 m x hlt64 (by omega) (by omega)).runs.mono ?_
  rintro _ _ ⟨rfl,hQ⟩
  rw [hQ,show m.testBit x.toNat=_ from hb2']
  clear hQ hb2'
  by_cases hmm:x∈s.hampers.take k
  ·obtain rfl:Z=4:=by
    have h:=(show Z=_ from h2)
    rw [if_pos hmm] at h
    exact h
   rw [decide_eq_true hmm]
   clear hmm h2 hnx hsn
   (refine @unH _ (zU y17_177 ?_);(try clear hK K);intro K hK hc)
   (refine @unH _ ?_;refine z9 results17 ?_)
   exact ⟨trivial,Hp.le_trans lH1 l12⟩
  rw [decide_eq_false hmm]
  have h3:=(show Z=_ from h2)
  rw [if_neg hmm] at h3
  clear h2 hmm
  replace h3:Aqk _:=h3
  (refine @unH _ (zU y17_177 ?_);(try clear hK K);intro K hK hc)
  refine (Cjj main H2 m x hlt64 (by omega) (by omega)).runs.mono ?_
  rintro _ _ ⟨rfl,hQ⟩
  rw [hQ,<-show m1=Bqm m x.toNat from hsn]
  clear hQ
  (refine @unH _ (zU y17_177 ?_);(try clear hK K);intro K hK hc)
  exact ⟨_,by omega,_,k+1,rfl,by omega,rfl,e1,by rw [<-show m1=_ from hm1];rfl,e44,e45,rfl,l12,(show _->_ from hnx) ⟨by omega,by omega⟩,h3⟩
 obtain rfl:k=s.hampers.length:=by omega
 have hZ:=(show Z=_ from hY)
 rw [List.drop_length] at hZ
 unfold orE shampC chkS3 at hZ
 simp only [ne_eq,not_true_eq_false,if_false] at hZ
 clear hY hmk
 by_cases hn4:4<s.noses.length
 ·obtain rfl:Z=6:=by rwa [if_pos hn4] at hZ
  have hn4':(4:Int)<s.noses.length:=by omega
  clear hn4 hZ
  (refine @unH _ (zA y17_177 ?_);(try clear hK K);intro K hK hc)
  (refine @unH _ ?_;refine z9 results17 ?_)
  exact ⟨trivial,Hp.le_trans lH1 l12⟩
 rw [if_neg hn4] at hZ
 have hn4':¬(4:Int)<s.noses.length:=by omega
 clear hn4
 replace hZ:Aqk _:=hZ
 (refine @unH _ (zA y17_177 ?_);(try clear hK K);intro K hK hc)
 clear e7 e44 e45 e46 hsH
 refine Axg (fun w a' H'=>∃e,∃k:Nat,w=s.noses.length-k/\k<=s.noses.length/\a'=act 83 e []/\e 1=.pointer (some ⟨sb,0,none⟩)/\e 67=.slice na s.noses.length nc/\e 68=.int .i64 s.noses.length/\e 69=.int .i64 (k:Nat)/\H1.le H'/\Aqk (Z=sfirstC (snoseC s.places) (s.noses.drop k))) (n:=s.noses.length) ?_ ?_
 ·exact ⟨_,0,by omega,by omega,rfl,e1,rfl,rfl,rfl,l12,hZ⟩
 clear vs2 l12 e1 H2 hZ hn4'
 rename_i eold
 clear eold
 rintro w a' H2 ⟨e,k,rfl,hk',rfl,e1,e67,e68,e69,l12,hY⟩
 have vs2:=l12 _ _ vsb
 by_cases hlt:k<s.noses.length
 ·obtain ⟨b,o,p,c,ee,fr,rfl,hb,hcs,hce⟩:=hsN.get (List.getElem?_eq_getElem hlt)
  have hdk:=sfirstC_drop (f:=snoseC s.places) (List.getElem?_eq_getElem hlt)
  generalize s.noses[k]=d at *
  have hb2:=l12 _ _ hb
  have hq:=(show Z=_ from hY)
  rw [hdk] at hq
  clear hb hsN hdk hY
  replace hq:Aqk _:=hq
  (refine @unH _ (zA y17_177 ?_);(try clear hK K);intro K hK hc)
  intro ab hab
  have nsb:=Aqr vs2 hab
  (refine @unH _ (zU y17_177 ?_);(try clear hK K);intro K hK hc)
  generalize hG:Hp.set _ ab _=H3
  have vs3:=Aqi hG vs2 nsb
  have l13:=Hp.le_trans l12 (Aqc hG hab)
  clear vs2 hb2 hab hG
  refine (snoseC_raw main H3 s.places (.slice _ _ _) (.slice _ _ _) (.slice _ _ _) d _ hp1 hp6 rfl rfl rfl).runs.mono ?_
  rintro _ H4 ⟨rfl,lH4⟩
  have l14:=Hp.le_trans l13 lH4
  have he4:=he.le l14
  clear lH4 vs3 hce hcs
  generalize snoseC s.places d=y at *
  by_cases hy:y=0
  ·subst hy
   rw [if_pos rfl]
   (refine @unH _ (zU y17_177 ?_);(try clear hK K);intro K hK hc)
   exact ⟨_,by omega,_,k+1,rfl,by omega,rfl,e1,e67,e68,rfl,l14,by
    have h:=(show Z=_ from hq)
    unfold orE at h
    simp only [ne_eq,not_true_eq_false,if_false] at h
    exact h⟩
  ·obtain rfl:Z=y:=by
    have h:=(show Z=_ from hq)
    unfold orE at h
    simp only [ne_eq,hy,not_false_eq_true,if_true] at h
    exact h
   rw [if_neg hy]
   clear hq
   (refine @unH _ (zU y17_177 ?_);(try clear hK K);intro K hK hc)
   refine (scode_bad main H4 _ _ he4).runs.mono ?_
   rintro _ H5 ⟨rfl,l45⟩
   (refine @unH _ (zU y17_177 ?_);(try clear hK K);intro K hK hc)
   (refine @unH _ ?_;refine z9 results17 ?_)
   exact ⟨trivial,Hp.le_trans lH1 (Hp.le_trans l14 l45)⟩
 obtain rfl:k=s.noses.length:=by omega
 obtain rfl:Z=0:=by
  have hZ:=(show Z=_ from hY)
  rw [List.drop_length] at hZ
  exact hZ
 (refine @unH _ (zA y17_177 ?_);(try clear hK K);intro K hK hc)
 (refine @unH _ ?_;refine z9 results17 ?_)
 exact ⟨trivial,Hp.le_trans lH1 l12⟩
def y18_178:=aN @Dwi (aN @Dw2 (aN @callF61 (aN @Dwj (aN @Dwz (aN @Dv4 (aN @Dw9 (aN @Dyo (aN @Dyb (aN @callF62 (aN @Dwk (aN @Dw0 (aN @Dv5 (aN @Dyp (aN @callF54 (aN @Dy9 (aN @Eqa (aN @Eqc (aN @callF63 (aN @Dwl (aN @Dw1 (aN @Dv6 (aN @Dyq (aN @Dyc @callF64)))))))))))))))))))))))
def y54_178:=aN @Dwi (aN @Dw2 @callF61)
def y62_178:=aN @Dw9 (aN @Dwo (aN @Dw2 (aN @callF54 (aN @Dwp (aN @Dwq (aN @Dwm (aN @callF61 @Dwn)))))))
def y63_178:=aN @Dv5 (aN @Dyp @Dw2)
def y64_178:=aN @Dw9 (aN @Dwr (aN @Dw2 (aN @callF54 (aN @Dws @callF61))))
theorem FnX.calm {P:Program} {main:Md} {f:FuncId} {args:Array Value} {H:Hp} {v:Value} (h:FnX P main f args H fun e H'=>e=.returned v/\H.le H'):Runs P main (Frame.enter P f args .normal) H fun e H'=>e=.returned v/\H'=H:=
 h.runs.less fun e _ ⟨he,hl⟩=>⟨H,hl,he,rfl⟩
theorem in_no {n lo hi:Int} (h:n<lo∨hi<n):(decide (lo<=n)&&decide (n<=hi))=false:=by
 rw [Bool.and_eq_false_iff,decide_eq_false_iff_not,decide_eq_false_iff_not]
 omega
theorem in_yes {n lo hi:Int} (h:¬(n<lo∨hi<n)):(decide (lo<=n)&&decide (n<=hi))=true:=by
 rw [Bool.and_eq_true,decide_eq_true_eq,decide_eq_true_eq]
 omega
theorem in9_is (m:Md) (H:Hp) (n lo hi:Int) (b:Bool) (hb:(decide (lo<=n)&&decide (n<=hi))=b) :
  FnX Tryz.prog m 61 #[.int .i64 n,.int .i64 lo,.int .i64 hi] H fun e H'=>e=.returned (.bool b)/\H.le H':=by
 subst hb
 refine Aqn func61 rfl ntmps61 (by simp) ?_
 by_cases h:lo<=n
 ·(refine @unH _ (zA trivial ?_);(try clear hK K);intro K hK hc)
  (refine @unH _ ?_;refine z9 results61 ?_)
  exact ⟨by simp [h],Hp.le_refl _⟩
 ·(refine @unH _ (zA trivial ?_);(try clear hK K);intro K hK hc)
  (refine @unH _ ?_;refine z9 results61 ?_)
  exact ⟨by simp [h],Hp.le_refl _⟩
theorem place9_is (m:Md) (H:Hp) (pl:Int) (dv hv nv:Value) (n:Int) (b:Bool) (hb:(decide (0<=n)&&decide (n<=pl-1))=b) (hp1:1<=pl) (hp:pl<=6) (h1:one dv=true) (h2:one hv=true) (h3:one nv=true) :
  FnX Tryz.prog m 54 #[smV pl dv hv nv,.int .i64 n] H fun e H'=>e=.returned (.bool b)/\H.le H':=by
 refine Aqn func54 rfl ntmps54 (by simp) ?_
 (refine @unH _ (zA y54_178 ?_);(try clear hK K);intro K hK hc)
 (intro sb hsb;generalize hG:Hp.set _ sb _=H1;have lH1:=Aqc hG hsb;have vsb:=Aqb hG;clear hG)
 (refine @unH _ (zU y54_178 ?_);(try clear hK K);intro K hK hc)
 refine (FnX.calm (in9_is m H1 n 0 (pl-1) b hb)).mono ?_;rintro _ HQ ⟨rfl,hHQ⟩;rw [hHQ];clear hHQ HQ;(refine @unH _ (zU y54_178 ?_);(try clear hK K);intro K hK hc)
 (refine @unH _ ?_;refine z9 results54 ?_)
 exact ⟨trivial,lH1⟩
theorem door9_is (m:Md) (H:Hp) (pl:Int) (dv hv nv:Value) (d:Dr) (hp1:1<=pl) (hp:pl<=6) (h1:one dv=true) (h2:one hv=true) (h3:one nv=true) :
  FnX Tryz.prog m 62 #[smV pl dv hv nv,.agg #[.int .i64 d.a,.int .i64 d.b,.int .i64 d.mn,.int .i64 d.mx]] H fun e H'=>e=.returned (.int .i64 (sdoorC pl d))/\H.le H':=by
 obtain ⟨Z,hZ⟩:∃Z,Z=sdoorC pl d:=⟨_,rfl⟩
 rw [<-hZ]
 unfold sdoorC at hZ
 replace hZ:Aqk _:=hZ
 refine Aqn func62 rfl ntmps62 (by simp) ?_
 (refine @unH _ (zA y62_178 ?_);(try clear hK K);intro K hK hc)
 (intro sb hsb nb hnb;replace hnb:(Hp.set _ sb _) nb=none:=hnb;generalize hG:Hp.set _ sb _=H1 at hnb ⊢;have lH1:=Aqc hG hsb;have wsb:=Aqb hG;clear hG;generalize hG:Hp.set _ nb _=H2;have lH2:=Aqc hG hnb;have vnb:=Aqb hG;have vsb:=lH2 _ _ wsb;have nsbnb:=Aqr wsb hnb;clear hG wsb)
 have l2:=Hp.le_trans lH1 lH2
 clear hsb hnb lH1 lH2
 (refine @unH _ (zU y62_178 ?_);(try clear hK K);intro K hK hc)
 by_cases ha:d.a<0∨pl-1<d.a
 ·obtain rfl:Z=3:=by have h:=(show Z=_ from hZ);rwa [if_pos (.inl ha)] at h
  clear hZ
  refine (FnX.calm (place9_is m H2 pl dv hv nv d.a false (in_no ha) hp1 hp h1 h2 h3)).mono ?_;rintro _ HQ ⟨rfl,hHQ⟩;rw [hHQ];clear hHQ HQ;(refine @unH _ (zU y62_178 ?_);(try clear hK K);intro K hK hc)
  (refine @unH _ ?_;refine z9 results62 ?_)
  exact ⟨trivial,l2⟩
 refine (FnX.calm (place9_is m H2 pl dv hv nv d.a true (in_yes ha) hp1 hp h1 h2 h3)).mono ?_;rintro _ HQ ⟨rfl,hHQ⟩;rw [hHQ];clear hHQ HQ;(refine @unH _ (zU y62_178 ?_);intro _ _ hc)
 by_cases hb:d.b<0∨pl-1<d.b
 ·obtain rfl:Z=3:=by have h:=(show Z=_ from hZ);rwa [if_pos (.inr hb)] at h
  clear hZ
  refine (FnX.calm (place9_is m H2 pl dv hv nv d.b false (in_no hb) hp1 hp h1 h2 h3)).mono ?_;rintro _ HQ ⟨rfl,hHQ⟩;rw [hHQ];clear hHQ HQ;((try (refine @unH _ ?_;refine zX y62_178 ?_));(try (refine hK _ _ ?_;clear hK K;try refine @unH _ (zQ ?_)));refine @unH _ (zA y62_178 ?_);(try clear hK K);intro K hK hc)
  (refine @unH _ ?_;refine z9 results62 ?_)
  exact ⟨trivial,l2⟩
 have hY:=(show Z=_ from hZ)
 clear hZ
 rw [if_neg (fun h=>h.elim ha hb)] at hY
 by_cases hab:d.a=d.b
 ·obtain rfl:Z=8:=by rwa [if_pos hab] at hY
  clear hY
  refine (FnX.calm (place9_is m H2 pl dv hv nv d.b true (in_yes hb) hp1 hp h1 h2 h3)).mono ?_;rintro _ HQ ⟨rfl,hHQ⟩;rw [hHQ];clear hHQ HQ;((try (refine @unH _ ?_;refine zX y62_178 ?_));(try (refine hK _ _ ?_;clear hK K;try refine @unH _ (zQ ?_)));refine @unH _ (zA y62_178 ?_);(try clear hK K);intro K hK hc)
  (refine @unH _ ?_;refine z9 results62 ?_)
  exact ⟨trivial,l2⟩
 rw [if_neg hab] at hY
 have hZ:Aqk _:=hY
 clear hY
 refine (FnX.calm (place9_is m H2 pl dv hv nv d.b true (in_yes hb) hp1 hp h1 h2 h3)).mono ?_;rintro _ HQ ⟨rfl,hHQ⟩;rw [hHQ];clear hHQ HQ;((try (refine @unH _ ?_;refine zX y62_178 ?_));(try (refine hK _ _ ?_;clear hK K;try refine @unH _ (zQ ?_)));refine @unH _ (zA y62_178 ?_);(try clear hK K);intro K hK hc)
 clear ha hb hab
 by_cases ha:d.mn<1∨4<d.mn
 ·obtain rfl:Z=1:=by have h:=(show Z=_ from hZ);rwa [if_pos (.inl ha)] at h
  clear hZ
  refine (FnX.calm (in9_is m H2 d.mn 1 4 false (in_no ha))).mono ?_;rintro _ HQ ⟨rfl,hHQ⟩;rw [hHQ];clear hHQ HQ;(refine @unH _ (zU y62_178 ?_);(try clear hK K);intro K hK hc)
  (refine @unH _ ?_;refine z9 results62 ?_)
  exact ⟨trivial,l2⟩
 refine (FnX.calm (in9_is m H2 d.mn 1 4 true (in_yes ha))).mono ?_;rintro _ HQ ⟨rfl,hHQ⟩;rw [hHQ];clear hHQ HQ;(refine @unH _ (zU y62_178 ?_);intro _ _ hc)
 by_cases hb:d.mx<1∨4<d.mx
 ·obtain rfl:Z=1:=by have h:=(show Z=_ from hZ);rwa [if_pos (.inr hb)] at h
  clear hZ
  refine (FnX.calm (in9_is m H2 d.mx 1 4 false (in_no hb))).mono ?_;rintro _ HQ ⟨rfl,hHQ⟩;rw [hHQ];clear hHQ HQ;((try (refine @unH _ ?_;refine zX y62_178 ?_));(try (refine hK _ _ ?_;clear hK K;try refine @unH _ (zQ ?_)));refine @unH _ (zA y62_178 ?_);(try clear hK K);intro K hK hc)
  (refine @unH _ ?_;refine z9 results62 ?_)
  exact ⟨trivial,l2⟩
 have hY:=(show Z=_ from hZ)
 clear hZ
 rw [if_neg (fun h=>h.elim ha hb)] at hY
 by_cases hab:d.mx<d.mn
 ·obtain rfl:Z=5:=by rwa [if_pos hab] at hY
  clear hY
  refine (FnX.calm (in9_is m H2 d.mx 1 4 true (in_yes hb))).mono ?_;rintro _ HQ ⟨rfl,hHQ⟩;rw [hHQ];clear hHQ HQ;((try (refine @unH _ ?_;refine zX y62_178 ?_));(try (refine hK _ _ ?_;clear hK K;try refine @unH _ (zQ ?_)));refine @unH _ (zA y62_178 ?_);(try clear hK K);intro K hK hc)
  (refine @unH _ ?_;refine z9 results62 ?_)
  exact ⟨trivial,l2⟩
 obtain rfl:Z=0:=by rwa [if_neg hab] at hY
 clear hY
 refine (FnX.calm (in9_is m H2 d.mx 1 4 true (in_yes hb))).mono ?_;rintro _ HQ ⟨rfl,hHQ⟩;rw [hHQ];clear hHQ HQ;((try (refine @unH _ ?_;refine zX y62_178 ?_));(try (refine hK _ _ ?_;clear hK K;try refine @unH _ (zQ ?_)));refine @unH _ (zA y62_178 ?_);(try clear hK K);intro K hK hc)
 (refine @unH _ ?_;refine z9 results62 ?_)
 exact ⟨trivial,l2⟩
theorem nose9_is (m:Md) (H:Hp) (pl:Int) (dv hv nv:Value) (n:Ns) (hp1:1<=pl) (hp:pl<=6) (h1:one dv=true) (h2:one hv=true) (h3:one nv=true) :
  FnX Tryz.prog m 64 #[smV pl dv hv nv,.agg #[.int .i64 n.pl,.int .i64 n.hr,.bool n.sm]] H fun e H'=>e=.returned (.int .i64 (snoseC pl n))/\H.le H':=by
 obtain ⟨Z,hZ⟩:∃Z,Z=snoseC pl n:=⟨_,rfl⟩
 rw [<-hZ]
 unfold snoseC at hZ
 replace hZ:Aqk _:=hZ
 refine Aqn func64 rfl ntmps64 (by simp) ?_
 (refine @unH _ (zA y64_178 ?_);(try clear hK K);intro K hK hc)
 (intro sb hsb nb hnb;replace hnb:(Hp.set _ sb _) nb=none:=hnb;generalize hG:Hp.set _ sb _=H1 at hnb ⊢;have lH1:=Aqc hG hsb;have wsb:=Aqb hG;clear hG;generalize hG:Hp.set _ nb _=H2;have lH2:=Aqc hG hnb;have vnb:=Aqb hG;have vsb:=lH2 _ _ wsb;have nsbnb:=Aqr wsb hnb;clear hG wsb)
 have l2:=Hp.le_trans lH1 lH2
 clear hsb hnb lH1 lH2
 (refine @unH _ (zU y64_178 ?_);(try clear hK K);intro K hK hc)
 by_cases ha:n.pl<0∨pl-1<n.pl
 ·obtain rfl:Z=3:=by have h:=(show Z=_ from hZ);rwa [if_pos ha] at h
  clear hZ
  refine (FnX.calm (place9_is m H2 pl dv hv nv n.pl false (in_no ha) hp1 hp h1 h2 h3)).mono ?_;rintro _ HQ ⟨rfl,hHQ⟩;rw [hHQ];clear hHQ HQ;(refine @unH _ (zU y64_178 ?_);(try clear hK K);intro K hK hc)
  (refine @unH _ ?_;refine z9 results64 ?_)
  exact ⟨trivial,l2⟩
 have hY:=(show Z=_ from hZ)
 clear hZ
 rw [if_neg ha] at hY
 replace hY:Aqk _:=hY
 refine (FnX.calm (place9_is m H2 pl dv hv nv n.pl true (in_yes ha) hp1 hp h1 h2 h3)).mono ?_;rintro _ HQ ⟨rfl,hHQ⟩;rw [hHQ];clear hHQ HQ;(refine @unH _ (zU y64_178 ?_);(try clear hK K);intro K hK hc)
 clear ha
 by_cases ha:n.hr<0∨12<n.hr
 ·obtain rfl:Z=1:=by have h:=(show Z=_ from hY);rwa [if_pos ha] at h
  clear hY
  refine (FnX.calm (in9_is m H2 n.hr 0 12 false (in_no ha))).mono ?_;rintro _ HQ ⟨rfl,hHQ⟩;rw [hHQ];clear hHQ HQ;(refine @unH _ (zU y64_178 ?_);(try clear hK K);intro K hK hc)
  (refine @unH _ ?_;refine z9 results64 ?_)
  exact ⟨trivial,l2⟩
 obtain rfl:Z=0:=by have h:=(show Z=_ from hY);rwa [if_neg ha] at h
 clear hY
 refine (FnX.calm (in9_is m H2 n.hr 0 12 true (in_yes ha))).mono ?_;rintro _ HQ ⟨rfl,hHQ⟩;rw [hHQ];clear hHQ HQ;(refine @unH _ (zU y64_178 ?_);(try clear hK K);intro K hK hc)
 (refine @unH _ ?_;refine z9 results64 ?_)
 exact ⟨trivial,l2⟩
theorem RdI.take {H:Hp} {a:Option Addr} {n cap:Nat} {xs:List Int} (h:RdI H (.slice a n cap) xs) {k:Nat} (hk:k<=xs.length):RdI H (.slice a k cap) (xs.take k):=by
 obtain ⟨a',c',h1,h2,h3⟩:=h
 cases h1
 have hl:(xs.take k).length=k:=by rw [List.length_take];omega
 refine ⟨_,_,by rw [hl],by omega,fun i x hi=>?_⟩
 rw [List.getElem?_take] at hi
 split at hi
 ·exact h3 i x hi
 ·cases hi
theorem has9_is (m:Md) (H:Hp) (v:Value) (xs:List Int) (x:Int) (hv:RdI H v xs) (hl:xs.length<=1000) (b:Bool) (hb:decide (x∈xs)=b) :
  FnX Tryz.prog m 63 #[v,.int .i64 x] H fun e H'=>e=.returned (.bool b)/\H.le H':=by
 subst hb
 obtain ⟨a,cap,rfl,-⟩:=hv.form
 replace hv:Aqk _:=hv
 refine Aqn func63 rfl ntmps63 (by simp) ?_
 (refine @unH _ (zA y63_178 ?_);(try clear hK K);intro K hK hc)
 refine Axg (fun w a' H'=>∃e,∃j:Nat,w=xs.length-j/\j<=xs.length/\a'=act 18 e []/\e 0=.slice a xs.length cap/\e 1=.int .i64 x/\e 4=.bool false/\e 5=.int .i64 (j:Nat)/\H'=H/\Aqk (x∉xs.take j)) (n:=xs.length) ?_ ?_
 ·exact ⟨_,0,by omega,by omega,rfl,rfl,rfl,rfl,rfl,rfl,by show x∉List.take 0 xs;simp⟩
 rintro w a' H' ⟨e,j,rfl,hj,rfl,e0,e1,e4,e5,hHQ,hx⟩
 rw [hHQ]
 clear hHQ H'
 by_cases hlj:j<xs.length
 ·have hlj':(j:Int)<xs.length:=by omega
  have hkd:=List.getElem?_eq_getElem hlj
  obtain ⟨db,dof,dp,dcl,de,dfr,hae,hdb,hdc⟩:=RdI.get (show RdI H (.slice a xs.length cap) xs from hv) hkd
  subst hae
  have htk:xs.take (j+1)=xs.take j++[xs[j]]:=by rw [List.take_add_one,hkd];rfl
  have hm:=List.mem_of_getElem? hkd
  replace htk:Aqk _:=htk
  generalize xs[j]=y at *
  clear hkd
  by_cases hyx:y=x
  ·subst hyx
   replace hm:Aqk _:=hm
   (refine @unH _ (zA y63_178 ?_);(try clear hK K);intro K hK hc)
   (refine @unH _ ?_;refine z9 results63 ?_)
   exact ⟨by rw [decide_eq_true (show y∈xs from hm)],Hp.le_refl _⟩
  ·clear hm
   (refine @unH _ (zA y63_178 ?_);(try clear hK K);intro K hK hc)
   refine ⟨xs.length-(j+1),by omega,_,j+1,rfl,by omega,rfl,e0,e1,e4,rfl,trivial,?_⟩
   show x∉xs.take (j+1)
   rw [show xs.take (j+1)=_ from htk]
   have:x∉xs.take j:=hx
   simp [this,Ne.symm hyx]
 ·have hlj':¬(j:Int)<xs.length:=by omega
  have hx':x∉xs.take j:=hx
  rw [List.take_of_length_le (by omega)] at hx'
  replace hx':Aqk _:=hx'
  (refine @unH _ (zA y63_178 ?_);(try clear hK K);intro K hK hc)
  (refine @unH _ ?_;refine z9 results63 ?_)
  exact ⟨by rw [decide_eq_false (show x∉xs from hx')],Hp.le_refl _⟩
theorem check9_is (m:Md) (H:Hp) (s:Sm) (dv hv nv:Value) (hs:RsS H dv hv nv s) (hl1:s.doors.length<=1000) (hl2:s.hampers.length<=1000) (hl3:s.noses.length<=1000) :
  FnX Tryz.prog m 18 #[smV s.places dv hv nv] H fun e H'=>e=.returned (.int .i64 (chkS s))/\H.le H':=by
 obtain ⟨Z,hZ⟩:∃Z,Z=chkS s:=⟨_,rfl⟩
 rw [<-hZ]
 obtain ⟨da,dc,ha,kc,na,nc,rfl,rfl,rfl,-,hkc,-⟩:=hs.forms
 have hsD:RdD H _ s.doors:=hs.dd
 have hsH:RdI H _ s.hampers:=hs.hh
 have hsN:RdN H _ s.noses:=hs.nn
 unfold chkS at hZ
 replace hZ:Aqk _:=hZ
 clear hs
 refine Aqn func18 rfl ntmps18 (by simp) ?_
 (refine @unH _ (zA y18_178 ?_);(try clear hK K);intro K hK hc)
 (intro sb hsb;generalize hG:Hp.set _ sb _=H1;have lH1:=Aqc hG hsb;have vsb:=Aqb hG;clear hG)
 replace hsD:=hsD.le lH1
 replace hsH:=hsH.le lH1
 replace hsN:=hsN.le lH1
 (refine @unH _ (zU y18_178 ?_);(try clear hK K);intro K hK hc)
 by_cases hpl:s.places<1∨6<s.places
 ·obtain rfl:Z=1:=by have h:=(show Z=_ from hZ);rwa [if_pos hpl] at h
  clear hZ
  refine (FnX.calm (in9_is m H1 s.places 1 6 false (in_no hpl))).mono ?_;rintro _ HQ ⟨rfl,hHQ⟩;rw [hHQ];clear hHQ HQ;(refine @unH _ (zU y18_178 ?_);(try clear hK K);intro K hK hc)
  (refine @unH _ ?_;refine z9 results18 ?_)
  exact ⟨trivial,lH1⟩
 have hY:=(show Z=_ from hZ)
 clear hZ
 rw [if_neg hpl] at hY
 unfold chkS1 at hY
 have hp1:1<=s.places:=by omega
 have hp6:s.places<=6:=by omega
 by_cases hd6:6<s.doors.length
 ·obtain rfl:Z=6:=by rwa [if_pos hd6] at hY
  have hd6':(6:Int)<s.doors.length:=by omega
  clear hd6 hY
  refine (FnX.calm (in9_is m H1 s.places 1 6 true (in_yes hpl))).mono ?_;rintro _ HQ ⟨rfl,hHQ⟩;rw [hHQ];clear hHQ HQ;(refine @unH _ (zU y18_178 ?_);(try clear hK K);intro K hK hc)
  (refine @unH _ ?_;refine z9 results18 ?_)
  exact ⟨trivial,lH1⟩
 rw [if_neg hd6] at hY
 have hd6':¬(6:Int)<s.doors.length:=by omega
 replace hY:Aqk _:=hY
 clear hd6
 refine (FnX.calm (in9_is m H1 s.places 1 6 true (in_yes hpl))).mono ?_;rintro _ HQ ⟨rfl,hHQ⟩;rw [hHQ];clear hHQ HQ;(refine @unH _ (zU y18_178 ?_);(try clear hK K);intro K hK hc)
 clear hpl
 refine Axg (fun w a' H'=>∃e,∃k:Nat,w=s.doors.length-k/\k<=s.doors.length/\a'=act 87 e []/\e 1=.pointer (some ⟨sb,0,none⟩)/\e 3=.int .i64 (k:Nat)/\H'=H1/\Aqk (Z=orE (sfirstC (sdoorC s.places) (s.doors.drop k)) (chkS2 s))) (n:=s.doors.length) ?_ ?_
 ·exact ⟨_,0,by omega,by omega,rfl,rfl,rfl,rfl,hY⟩
 rename_i eold
 clear eold hY hd6'
 rintro w a' H2 ⟨e,k,rfl,hk',rfl,e1,e3,hHQ,hY⟩
 rw [hHQ]
 clear hHQ H2
 by_cases hlt:k<s.doors.length
 ·obtain ⟨b,o,p,c,ee,fr,rfl,hb,hcs,hce⟩:=hsD.get (List.getElem?_eq_getElem hlt)
  have hdk:=sfirstC_drop (f:=sdoorC s.places) (List.getElem?_eq_getElem hlt)
  generalize s.doors[k]=d at *
  have hC:=door9_is m H1 s.places (.slice (some ⟨b,o,none⟩) s.doors.length dc) (.slice ha s.hampers.length kc) (.slice na s.noses.length nc) d hp1 hp6 rfl rfl rfl
  have hq:=(show Z=_ from hY)
  rw [show sfirstC _ _=_ from hdk] at hq
  clear hY hdk hsD
  generalize sdoorC s.places d=y at *
  replace hC:Aqk _:=hC
  replace hq:Aqk _:=hq
  (refine @unH _ (zA y18_178 ?_);(try clear hK K);intro K hK hc)
  refine Aka 8 [(true,0),(true,1),(true,2),(true,3),(true,4),(true,5),(true,6),(true,7)] (by kernel_rfl) (by kernel_rfl) (by simp) (by kernel_rfl) ?_;intro K hK
  (iterate 6 (refine @unH _ ?_;refine z3 y18_178 ?_))
  (apply Akj rfl rfl rfl;(focus ((refine @unH _ ?_;refine zX y18_178 ?_);exact Cxw (show FnX _ _ _ _ _ _ from hC)));simp -implicitDefEqProofs (disch:=first | omega | (simp only [qd]<;>omega)) only [Aq3,Aql])
  (refine @unH _ ?_;refine z3 y18_178 ?_)
  refine Aky (hK _ _ ?_);clear hK K;(try refine @unH _ (zQ ?_))
  clear hb hcs hce hC
  by_cases hy:y=0
  ·subst hy
   (refine @unH _ (zA y18_178 ?_);(try clear hK K);intro K hK hc)
   exact ⟨_,by omega,_,k+1,rfl,by omega,rfl,e1,rfl,trivial,by
    have h:=(show Z=_ from hq)
    unfold orE at h
    simp only [ne_eq,not_true_eq_false,if_false] at h
    exact h⟩
  ·obtain rfl:Z=y:=by
    have h:=(show Z=_ from hq)
    unfold orE at h
    simp only [ne_eq,hy,not_false_eq_true,if_true] at h
    exact h
   clear hq
   (refine @unH _ (zA y18_178 ?_);(try clear hK K);intro K hK hc)
   (refine @unH _ ?_;refine z9 results18 ?_)
   exact ⟨trivial,lH1⟩
 obtain rfl:k=s.doors.length:=by omega
 have hZ:=(show Z=_ from hY)
 rw [List.drop_length] at hZ
 unfold orE sfirstC chkS2 at hZ
 simp only [ne_eq,not_true_eq_false,if_false] at hZ
 clear hY
 by_cases hn0:s.hampers.length=0
 ·obtain rfl:Z=7:=by rwa [if_pos hn0] at hZ
  have hn0':(s.hampers.length:Int)=0:=by omega
  clear hn0 hZ
  (refine @unH _ (zA y18_178 ?_);(try clear hK K);intro K hK hc)
  (refine @unH _ ?_;refine z9 results18 ?_)
  exact ⟨trivial,lH1⟩
 rw [if_neg hn0] at hZ
 have hn0':¬(s.hampers.length:Int)=0:=by omega
 clear hn0
 by_cases hn3:3<s.hampers.length
 ·obtain rfl:Z=6:=by rwa [if_pos hn3] at hZ
  have hn3':(3:Int)<s.hampers.length:=by omega
  clear hn3 hZ
  (refine @unH _ (zA y18_178 ?_);(try clear hK K);intro K hK hc)
  (refine @unH _ ?_;refine z9 results18 ?_)
  exact ⟨trivial,lH1⟩
 rw [if_neg hn3] at hZ
 have hn3':¬(3:Int)<s.hampers.length:=by omega
 clear hn3
 replace hZ:Aqk _:=hZ
 (refine @unH _ (zA y18_178 ?_);(try clear hK K);intro K hK hc)
 clear e3 hsD
 refine Axg (fun w a' H'=>∃e,∃k:Nat,w=s.hampers.length-k/\k<=s.hampers.length/\a'=act 87 e []/\e 1=.pointer (some ⟨sb,0,none⟩)/\e 5=.int .i64 (k:Nat)/\H'=H1/\Aqk (Z=orE (shampC s.places (s.hampers.take k) (s.hampers.drop k)) (chkS3 s))) (n:=s.hampers.length) ?_ ?_
 ·exact ⟨_,0,by omega,by omega,rfl,e1,rfl,rfl,hZ⟩
 clear e1 hZ hn0' hn3'
 rename_i eold
 clear eold
 rintro w a' H2 ⟨e,k,rfl,hk',rfl,e1,e5,hHQ,hY⟩
 rw [hHQ]
 clear hHQ H2
 by_cases hlt:k<s.hampers.length
 ·have hpre:=hsH.take (k:=k) (by omega)
  obtain ⟨b,o,p,c,ee,fr,rfl,hb,hce⟩:=hsH.get (List.getElem?_eq_getElem hlt)
  have hdr:=shampC_drop (pl:=s.places) (List.getElem?_eq_getElem hlt)
  have hq:=(show Z=_ from hY)
  rw [hdr] at hq
  clear hdr hY
  generalize s.hampers[k]=x at *
  have hlt':(s.hampers.take k).length<=1000:=by rw [List.length_take];omega
  have hHs:=has9_is m H1 _ (s.hampers.take k) x hpre hlt' _ rfl
  replace hHs:Aqk _:=hHs
  replace hlt':Aqk _:=hlt'
  by_cases hxo:x<0∨s.places-1<x
  ·obtain rfl:Z=3:=by rwa [if_pos hxo] at hq
   have hC:=place9_is m H1 s.places (.slice da s.doors.length dc) (.slice (some ⟨b,o,none⟩) s.hampers.length kc) (.slice na s.noses.length nc) x false (in_no hxo) hp1 hp6 rfl rfl rfl
   replace hC:Aqk _:=hC
   clear hq hHs hxo
   (refine @unH _ (zA y18_178 ?_);(try clear hK K);intro K hK hc)
   refine Aka 8 [(true,0),(true,1),(true,2),(true,3),(true,4),(true,5),(true,6),(true,7)] (by kernel_rfl) (by kernel_rfl) (by simp) (by kernel_rfl) ?_;intro K hK
   (iterate 6 (refine @unH _ ?_;refine z3 y18_178 ?_))
   (apply Akj rfl rfl rfl;(focus ((refine @unH _ ?_;refine zX y18_178 ?_);exact Cxw (show FnX _ _ _ _ _ _ from hC)));simp -implicitDefEqProofs (disch:=first | omega | (simp only [qd]<;>omega)) only [Aq3,Aql])
   (refine @unH _ ?_;refine z3 y18_178 ?_)
   refine Aky (hK _ _ ?_);clear hK K;(try refine @unH _ (zQ ?_))
   (refine @unH _ (zA y18_178 ?_);(try clear hK K);intro K hK hc)
   (refine @unH _ ?_;refine z9 results18 ?_)
   exact ⟨trivial,lH1⟩
  have hC:=place9_is m H1 s.places (.slice da s.doors.length dc) (.slice (some ⟨b,o,none⟩) s.hampers.length kc) (.slice na s.noses.length nc) x true (in_yes hxo) hp1 hp6 rfl rfl rfl
  replace hC:Aqk _:=hC
  rw [if_neg hxo] at hq
  replace hq:Aqk _:=hq
  clear hxo
  (refine @unH _ (zA y18_178 ?_);(try clear hK K);intro K hK hc)
  refine Aka 8 [(true,0),(true,1),(true,2),(true,3),(true,4),(true,5),(true,6),(true,7)] (by kernel_rfl) (by kernel_rfl) (by simp) (by kernel_rfl) ?_;intro K hK
  (iterate 6 (refine @unH _ ?_;refine z3 y18_178 ?_))
  (apply Akj rfl rfl rfl;(focus ((refine @unH _ ?_;refine zX y18_178 ?_);exact Cxw (show FnX _ _ _ _ _ _ from hC)));simp -implicitDefEqProofs (disch:=first | omega | (simp only [qd]<;>omega)) only [Aq3,Aql])
  (refine @unH _ ?_;refine z3 y18_178 ?_)
  refine Aky (hK _ _ ?_);clear hK K;(try refine @unH _ (zQ ?_))
  clear hC
  (refine @unH _ (zA y18_178 ?_);(try clear hK K);intro K hK hc)
  refine Aka 10 [(true,0),(true,1),(true,2),(true,3),(true,4),(true,5),(true,6),(true,7),(true,8),(true,9)] (by kernel_rfl) (by kernel_rfl) (by simp) (by kernel_rfl) ?_;intro K hK
  (iterate 9 (refine @unH _ ?_;refine z3 y18_178 ?_))
  (apply Akj rfl rfl rfl;(focus ((refine @unH _ ?_;refine zX y18_178 ?_);exact Cxw (show FnX _ _ _ _ _ _ from hHs)));simp -implicitDefEqProofs (disch:=first | omega | (simp only [qd]<;>omega)) only [Aq3,Aql])
  refine Aky (hK _ _ ?_);clear hK K;(try refine @unH _ (zQ ?_))
  clear hHs hb hce hlt'
  have hq':=(show Z=_ from hq)
  clear hq
  by_cases hmm:x∈s.hampers.take k
  ·obtain rfl:Z=4:=by rwa [if_pos hmm] at hq'
   rw [decide_eq_true hmm]
   clear hmm hq' hpre
   (refine @unH _ (zA y18_178 ?_);(try clear hK K);intro K hK hc)
   (refine @unH _ ?_;refine z9 results18 ?_)
   exact ⟨trivial,lH1⟩
  rw [if_neg hmm] at hq'
  rw [decide_eq_false hmm]
  clear hmm hpre
  replace hq':Aqk _:=hq'
  (refine @unH _ (zA y18_178 ?_);(try clear hK K);intro K hK hc)
  exact ⟨_,by omega,_,k+1,rfl,by omega,rfl,e1,rfl,trivial,hq'⟩
 obtain rfl:k=s.hampers.length:=by omega
 have hZ:=(show Z=_ from hY)
 rw [List.drop_length] at hZ
 unfold orE shampC chkS3 at hZ
 simp only [ne_eq,not_true_eq_false,if_false] at hZ
 clear hY
 by_cases hn4:4<s.noses.length
 ·obtain rfl:Z=6:=by rwa [if_pos hn4] at hZ
  have hn4':(4:Int)<s.noses.length:=by omega
  clear hn4 hZ
  (refine @unH _ (zA y18_178 ?_);(try clear hK K);intro K hK hc)
  (refine @unH _ ?_;refine z9 results18 ?_)
  exact ⟨trivial,lH1⟩
 rw [if_neg hn4] at hZ
 have hn4':¬(4:Int)<s.noses.length:=by omega
 clear hn4
 replace hZ:Aqk _:=hZ
 (refine @unH _ (zA y18_178 ?_);(try clear hK K);intro K hK hc)
 clear e5 hsH
 refine Axg (fun w a' H'=>∃e,∃k:Nat,w=s.noses.length-k/\k<=s.noses.length/\a'=act 87 e []/\e 1=.pointer (some ⟨sb,0,none⟩)/\e 6=.int .i64 (k:Nat)/\H'=H1/\Aqk (Z=sfirstC (snoseC s.places) (s.noses.drop k))) (n:=s.noses.length) ?_ ?_
 ·exact ⟨_,0,by omega,by omega,rfl,e1,rfl,rfl,hZ⟩
 clear e1 hZ hn4'
 rename_i eold
 clear eold
 rintro w a' H2 ⟨e,k,rfl,hk',rfl,e1,e6,hHQ,hY⟩
 rw [hHQ]
 clear hHQ H2
 by_cases hlt:k<s.noses.length
 ·obtain ⟨b,o,p,c,ee,fr,rfl,hb,hcs,hce⟩:=hsN.get (List.getElem?_eq_getElem hlt)
  have hdk:=sfirstC_drop (f:=snoseC s.places) (List.getElem?_eq_getElem hlt)
  generalize s.noses[k]=d at *
  have hC:=nose9_is m H1 s.places (.slice da s.doors.length dc) (.slice ha s.hampers.length kc) (.slice (some ⟨b,o,none⟩) s.noses.length nc) d hp1 hp6 rfl rfl rfl
  have hq:=(show Z=_ from hY)
  rw [hdk] at hq
  clear hY hdk hsN
  generalize snoseC s.places d=y at *
  replace hC:Aqk _:=hC
  replace hq:Aqk _:=hq
  (refine @unH _ (zA y18_178 ?_);(try clear hK K);intro K hK hc)
  refine Aka 8 [(true,0),(true,1),(true,2),(true,3),(true,4),(true,5),(true,6),(true,7)] (by kernel_rfl) (by kernel_rfl) (by simp) (by kernel_rfl) ?_;intro K hK
  (iterate 6 (refine @unH _ ?_;refine z3 y18_178 ?_))
  (apply Akj rfl rfl rfl;(focus ((refine @unH _ ?_;refine zX y18_178 ?_);exact Cxw (show FnX _ _ _ _ _ _ from hC)));simp -implicitDefEqProofs (disch:=first | omega | (simp only [qd]<;>omega)) only [Aq3,Aql])
  (refine @unH _ ?_;refine z3 y18_178 ?_)
  refine Aky (hK _ _ ?_);clear hK K;(try refine @unH _ (zQ ?_))
  clear hb hcs hce hC
  by_cases hy:y=0
  ·subst hy
   (refine @unH _ (zA y18_178 ?_);(try clear hK K);intro K hK hc)
   exact ⟨_,by omega,_,k+1,rfl,by omega,rfl,e1,rfl,trivial,by
    have h:=(show Z=_ from hq)
    unfold orE at h
    simp only [ne_eq,not_true_eq_false,if_false] at h
    exact h⟩
  ·obtain rfl:Z=y:=by
    have h:=(show Z=_ from hq)
    unfold orE at h
    simp only [ne_eq,hy,not_false_eq_true,if_true] at h
    exact h
   clear hq
   (refine @unH _ (zA y18_178 ?_);(try clear hK K);intro K hK hc)
   (refine @unH _ ?_;refine z9 results18 ?_)
   exact ⟨trivial,lH1⟩
 obtain rfl:k=s.noses.length:=by omega
 obtain rfl:Z=0:=by
  have hZ:=(show Z=_ from hY)
  rw [List.drop_length] at hZ
  exact hZ
 (refine @unH _ (zA y18_178 ?_);(try clear hK K);intro K hK hc)
 (refine @unH _ ?_;refine z9 results18 ?_)
 exact ⟨trivial,lH1⟩
end Go.Proofs.YtaehjjbekjglkaaGreatDoor
end
