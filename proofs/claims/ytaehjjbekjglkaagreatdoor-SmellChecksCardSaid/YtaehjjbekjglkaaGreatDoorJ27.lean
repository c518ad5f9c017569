/- Texts SrF SrL SrS SrG. -/
import Derived.Test.YtaehjjbekjglkaaGreatDoorJ26
set_option linter.defProp false
set_option linter.unusedSimpArgs false
set_option linter.unusedVariables false
set_option maxRecDepth 100000
set_option maxHeartbeats 2000000
section
namespace Go.Proofs.YtaehjjbekjglkaaGreatDoor
open Go Go.X Go.Proofs.Tryz
def y55_179:=aN @Dwi (aN @Dw2 (aN @Dy4 (aN @Dyp (aN @Dy5 (aN @Dwj (aN @Dwz (aN @Dv4 (aN @Dyo (aN @Dwo (aN @Dwp @Ayg))))))))))
theorem z0_179 {p q:Prop} (g:q) (h:Hid q->p:=by
 intro g
 repeat' (first
 | (refine Axz rfl ?_;intro Kz hKz;simp -implicitDefEqProofs (disch:=first | omega | (simp only [qd]<;>omega)) only [xq,↓xp,qc,Nat.reduceAdd,List.range,List.range.loop,fine,Nat.reduceEqDiff,↓reduceIte,yielded,reduceCtorEq,Nat.reduceLT,Nat.reduceMul,Nat.reduceSub,one,Nat.reduceLeDiff,Aqg,y55_179,aq,↓ap,qe0,qe1,qe2, *,-g,-hKz,Azm,Int.toNat_natCast,Nat.mul_one,hlc,Aqz];try (refine hKz _ _ ?_;clear hKz Kz))
 | (refine Azq rfl ?_;intro Kz hKz;simp -implicitDefEqProofs (disch:=first | omega | (simp only [qd]<;>omega)) only [xq,↓xp,qc,Nat.reduceAdd,List.range,List.range.loop,fine,Nat.reduceEqDiff,↓reduceIte,yielded,reduceCtorEq,Nat.reduceLT,Nat.reduceMul,Nat.reduceSub,one,Nat.reduceLeDiff,Aqg,y55_179,aq,↓ap,qe0,qe1,qe2, *,-g,-hKz,Azm,Int.toNat_natCast,Nat.mul_one,hlc,Aqz];try (refine hKz _ _ ?_;clear hKz Kz;(try simp only [nq,↓reduceIte,Nat.reduceEqDiff])))
 | (refine Aza ?_;(try simp only [nq,↓reduceIte,Nat.reduceEqDiff]))
 | (refine Azd ?_;(try simp only [nq,↓reduceIte,Nat.reduceEqDiff]))
 | (refine Az2 ?_;(try simp only [nq,↓reduceIte,Nat.reduceEqDiff]))
 | (refine Az9 ?_;(try simp only [nq,↓reduceIte,Nat.reduceEqDiff]))
 | (refine Azp (by simp only [Aq7,Axf,Nat.reduceEqDiff,Nat.reduceLT,↓reduceIte, *,-g];rfl) ?_ ?_<;>(intro hcz;first | (exfalso;simp -implicitDefEqProofs (disch:=omega) only [*,-g,bq,reduceCtorEq] at hcz;done) | (simp only [dq,qe3,qe4,qe5,qe6] at hcz) | skip))
 | (refine Azs ?_)
 | (refine Ax7 ?_)
 | (refine Axn ?_))
 refine unT ?_;(try (revert hcz;refine unC ?_));(repeat (revert hcz;refine unD ?_));first | revert Kz | refine unU ?_
 exact Hid.out g):Hid p:=⟨h ⟨g⟩⟩
theorem z1_179 {p q:Prop} (g:q) (h:Hid q->p:=by
 intro g
 repeat' (first
 | (refine Axz rfl ?_;intro Kz hKz;simp -implicitDefEqProofs (disch:=first | omega | (simp only [qd]<;>omega)) only [xq,↓xp,qc,Nat.reduceAdd,List.range,List.range.loop,fine,Nat.reduceEqDiff,↓reduceIte,yielded,reduceCtorEq,Nat.reduceLT,Nat.reduceMul,Nat.reduceSub,one,Nat.reduceLeDiff,Aqg,y55_179,aq,↓ap,qe0,qe1,qe2, *,-g,-hKz,Azm,Nat.mul_one,hpl,Aqz];try (refine hKz _ _ ?_;clear hKz Kz))
 | (refine Azq rfl ?_;intro Kz hKz;simp -implicitDefEqProofs (disch:=first | omega | (simp only [qd]<;>omega)) only [xq,↓xp,qc,Nat.reduceAdd,List.range,List.range.loop,fine,Nat.reduceEqDiff,↓reduceIte,yielded,reduceCtorEq,Nat.reduceLT,Nat.reduceMul,Nat.reduceSub,one,Nat.reduceLeDiff,Aqg,y55_179,aq,↓ap,qe0,qe1,qe2, *,-g,-hKz,Azm,Nat.mul_one,hpl,Aqz];try (refine hKz _ _ ?_;clear hKz Kz;(try simp only [nq,↓reduceIte,Nat.reduceEqDiff])))
 | (refine Aza ?_;(try simp only [nq,↓reduceIte,Nat.reduceEqDiff]))
 | (refine Azd ?_;(try simp only [nq,↓reduceIte,Nat.reduceEqDiff]))
 | (refine Az2 ?_;(try simp only [nq,↓reduceIte,Nat.reduceEqDiff]))
 | (refine Az9 ?_;(try simp only [nq,↓reduceIte,Nat.reduceEqDiff]))
 | (refine Azp (by simp only [Aq7,Axf,Nat.reduceEqDiff,Nat.reduceLT,↓reduceIte, *,-g];rfl) ?_ ?_<;>(intro hcz;first | (exfalso;simp -implicitDefEqProofs (disch:=omega) only [*,-g,bq,reduceCtorEq] at hcz;done) | (simp only [dq,qe3,qe4,qe5,qe6] at hcz) | skip))
 | (refine Azs ?_)
 | (refine Ax7 ?_)
 | (refine Axn ?_))
 refine unT ?_;(try (revert hcz;refine unC ?_));(repeat (revert hcz;refine unD ?_));first | revert Kz | refine unU ?_
 exact Hid.out g):Hid p:=⟨h ⟨g⟩⟩
theorem roundR_take:∀ {ds:List Dr} {ts:List Int} {i:Nat} {d:Dr} {t:Int} (c:List Int),ds[i]?=some d->ts[i]?=some t->roundR (ds.take (i+1)) (ts.take (i+1)) c=relaxR (roundR (ds.take i) (ts.take i) c) d t
 | d::ds,t::ts,0,_,_,c,h1,h2=>by
  simp only [List.getElem?_cons_zero,Option.some.injEq] at h1 h2
  subst h1 h2
  simp only [Nat.zero_add,List.take_succ_cons,List.take_zero]
  rfl
 | d'::ds,t'::ts,i+1,d,t,c,h1,h2=>by
  simp only [List.take_succ_cons]
  exact roundR_take (relaxR c d' t') h1 h2
theorem RdD.get1 {H:Hp} {a:Option Addr} {n cap:Nat} {ds:List Dr} (h:RdD H (.slice a n cap) ds) {i:Nat} {d:Dr} (hd:ds[i]?=some d) :
  ∃b o p c ee fr,a=some ⟨b,o,none⟩/\H b=some (p,.cells c ee fr)/\c[o+i*4]?=some (.int .i64 d.a)/\c[o+i*4+1]?=some (.int .i64 d.b)/\c[o+i*4+2]?=some (.int .i64 d.mn)/\c[o+i*4+3]?=some (.int .i64 d.mx):=by
 obtain ⟨b,o,p,c,ee,fr,h1,h2,h3,h4⟩:=h.get hd
 exact ⟨b,o,p,c,ee,fr,h1,h2,Bxk (k:=0) (r:=Bx4 d) h4 h3 rfl,Bxk (k:=1) (r:=Bx4 d) h4 h3 rfl,Bxk (k:=2) (r:=Bx4 d) h4 h3 rfl,Bxk (k:=3) (r:=Bx4 d) h4 h3 rfl⟩
theorem far9_spec (m:Md) (H:Hp) (s:Sm) (dv hv nv:Value) (hs:RsS H dv hv nv s) (ok:SmOk s) (p:Int) (p0:0<=p) (p1:p<s.places) (tv:Value) (ts:List Int) (ht:RdI H tv ts) (htk:ts∈Ax1 s.doors) :
  FnX Tryz.prog m 55 #[smV s.places dv hv nv,.int .i64 p,tv] H fun e H'=>∃v,e=.returned v/\SlI H' v (farR s.places s.doors p ts)/\H.le H':=by
 obtain ⟨da,dc,ha,kc,na,nc,rfl,rfl,rfl,l1,l2,l3⟩:=hs.forms
 obtain ⟨ta,tc,rfl,-⟩:=ht.form
 have k0:=ok.p0
 have k1:=ok.p1
 have k2:=ok.dl
 have hlen:Aqk (ts.length=s.doors.length):=Ake htk
 refine Aqn func55 rfl ntmps55 (by simp) ?_
 (refine @unH _ (zA y55_179 ?_);(try clear hK K);intro K hK hc)
 (intro sb hsb;generalize hG:Hp.set _ sb _=H1;have lH1:=Aqc hG hsb;have vsb:=Aqb hG;clear hG)
 have hd0:RdD H (.slice da s.doors.length dc) s.doors:=hs.dd
 have ht0:RdI H (.slice ta ts.length tc) ts:=ht
 clear hs ht
 obtain ⟨n,hn⟩:∃n:Nat,(n:Int)=s.places:=⟨s.places.toNat,by omega⟩
 rw [<-hn] at vsb ⊢
 have hn6:n<=6:=by omega
 replace hn:Aqk _:=hn
 (refine @unH _ (zU y55_179 ?_);(try clear hK K);intro K hK hc)
 intro ob hob
 generalize hG:Hp.set H1 ob _=H2
 have l12:=Aqc hG hob
 have vob:=Aqb hG
 clear hG
 have vsb2:=l12 _ _ vsb
 have l02:=Hp.le_trans lH1 l12
 have hbo:sb≠ob:=fun e=>by rw [<-e,vsb] at hob;cases hob
 have hHo:H ob=none:=Hp.le_none lH1 hob
 clear vsb
 (refine @unH _ (zU y55_179 ?_);(try clear hK K);intro K hK hc)
 refine Axg (fun w a' H'=>∃e j c,w=n-j/\j<=n/\a'=act 103 e []/\e 1=.int .i64 p/\e 2=.slice ta ts.length tc/\e 3=.pointer (some ⟨sb,0,none⟩)/\e 7=.slice (some ⟨ob,0,none⟩) n n/\e 8=.int .i64 (j:Nat) /\
  H' ob=some (true,.cells (ints c).toArray 3 (0,0))/\Aku ob H2 H'/\(c.length<=n/\n<=c.length)/\Aqk (∀i,i<j->c[i]?=some 1000)) (n:=n) ?_ ?_
 ·refine ⟨_,0,List.replicate n 0,by omega,by omega,rfl,rfl,rfl,rfl,rfl,rfl,?_,Aku.refl _ _,by simp,fun i hi=>by omega⟩
  rw [vob]
  simp [ints]
 rintro w a' H3 ⟨e,j,c,rfl,hj,rfl,e1,e2,e3,e7,e8,v3,hk,hcl,hcv⟩
 have vsb3:=hk _ _ hbo vsb2
 by_cases hlt:j<n
 ·have hlt':(j:Int)<n:=by omega
  have hlc:j<(ints c).length:=by rw [Aqz];omega
  (refine @unH _ (z0_179 ?_);(try clear hK K);intro K hK hc)
  refine ⟨n-(j+1),by omega,_,j+1,c.set j 1000,rfl,hlt,rfl,e1,e2,e3,e7,rfl,Axh,hk.set,by rw [List.length_set];exact hcl,fun i hi=>?_⟩
  have hcv:∀i,i<j->c[i]?=some 1000:=hcv
  rw [List.getElem?_set]
  by_cases hij:j=i
  ·rw [if_pos hij,if_pos (by omega)]
  ·rw [if_neg hij]
   exact hcv i (by omega)
 have hlt':¬(j:Int)<n:=by omega
 have hcv:∀i,i<j->c[i]?=some 1000:=hcv
 obtain rfl:c=List.replicate n 1000:=by
  apply List.ext_getElem?
  intro i
  rw [List.getElem?_replicate]
  by_cases hi:i<n
  ·rw [if_pos hi,hcv i (by omega)]
  ·rw [if_neg hi,List.getElem?_eq_none (by omega)]
 clear hcv hcl hj hlt
 have hpn:p<(n:Int):=by have:(n:Int)=s.places:=hn;omega
 have hpl:p.toNat<(ints (List.replicate n (1000:Int))).length:=by rw [Aqz,List.length_replicate];omega
 have hfr:Aqk ((List.replicate n (1000:Int)).set p.toNat 0=from1 s.places p):=by
  have e:n=s.places.toNat:=by have:(n:Int)=s.places:=hn;omega
  rw [e]
  rfl
 (refine @unH _ (z1_179 ?_);(try clear hK K);intro K hK hc)
 generalize hG:Hp.set H3 ob _=H4
 have v4:H4 ob=some (true,.cells (ints ((List.replicate n (1000:Int)).set p.toNat 0)).toArray 3 (0,0)):=by rw [<-hG,Axh]
 rw [show (List.replicate n (1000:Int)).set p.toNat 0=_ from hfr] at v4
 have hk4:Aku ob H2 H4:=by rw [<-hG];exact hk.set
 clear hG hk v3 vsb3 hfr
 refine ⟨by rw [List.length_replicate];omega,?_⟩
 refine hK _ _ ?_
 clear hK K hpl e8
 (try refine @unH _ (zQ ?_))
 (refine @unH _ (zA y55_179 ?_);(try clear hK K);intro K hK hc)
 clear e1
 refine Axg (fun w a' H'=>∃e,∃k:Nat,∃c:List Int,w=n-k/\k<=n/\a'=act 103 e []/\e 2=.slice ta ts.length tc/\e 3=.pointer (some ⟨sb,0,none⟩)/\e 7=.slice (some ⟨ob,0,none⟩) n n/\e 9=.int .i64 (k:Nat) /\
  H' ob=some (true,.cells (ints c).toArray 3 (0,0))/\Aku ob H2 H'/\Aqk (c=roundsR s.doors ts k (from1 s.places p))/\FarOk (Edg s.doors ts) s.places p c) (n:=n) ?_ ?_
 ·exact ⟨_,0,_,by omega,by omega,rfl,e2,e3,e7,rfl,v4,hk4,rfl,FarOk.start _ p0 p1⟩
 clear v4 hk4 e2 e3 e7
 rintro w a' H5 ⟨e,k,c,rfl,hkn,rfl,e2,e3,e7,e9,v5,hk5,hcq,hf⟩
 have vsb5:=hk5 _ _ hbo vsb2
 by_cases hlt:k<n
 ·have hlt':(k:Int)<n:=by omega
  (refine @unH _ (zA y55_179 ?_);(try clear hK K);intro K hK hc)
  refine Axg (fun w a' H'=>∃e,∃i:Nat,∃c':List Int,w=s.doors.length-i/\i<=s.doors.length/\a'=act 103 e []/\e 2=.slice ta ts.length tc/\e 3=.pointer (some ⟨sb,0,none⟩)/\e 7=.slice (some ⟨ob,0,none⟩) n n/\e 9=.int .i64 (k:Nat)/\e 10=.int .i64 (i:Nat) /\
   H' ob=some (true,.cells (ints c').toArray 3 (0,0))/\Aku ob H2 H'/\Aqk (c'=roundR (s.doors.take i) (ts.take i) c)/\FarOk (Edg s.doors ts) s.places p c') (n:=s.doors.length) ?_ ?_
  ·exact ⟨_,0,c,by omega,by omega,rfl,e2,e3,e7,e9,rfl,v5,hk5,(by rw [List.take_zero,List.take_zero];rfl),hf⟩
  clear v5 hk5 e2 e3 e7 e9
  rintro w a' H6 ⟨e,i,c6,rfl,hi,rfl,e2,e3,e7,e9,e10,v6,hk6,hc6,hf6⟩
  have vsb6:=hk6 _ _ hbo vsb2
  by_cases hld:i<s.doors.length
  ·have hld':(i:Int)<s.doors.length:=by omega
   have hkd:=List.getElem?_eq_getElem hld
   have hdk:=ok.dk _ (List.mem_of_getElem? hkd)
   have hil:i<ts.length:=by rw [show ts.length=_ from hlen];exact hld
   have hkt:=List.getElem?_eq_getElem hil
   have hEd:=Edg.of hkd hkt
   have ht1:=((Akd (pl:=s.places) ok.dk).1 htk).2 i _ _ hkd hkt
   have hst:=roundR_take c hkd hkt
   obtain ⟨db,dof,dp,dcl,dee,dfr,rfl,hdb0,hdA,hdB,-,-⟩:=hd0.get1 hkd
   obtain ⟨xb,xo,pz,xcl,xee,xfr,rfl,hxb0,hxi⟩:=ht0.get hkt
   have hdb:=hk6 _ _ (fun e=>by rw [e,hHo] at hdb0;cases hdb0) (l02 _ _ hdb0)
   have hxb:=hk6 _ _ (fun e=>by rw [e,hHo] at hxb0;cases hxb0) (l02 _ _ hxb0)
   clear hdb0 hxb0 hkd hkt
   generalize s.doors[i]=d at *
   generalize ts[i]=t at *
   have ha0:=hdk.a0
   have ha1:=hdk.a1
   have hb0:=hdk.b0
   have hb1:=hdk.b1
   have hn':(n:Int)=s.places:=hn
   have han:d.a<(n:Int):=by omega
   have hbn:d.b<(n:Int):=by omega
   have t1:1<=t/\t<=4:=by have:=hdk.m0;have:=hdk.m2;omega
   have hf7:=hf6.one hdk hEd hEd.symm t1.1 p0 p1
   have hxa:(ints c6).toArray[d.a.toNat]?=some (.int .i64 (gI c6 d.a)):=by
    have hg:=Av4 (c:=c6) ha0 (by rw [hf6.len];omega)
    simpa using Aj6 hg
   have hxb2:(ints c6).toArray[d.b.toNat]?=some (.int .i64 (gI c6 d.b)):=by
    have hg:=Av4 (c:=c6) hb0 (by rw [hf6.len];omega)
    simpa using Aj6 hg
   have hCs:(ints c6).toArray.size=n:=by rw [List.size_toArray,Aqz,hf6.len];omega
   have ha':d.a.toNat<(ints c6).toArray.size:=by rw [hCs];omega
   have hb':d.b.toNat<(ints c6).toArray.size:=by rw [hCs];omega
   have bA:0<=gI c6 d.a/\gI c6 d.a<=1000:=⟨hf6.pos d.a ha0 ha1,by rcases hf6.att d.a ha0 ha1 with h | h<;>omega⟩
   have bB:0<=gI c6 d.b/\gI c6 d.b<=1000:=⟨hf6.pos d.b hb0 hb1,by rcases hf6.att d.b hb0 hb1 with h | h<;>omega⟩
   have hrel:Aqk (((ints c6).toArray.setIfInBounds d.a.toNat (.int .i64 (if gI c6 d.b+t<gI c6 d.a then gI c6 d.b+t else gI c6 d.a))).setIfInBounds d.b.toNat (.int .i64 (if gI c6 d.a+t<gI c6 d.b then gI c6 d.a+t else gI c6 d.b))=(ints (relaxR c6 d t)).toArray):=by
    have m1:∀x y:Int,(if y<x then y else x)=min x y:=fun x y=>by rw [Int.min_def];split<;>split<;>omega
    rw [m1,m1,Bxn,Bxn]
    rfl
   clear hn' hEd hf6
   generalize gI c6 d.a=A at *
   generalize gI c6 d.b=B at *
   generalize (ints c6).toArray=CC at *
   replace hf7:FarOk (Edg s.doors ts) s.places p (relaxR c6 d t):=hf7.1
   have hc7:Aqk (relaxR c6 d t=roundR (s.doors.take (i+1)) (ts.take (i+1)) c):=by
    rw [hst,<-show c6=_ from hc6]
    exact rfl
   clear hst hc6
   generalize relaxR c6 d t=c7 at *
   replace hf7:Aqk _:=hf7
   replace ht1:Aqk _:=ht1
   (refine @unH _ (zA y55_179 ?_);(try clear hK K);intro K hK hc)
   have hq0:∀o,Hp.cell H6 ⟨sb,o,none⟩=_:=fun o=>cell_of vsb6
   have hq1:∀o,Hp.cell H6 ⟨ob,o,none⟩=CC[o]?:=fun o=>cell_of v6
   have hq2:∀o,Hp.cell H6 ⟨xb,o,none⟩=xcl[o]?:=fun o=>cell_of hxb
   have hq3:∀o,Hp.cell H6 ⟨db,o,none⟩=dcl[o]?:=fun o=>cell_of hdb
   refine Axm (fun HX=>HX=H6) [] (.free 0 (.take 1 (.free 2 (.free 3 (.free 4 (.take 5 (.free 6 (.take 7 (.free 8 (.free 9 (.free 10 (.take 11 (.free 12 (.free 13 .nil)))))))))))))) (by kernel_rfl) (by kernel_rfl) (by decide) (by kernel_rfl) ?_;intro K hK
   refine Ax6 fun ops hOz=>?_
   (refine @unH _ ?_;refine zF y55_179 ?_)
   (refine @unH _ ?_;refine zL (aN y55_179 @exists_eq_left'.{1}) ?_)
   (iterate 3 (refine @unH _ ?_;refine zF y55_179 ?_))
   (refine @unH _ ?_;refine zL (aN y55_179 @exists_eq_left'.{1}) ?_)
   (refine @unH _ ?_;refine zF y55_179 ?_)
   (refine @unH _ ?_;refine zL (aN y55_179 @exists_eq_left'.{1}) ?_)
   (iterate 3 (refine @unH _ ?_;refine zF y55_179 ?_))
   (refine @unH _ ?_;refine zL (aN y55_179 @exists_eq_left'.{1}) ?_)
   (iterate 2 (refine @unH _ ?_;refine zF y55_179 ?_))
   (refine Az6 (hK _ _ ?_);clear hK K;(try simp only [nq,↓reduceIte,Nat.reduceEqDiff]))
   (refine @unH _ (zA y55_179 ?_);(try clear hK K);intro K hK hc)
   refine Axm (fun HX=>HX=H6) [33,35] (.free 0 (.free 1 (.free 2 (.free 3 (.free 4 (.free 5 (.free 6 (.take 7 (.free 8 (.free 9 (.free 10 (.take 11 (.free 12 (.free 13 (.free 14 (.take 15 (.free 16 (.free 17 (.free 18 (.free 19 (.free 20 (.take 21 (.free 22 (.free 23 (.free 24 (.take 25 (.free 26 (.free 27 (.free 28 (.take 29 (.free 30 (.free 31 (.free 32 (.one 33 (.free 34 (.one 35 .nil)))))))))))))))))))))))))))))))))))) (by kernel_rfl) (by kernel_rfl) (by decide) (by kernel_rfl) ?_;intro K hK
   refine Ax6 fun ops hOz=>?_
   (iterate 7 (refine @unH _ ?_;refine zF y55_179 ?_))
   (refine @unH _ ?_;refine zL (aN y55_179 @exists_eq_left'.{1}) ?_)
   (iterate 3 (refine @unH _ ?_;refine zF y55_179 ?_))
   (refine @unH _ ?_;refine zL (aN y55_179 @exists_eq_left'.{1}) ?_)
   (iterate 3 (refine @unH _ ?_;refine zF y55_179 ?_))
   (refine @unH _ ?_;refine zL (aN y55_179 @exists_eq_left'.{1}) ?_)
   (iterate 5 (refine @unH _ ?_;refine zF y55_179 ?_))
   (refine @unH _ ?_;refine zL (aN y55_179 @exists_eq_left'.{1}) ?_)
   (iterate 3 (refine @unH _ ?_;refine zF y55_179 ?_))
   (refine @unH _ ?_;refine zL (aN y55_179 @exists_eq_left'.{1}) ?_)
   (iterate 3 (refine @unH _ ?_;refine zF y55_179 ?_))
   (refine @unH _ ?_;refine zL (aN y55_179 @exists_eq_left'.{1}) ?_)
   (iterate 3 (refine @unH _ ?_;refine zF y55_179 ?_))
   (refine @unH _ ?_;refine zM (aN y55_179 @exists_eq_left'.{1}) ?_)
   refine ⟨.inl (by decide),?_⟩
   (refine @unH _ ?_;refine zF y55_179 ?_)
   (refine @unH _ ?_;refine zM (aN y55_179 @exists_eq_left'.{1}) ?_)
   refine ⟨by rw [Array.size_setIfInBounds];exact hb',?_⟩
   refine ⟨.inl (by decide),?_⟩
   (refine Az6 (hK _ _ ?_);clear hK K;(try simp only [nq,↓reduceIte,Nat.reduceEqDiff]))
   rw [show (CC.setIfInBounds d.a.toNat _).setIfInBounds d.b.toNat _=_ from hrel]
   clear hrel hq0 hq1 hq2 hq3 hdb hxb hdA hdB hxi hxa hxb2 v6 vsb6 hCs ha' hb'
   (refine @unH _ (zA y55_179 ?_);(try clear hK K);intro K hK hc)
   exact ⟨s.doors.length-(i+1),by omega,_,i+1,c7,rfl,by omega,rfl,e2,e3,e7,e9,rfl,Axh,(by first | exact hk6.set | exact hk6.set.set),hc7,hf7⟩
  ·have hld':¬(i:Int)<s.doors.length:=by omega
   obtain rfl:i=s.doors.length:=by omega
   have hc7:Aqk (c6=roundsR s.doors ts (k+1) (from1 s.places p)):=by
    rw [List.take_length,<-hlen,List.take_length] at hc6
    show c6=roundR s.doors ts (roundsR s.doors ts k (from1 s.places p))
    rw [show c6=_ from hc6,<-show c=_ from hcq]
   (refine @unH _ (zA y55_179 ?_);(try clear hK K);intro K hK hc)
   exact ⟨n-(k+1),by omega,_,k+1,c6,rfl,by omega,rfl,e2,e3,e7,rfl,v6,hk6,hc7,hf6⟩
 have hlt':¬(k:Int)<n:=by omega
 obtain rfl:k=n:=by omega
 have hcR:Aqk (c=farR s.places s.doors p ts):=by
  have e:k=s.places.toNat:=by have:(k:Int)=s.places:=hn;omega
  rw [e] at hcq
  exact hcq
 (refine @unH _ (zA y55_179 ?_);(try clear hK K);intro K hK hc)
 clear e2 e9
 refine Axg (fun w a' H'=>∃e,∃j:Nat,w=k-j/\j<=k/\a'=act 103 e []/\e 3=.pointer (some ⟨sb,0,none⟩)/\e 7=.slice (some ⟨ob,0,none⟩) k k/\e 13=.int .i64 (j:Nat) /\
  H' ob=some (true,.cells (ints c).toArray 3 (0,0))/\Aku ob H2 H') (n:=k) ?_ ?_
 ·exact ⟨_,0,by omega,by omega,rfl,e3,e7,rfl,v5,hk5⟩
 clear v5 hk5 vsb5 e3 e7
 rintro w a' H6 ⟨e,j,rfl,hj,rfl,e3,e7,e13,v6,hk6⟩
 have vsb6:=hk6 _ _ hbo vsb2
 by_cases hlj:j<k
 ·have hlj':(j:Int)<k:=by omega
  have hn':(k:Int)=s.places:=hn
  have hg:=Av4 (c:=c) (p:=(j:Int)) (by omega) (by rw [hf.len];omega)
  rw [Int.toNat_natCast] at hg
  have hgv:gI c (j:Int)<=1000:=by rcases hf.att j (by omega) (by omega) with h | h<;>omega
  have hxj:(ints c).toArray[j]?=some (.int .i64 (gI c j)):=by simpa using Aj6 hg
  have hput:(ints c).toArray.setIfInBounds j (.int .i64 (gI c j))=(ints c).toArray:=by
   rw [Bxn]
   congr 2
   apply List.ext_getElem?
   intro q
   rw [List.getElem?_set]
   split
   ·rename_i e;subst e
    rw [if_pos (by rw [hf.len];omega),hg]
   ·rfl
  have hjs:j<(ints c).toArray.size:=by rw [List.size_toArray,Aqz,hf.len];omega
  have hgv':¬1000<gI c (j:Int):=by omega
  replace hput:Aqk _:=hput
  clear hn' hg hgv
  generalize gI c (j:Int)=v at *
  generalize (ints c).toArray=CC at *
  (refine @unH _ (zA y55_179 ?_);(try clear hK K);intro K hK hc)
  rw [show CC.setIfInBounds j _=_ from hput]
  exact ⟨k-(j+1),by omega,_,j+1,rfl,by omega,rfl,e3,e7,rfl,Axh,hk6.set⟩
 have hlj':¬(j:Int)<k:=by omega
 (refine @unH _ (zA y55_179 ?_);(try clear hK K);intro K hK hc)
 (refine @unH _ ?_;refine z9 results55 ?_)
 refine ⟨_,rfl,?_,hk6.base l02 hHo⟩
 rw [<-show c=_ from hcR]
 exact Bxr v6 rfl (by rw [hf.len];have:(k:Int)=s.places:=hn;omega)
def y9_180:=aN @Dwj (aN @Dwz (aN @Dv4 (aN @Dwk (aN @Dw0 (aN @Dv5 (aN @Dwl (aN @Dw1 (aN @Dv6 (aN @Dw9 (aN @callF18 (aN @Dyo (aN @Dwq (aN @Dwn (aN @Dw2 @Dwm))))))))))))))
def prodF:List Dr->Int
 | []=>1
 | d::ds=>(d.mx-d.mn+1)*prodF ds
theorem prodF_snoc:∀(ds:List Dr) (d:Dr),prodF (ds++[d])=prodF ds*(d.mx-d.mn+1)
 | [],d=>by simp [prodF]
 | x::ds,d=>by
  show (x.mx-x.mn+1)*prodF (ds++[d])=(x.mx-x.mn+1)*prodF ds*_
  rw [prodF_snoc ds d,Int.mul_assoc]
theorem prodF_le:∀ {ds:List Dr},(∀d∈ds,1<=d.mx-d.mn+1/\d.mx-d.mn+1<=4)->1<=prodF ds/\prodF ds<=4 ^ ds.length
 | [],_=>by simp [prodF]
 | d::ds,h=>by
  obtain ⟨h1,h2⟩:=prodF_le fun x hx=>h x (List.mem_cons_of_mem d hx)
  obtain ⟨g1,g2⟩:=h d List.mem_cons_self
  unfold prodF
  rw [List.length_cons,Int.pow_succ]
  generalize (4:Int) ^ ds.length=y at *
  generalize prodF ds=x at *
  generalize d.mx-d.mn+1=z at *
  constructor
  ·have:=Int.mul_le_mul g1 h1 (by decide) (by omega)
   omega
  ·have:=Int.mul_le_mul g2 h2 (by omega) (by decide)
   rw [Int.mul_comm 4 y] at this
   exact this
def bigS (s:Sm):Bool:=decide (20<s.doors.length)||decide (20<s.hampers.length)||decide (20<s.noses.length)||(decide (chkS s=0)&&decide (32<prodF s.doors))
theorem bigS_no {s:Sm} (h:bigS s=false):s.doors.length<=20/\s.hampers.length<=20/\s.noses.length<=20/\(chkS s=0->prodF s.doors<=32):=by
 unfold bigS at h
 simp only [Bool.or_eq_false_iff,Bool.and_eq_false_iff,decide_eq_false_iff_not,Nat.not_lt,Int.not_lt] at h
 exact ⟨h.1.1.1,h.1.1.2,h.1.2,fun h0=>h.2.resolve_left fun h1=>h1 h0⟩
theorem large9_is (m:Md) (H:Hp) (s:Sm) (dv hv nv:Value) (hs:RsS H dv hv nv s) :
  FnX Tryz.prog m 9 #[smV s.places dv hv nv] H fun e H'=>e=.returned (.bool (bigS s))/\H.le H':=by
 have hB:bigS s=bigS s:=rfl
 revert hB
 generalize hZ:bigS s=Z
 intro _
 obtain ⟨da,dc,ha,kc,na,nc,rfl,rfl,rfl,-,-,-⟩:=hs.forms
 unfold bigS at hZ
 replace hZ:Aqk _:=hZ
 refine Aqn func9 rfl ntmps9 (by simp) ?_
 (refine @unH _ (zA y9_180 ?_);(try clear hK K);intro K hK hc)
 (intro sb hsb;generalize hG:Hp.set _ sb _=H1;have lH1:=Aqc hG hsb;have vsb:=Aqb hG;clear hG)
 have hs1:=hs.le lH1
 clear hs hsb
 by_cases h1:20<s.doors.length
 ·have h1':(20:Int)<s.doors.length:=by omega
  obtain rfl:Z=true:=by rw [<-show _=Z from hZ];simp [h1]
  clear h1 hZ
  (refine @unH _ (zU y9_180 ?_);(try clear hK K);intro K hK hc)
  (refine @unH _ ?_;refine z9 results9 ?_)
  exact ⟨trivial,lH1⟩
 have h1':¬(20:Int)<s.doors.length:=by omega
 by_cases h2:20<s.hampers.length
 ·have h2':(20:Int)<s.hampers.length:=by omega
  obtain rfl:Z=true:=by rw [<-show _=Z from hZ];simp [h2]
  clear h1 h2 hZ
  (refine @unH _ (zU y9_180 ?_);(try clear hK K);intro K hK hc)
  (refine @unH _ ?_;refine z9 results9 ?_)
  exact ⟨trivial,lH1⟩
 have h2':¬(20:Int)<s.hampers.length:=by omega
 by_cases h3:20<s.noses.length
 ·have h3':(20:Int)<s.noses.length:=by omega
  obtain rfl:Z=true:=by rw [<-show _=Z from hZ];simp [h3]
  clear h1 h2 h3 hZ
  (refine @unH _ (zU y9_180 ?_);(try clear hK K);intro K hK hc)
  (refine @unH _ ?_;refine z9 results9 ?_)
  exact ⟨trivial,lH1⟩
 have h3':¬(20:Int)<s.noses.length:=by omega
 have hC:=check9_is m H1 s _ _ _ hs1 (by omega) (by omega) (by omega)
 have hZ2:Z=(decide (chkS s=0)&&decide (32<prodF s.doors)):=by rw [<-show _=Z from hZ];simp [h1,h2,h3]
 clear hZ h1 h2 h3
 by_cases hz:chkS s=0
 ·have ok:=chkS_ok.1 hz
  rw [hz] at hC hZ2
  replace hZ2:Aqk (Z=decide (32<prodF s.doors)):=hZ2
  clear hz
  replace hC:Aqk _:=hC
  (refine @unH _ (zU y9_180 ?_);(try clear hK K);intro K hK hc)
  refine (FnX.calm (show FnX _ _ _ _ _ _ from hC)).mono ?_;rintro _ HQ ⟨rfl,hHQ⟩;rw [hHQ];clear hHQ HQ;(refine @unH _ (zU y9_180 ?_);(try clear hK K);intro K hK hc)
  clear hC
  have hdl:=ok.dl
  refine Axg (fun w a' H'=>∃e,∃k:Nat,w=s.doors.length-k/\k<=s.doors.length/\a'=act 51 e []/\e 1=.pointer (some ⟨sb,0,none⟩)/\e 3=.int .i64 (prodF (s.doors.take k))/\e 4=.int .i64 (k:Nat)/\H'=H1) (n:=s.doors.length) ?_ ?_
  ·exact ⟨_,0,by omega,by omega,rfl,rfl,(by rw [List.take_zero];rfl),rfl,rfl⟩
  rename_i eold
  clear eold
  rintro w a' HQ ⟨e,k,rfl,hk,rfl,e1,e3,e4,hHQ⟩
  rw [hHQ]
  clear hHQ HQ
  by_cases hlt:k<s.doors.length
  ·have hlt':(k:Int)<s.doors.length:=by omega
   have hkd:=List.getElem?_eq_getElem hlt
   have hdk:=ok.dk _ (List.mem_of_getElem? hkd)
   have hsn:prodF (s.doors.take (k+1))=prodF (s.doors.take k)*(s.doors[k].mx-s.doors[k].mn+1):=by
    rw [List.take_add_one,hkd]
    exact prodF_snoc _ _
   have hpl:1<=prodF (s.doors.take k)/\prodF (s.doors.take k)<=4096:=by
    have h:=prodF_le (ds:=s.doors.take k) fun d hd=>by
     have hx:=ok.dk d (List.mem_of_mem_take hd)
     have:=hx.m0;have:=hx.m1;have:=hx.m2
     omega
    refine ⟨h.1,Int.le_trans h.2 ?_⟩
    have h6:(s.doors.take k).length<=6:=by rw [List.length_take];omega
    have:(4:Int) ^ (s.doors.take k).length<=4 ^ 6:=by
     rcases (by omega:(s.doors.take k).length=0∨(s.doors.take k).length=1∨(s.doors.take k).length=2∨(s.doors.take k).length=3∨(s.doors.take k).length=4∨(s.doors.take k).length=5∨(s.doors.take k).length=6) with h | h | h | h | h | h | h<;>rw [h]<;>decide
    exact this
   obtain ⟨b,o,p,c,ee,fr,rfl,hb,-,-,hmn,hmx⟩:=RdD.get1 (show RdD H1 _ s.doors from hs1.dd) hkd
   clear hkd
   generalize s.doors[k]=d at *
   have g0:=hdk.m0
   have g1:=hdk.m1
   have g2:=hdk.m2
   have hm1:0<=prodF (s.doors.take k)*(d.mx-d.mn+1)/\prodF (s.doors.take k)*(d.mx-d.mn+1)<=4096*4:=⟨Int.mul_nonneg (by omega) (by omega),Int.mul_le_mul hpl.2 (by omega) (by omega) (by decide)⟩
   generalize prodF (s.doors.take k)=x at *
   replace hsn:Aqk _:=hsn
   (refine @unH _ (zA y9_180 ?_);(try clear hK K);intro K hK hc)
   (refine Aka 19 [(true,0),(true,1),(true,2),(true,3),(true,4),(true,5),(true,6),(true,7),(true,8),(true,9),(true,10),(true,11),(true,12),(true,13),(true,14),(true,15),(true,16),(true,17),(true,18)] (by kernel_rfl) (by kernel_rfl) (by simp) (by kernel_rfl) ?_;intro K hK;(iterate 19 (refine @unH _ ?_;refine z3 y9_180 ?_));refine Aky (hK _ _ ?_);clear hK K;(try refine @unH _ (zQ ?_)))
   (refine @unH _ (zA y9_180 ?_);(try clear hK K);intro K hK hc)
   exact ⟨s.doors.length-(k+1),by omega,_,k+1,rfl,by omega,rfl,e1,by rw [show prodF (s.doors.take (k+1))=_ from hsn];rfl,rfl,trivial⟩
  ·have hlt':¬(k:Int)<s.doors.length:=by omega
   obtain rfl:k=s.doors.length:=by omega
   rw [List.take_length] at e3
   generalize prodF s.doors=x at *
   (refine @unH _ (zA y9_180 ?_);(try clear hK K);intro K hK hc)
   (refine @unH _ ?_;refine z9 results9 ?_)
   exact ⟨by rw [show Z=_ from hZ2],lH1⟩
 ·obtain rfl:Z=false:=by rw [hZ2];simp [hz]
  clear hZ2
  generalize chkS s=y at *
  (refine @unH _ (zU y9_180 ?_);(try clear hK K);intro K hK hc)
  refine (FnX.calm (hC)).mono ?_;rintro _ HQ ⟨rfl,hHQ⟩;rw [hHQ];clear hHQ HQ;(refine @unH _ (zU y9_180 ?_);(try clear hK K);intro K hK hc)
  (refine @unH _ ?_;refine z9 results9 ?_)
  exact ⟨trivial,lH1⟩
def y11_181:=@bld_69_0_2_0
def y12_181:=aN @callF47 (aN @Dyw (aN @Dyh (aN @Dw9 (aN @Dyc (aN @callF48 (aN @Dx3 (aN @callF13 (aN @Dwj (aN @Dwz (aN @Dyb (aN (fun H=>Av3 (H:=H) underlying22 sizeOf30 zeroValue30 rfl (by decide) (by decide)) @Dy6)))))))))))
theorem fillS3 (a b c:Int) (d1 h1 n1 d2 h2 n2 d3 h3 n3:Value):Instr.fill (fun i=>some (i*4,4)) ((Array.range (3*4)).map fun x=>(Value.agg #[.int .i64 0,.slice none 0 0,.slice none 0 0,.slice none 0 0]).cells[x%(Value.agg #[.int .i64 0,.slice none 0 0,.slice none 0 0,.slice none 0 0]).cells.size]!) [(0,.agg #[.int .i64 a,d1,h1,n1]),(1,.agg #[.int .i64 b,d2,h2,n2]),(2,.agg #[.int .i64 c,d3,h3,n3])]=some #[.int .i64 a,d1,h1,n1,.int .i64 b,d2,h2,n2,.int .i64 c,d3,h3,n3]:=by
 kernel_rfl
theorem buildS3 {H:Hp} (a b c:Int) (d1 h1 n1 d2 h2 n2 d3 h3 n3:Value) (K:Value->Hp->Prop) (E:Value->Hp->Prop) :
  wpS Tryz.prog (Instr.buildSlice 37 3 #[(0,.agg #[.int .i64 a,d1,h1,n1]),(1,.agg #[.int .i64 b,d2,h2,n2]),(2,.agg #[.int .i64 c,d3,h3,n3])]) H K E=∀nb,H nb=none->K (.slice (some ⟨nb,0,none⟩) 3 3) (H.set nb (.cells #[.int .i64 a,d1,h1,n1,.int .i64 b,d2,h2,n2,.int .i64 c,d3,h3,n3] 26 (0,0))):=by
 unfold Instr.buildSlice
 have hn1:¬3*4>2 ^ 24:=by decide
 have hn2:¬3*4=0:=by decide
 simp only [Aqa,Aqj underlying37,Aq0 sizeOf26,hn1,hn2,if_false,Axe zeroValue26,Aqf]
 rw [fillS3]
 simp only [newRow,newObj,Aqa,wpS,Aqf]
theorem SmIn.leX {H H':Hp} {dv hv nv:Value} {s:Sm} (h:SmIn H dv hv nv s) {xb:Nat} {q:Bool} {c:Array Value} {fr:Nat×Nat} (hxb:H xb=some (q,.cells c 26 fr)) (hk:∀x u,H x=some u->x≠xb->H' x=some u):SmIn H' dv hv nv s:=by
 have key:∀(e:TypeId),e≠26->∀x p c2 fr2,H x=some (p,.cells c2 e fr2)->∃p',H' x=some (p',.cells c2 e fr2):=fun e he x p c2 fr2 hx=>⟨p,hk x _ hx fun e2=>by
  rw [e2,hxb] at hx
  simp only [Option.some.injEq,Prod.mk.injEq,Obj.cells.injEq] at hx
  exact he hx.2.2.1.symm⟩
 exact ⟨SlG.move h.dd (key _ (by decide)),h.hh.move fun x p c fr hx=>(key _ (by decide) x p c fr hx).elim fun p' hp=>by
  obtain ⟨p2,h2⟩:=key 3 (by decide) x p c fr hx
  exact hk x _ hx fun e2=>(by
   rw [e2,hxb] at hx
   simp only [Option.some.injEq,Prod.mk.injEq,Obj.cells.injEq] at hx
   exact absurd hx.2.2.1.symm (by decide)),SlG.move h.nn (key _ (by decide))⟩
def doorS (s:Sm) (d:Dr):Sm:=⟨s.places,s.doors++[d],s.hampers,s.noses⟩
structure Sev (H H':Hp) (v:Value) (qb:Nat) (p0:Int) (dv0 hv0 nv0:Value) (s1 s2:Sm) (dv1 hv1 nv1 dv2 hv2 nv2:Value):Prop where
 v:v=.slice (some ⟨qb,0,none⟩) 3 3
 q:H' qb=some (true,.cells #[.int .i64 p0,dv0,hv0,nv0,.int .i64 s1.places,dv1,hv1,nv1,.int .i64 s2.places,dv2,hv2,nv2] 26 (0,0))
 q0:H qb=none
 i1:SmIn H' dv1 hv1 nv1 s1
 i2:SmIn H' dv2 hv2 nv2 s2
 l1:s1.doors.length<=20/\s1.hampers.length<=20/\s1.noses.length<=20
 l2:s2.doors.length<=20/\s2.hampers.length<=20/\s2.noses.length<=20
theorem several9_spec (m:Md) (H:Hp) (p0:Int) (a0:Option Addr) (n0 c0:Nat) (a1:Option Addr) (n1 c1:Nat) (a2:Option Addr) (n2 c2:Nat) (d:Dr) (n:Ns) (tb k:Nat) (hT:TinI H tb (k+61)) :
  FnX Tryz.prog m 12 #[smV p0 (.slice a0 n0 c0) (.slice a1 n1 c1) (.slice a2 n2 c2),.agg #[.int .i64 d.a,.int .i64 d.b,.int .i64 d.mn,.int .i64 d.mx],.agg #[.int .i64 n.pl,.int .i64 n.hr,.bool n.sm],.pointer (some ⟨tb,0,none⟩)] H
   fun e H'=>∃v qb s1 s2 dv1 hv1 nv1 dv2 hv2 nv2,e=.returned v/\Sev H H' v qb p0 (.slice a0 n0 c0) (.slice a1 n1 c1) (.slice a2 n2 c2) s1 s2 dv1 hv1 nv1 dv2 hv2 nv2/\Lex (some tb) H H'/\TinI H' tb k:=by
 refine Aqn func12 rfl ntmps12 (by simp) ?_
 (refine @unH _ (zA y12_181 ?_);(try clear hK K);intro K hK hc)
 (intro sb hsb db hdb nb hnb;replace hnb:(Hp.set (Hp.set _ sb _) db _) nb=none:=hnb;replace hdb:(Hp.set _ sb _) db=none:=hdb;generalize hG:Hp.set _ sb _=H1 at hdb hnb ⊢;have lH1:=Aqc hG hsb;have wsb:=Aqb hG;clear hG;generalize hG:Hp.set _ db _=H2 at hnb ⊢;have lH2:=Aqc hG hdb;have wdb:=Aqb hG;have nsbdb:=Aqr wsb hdb;replace wsb:=lH2 _ _ wsb;clear hG;generalize hG:Hp.set _ nb _=H3;have lH3:=Aqc hG hnb;have vnb:=Aqb hG;have vsb:=lH3 _ _ wsb;have vdb:=lH3 _ _ wdb;have nsbnb:=Aqr wsb hnb;have ndbnb:=Aqr wdb hnb;clear hG wsb wdb)
 have l03:=Hp.le_trans lH1 (Hp.le_trans lH2 lH3)
 have hT3:=hT.le l03
 have x3:Lex (some tb) H H3:=Lex.of l03
 clear lH1 lH2 lH3 hsb hdb hnb
 (refine @unH _ (zU y12_181 ?_);(try clear hK K);intro K hK hc)
 refine (smellOf_spec m H3 tb (k+1) 4 false (by omega) (by omega) (hT3.less (by omega))).runs.mono ?_
 rintro _ H4 ⟨s1,dv1,hv1,nv1,cv,i,hr,ts,rfl,hs4,ok,hp5,hdl,hnl,hil,hr12,htk,hcv,-,x34,hT4,-⟩
 have hh1:=ok.h1
 have hp0:=ok.p0
 have vsb4:=x34.keeps vsb (hT3.off vsb (by decide))
 have vdb4:=x34.keeps vdb (hT3.off vdb (by decide))
 have vnb4:=x34.keeps vnb (hT3.off vnb (by decide))
 have x4:=x3.trans x34
 clear hcv htk hil hr12 vsb vdb vnb hT3 x3 x34 l03 ok hp5
 obtain ⟨da,dc,ha,kc,na,nc,rfl,rfl,rfl,-,-,-⟩:=hs4.forms
 (refine @unH _ (zU y12_181 ?_);intro _ _ hc)
 (intro mb hmb;generalize hG:Hp.set _ mb _=H5;have lH5:=Aqc hG hmb;have vmb:=Aqb hG;clear hG)
 have hs5:=hs4.le lH5
 have hT5:=hT4.le lH5
 have x5:=x4.le lH5
 have vsb5:=lH5 _ _ vsb4
 have vdb5:=lH5 _ _ vdb4
 have vnb5:=lH5 _ _ vnb4
 clear hs4 hT4 x4 vsb4 vdb4 vnb4 lH5 hmb
 (refine @unH _ (zU y12_181 ?_);(try clear hK K);intro K hK hc)
 refine (swith_spec m H5 s1 _ _ _ hs5 n (by omega)).runs.mono ?_
 rintro _ H6 ⟨nw,rfl,hw6,l56⟩
 obtain ⟨_,_,_,_,na',nc',h1,h2,rfl,-,-,-⟩:=id hw6.forms
 clear h1 h2
 have hs6:=hs5.le l56
 have hT6:=hT5.le l56
 have x6:=x5.le l56
 have vsb6:=l56 _ _ vsb5
 have vdb6:=l56 _ _ vdb5
 have vnb6:=l56 _ _ vnb5
 have vmb6:=l56 _ _ vmb
 clear hs5 hT5 x5 vsb5 vdb5 vnb5 vmb l56
 (refine @unH _ (zU y12_181 ?_);intro _ _ hc)
 (intro xb hxb;generalize hG:Hp.set _ xb _=H7;have lH7:=Aqc hG hxb;have vxb:=Aqb hG;clear hG)
 have hs7:=hs6.le lH7
 have hw7:=hw6.le lH7
 have hT7:=hT6.le lH7
 have x7:=x6.le lH7
 have vsb7:=lH7 _ _ vsb6
 have vdb7:=lH7 _ _ vdb6
 have vmb7:=lH7 _ _ vmb6
 have hxb0:H xb=none:=x6.gone hxb
 have nsx:=Aqr vsb6 hxb
 have ndx:=Aqr vdb6 hxb
 have nmx:=Aqr vmb6 hxb
 clear hs6 hw6 hT6 x6 vsb6 vdb6 vnb6 vmb6 lH7 hxb
 (refine @unH _ (zU y12_181 ?_);(try clear hK K);intro K hK hc)
 refine (Cvo m H7 tb k 2 (by omega) (by omega) hT7).runs.mono ?_
 rintro _ H8 ⟨r,rfl,x78,hT8⟩
 have hs8:=hs7.lexT hT7 x78
 have hw8:=hw7.lexT hT7 x78
 have vsb8:=x78.keeps vsb7 (hT7.off vsb7 (by decide))
 have vdb8:=x78.keeps vdb7 (hT7.off vdb7 (by decide))
 have vmb8:=x78.keeps vmb7 (hT7.off vmb7 (by decide))
 have vxb8:=x78.keeps vxb (hT7.off vxb (by decide))
 have x8:=x7.trans x78
 clear hs7 hw7 hT7 x7 x78 vsb7 vdb7 vmb7 vxb
 cases r with
 | false=>
  (refine @unH _ (zU (aN y12_181 @buildS3) ?_);(try clear hK K);intro K hK hc)
  (intro qb hqb;generalize hG:Hp.set _ qb _=H9;have lH9:=Aqc hG hqb;have vqb:=Aqb hG;clear hG)
  have q0:H qb=none:=x8.gone hqb
  have hs9:=hs8.le lH9
  have hw9:=hw8.le lH9
  have hT9:=hT8.le lH9
  have x9:=x8.le lH9
  clear hs8 hw8 hT8 x8 vsb8 vdb8 vmb8 vxb8 lH9 hqb
  (refine @unH _ (zU y12_181 ?_);(try clear hK K);intro K hK hc)
  (refine @unH _ ?_;refine z9 results12 ?_)
  refine ⟨_,qb,s1,withS s1 n,_,_,_,_,_,_,rfl,⟨rfl,vqb,q0,hs9,hw9,⟨by omega,by omega,by omega⟩,⟨?_,?_,?_⟩⟩,x9,hT9⟩
  ·show s1.doors.length<=20;omega
  ·show s1.hampers.length<=20;omega
  ·show (s1.noses++[n]).length<=20;rw [List.length_append,List.length_singleton];omega
 | true=>
  clear hw8
  (refine @unH _ (zU y12_181 ?_);(try clear hK K);intro K hK hc)
  refine (keepSmell_spec m H8 s1 _ _ _ hs8 (by omega) (by omega) (by omega)).runs.mono ?_
  rintro _ H9 ⟨dv',hv',nv',rfl,hr9,l89⟩
  have vsb9:=l89 _ _ vsb8
  have vdb9:=l89 _ _ vdb8
  have vmb9:=l89 _ _ vmb8
  have vxb9:=l89 _ _ vxb8
  have N8:∀x u,H8 x=some u->rowB dv'≠some x:=fun x u hu h=>by rw [hr9.dn x h] at hu;cases hu
  have G8:∀x,rowB dv'=some x->H x=none:=fun x h=>x8.gone (hr9.dn x h)
  obtain ⟨ka1,kc1,hf1⟩:=hr9.dd.form
  obtain ⟨ka2,kc2,hf2⟩:=hr9.hh.form
  obtain ⟨ka3,kc3,hf3⟩:=hr9.nn.form
  subst hf1 hf2 hf3
  replace N8:Aqk _:=N8
  replace G8:Aqk _:=G8
  (refine @unH _ (zU y12_181 ?_);(try clear hK K);intro K hK hc)
  intro g hg
  replace hg:(Hp.set H9 xb _) g=none:=hg
  generalize hG:Hp.set H9 xb _=H10 at hg ⊢
  have hr10:SmRow H8 H10 _ _ _ s1:=hG▸hr9.put vxb9
  have vsb10:=Aqi hG vsb9 nsx
  have vdb10:=Aqi hG vdb9 ndx
  have vmb10:=Aqi hG vmb9 nmx
  have vxb10:=Aqb hG
  have K10:∀x u,H8 x=some u->x≠xb->H10 x=some u:=fun x u hx hn=>Aqi hG (l89 _ _ hx) hn
  have hT10:TinI H10 tb k:=hG▸(hT8.le l89).own vxb9 (fun e=>(hT8.off vxb8 (by decide)) e.symm)
  have x10:Lex (some tb) H H10:=hG▸(x8.le l89).own hxb0
  clear hG vsb9 vdb9 vmb9 vxb9 l89 hr9 x8 hT8
  have hlen:(s1.doors.map Bx4).length<=1000000:=by rw [List.length_map];omega
  refine Aw8 underlying22 sizeOf30 zeroValue30 rfl typeInfo30 (by decide) (by decide) hr10.dd (ws:=Bx4 d) rfl hg (fun w hw=>by simp only [Bx4,List.mem_cons,List.not_mem_nil,or_false] at hw;rcases hw with rfl | rfl | rfl | rfl<;>rfl) hlen _ _ _ _ (fun v' H11 hrow hk hnw=>?_)
  have N8':∀x u,H8 x=some u->_:=(show ∀x u,H8 x=some u->rowB _≠some x from N8)
  have vsb11:=hk _ _ vsb10 (N8' _ _ vsb8)
  have vmb11:=hk _ _ vmb10 (N8' _ _ vmb8)
  have vxb11:=hk _ _ vxb10 (N8' _ _ vxb8)
  have K11:∀x u,H8 x=some u->x≠xb->H11 x=some u:=fun x u hx hn=>hk _ _ (K10 x u hx hn) (N8' _ _ hx)
  have hT11:=hT10.row hr10.dd (by decide) hk
  have x11:=x10.row (show ∀x,rowB _=some x->H x=none from G8) hk
  have hh11:=RowG.other hr10.dd hr10.hh (by decide) hk
  have hn11:=RowG.other hr10.dd hr10.nn (by decide) hk
  clear hk hnw hr10 K10 hT10 x10 vsb10 vmb10 vdb10 vxb10 hg hlen
  obtain ⟨_,_,hf1⟩:=hrow.form
  subst hf1
  replace hrow:Aqk _:=hrow
  replace hh11:Aqk _:=hh11
  replace hn11:Aqk _:=hn11
  replace K11:Aqk _:=K11
  clear N8'
  (refine @unH _ (zU (aN y12_181 @buildS3) ?_);(try clear hK K);intro K hK hc)
  intro qb hqb
  replace hqb:(Hp.set H11 xb _) qb=none:=hqb
  generalize hG:Hp.set H11 xb _=H12 at hqb ⊢
  have K12:∀x u,H8 x=some u->x≠xb->H12 x=some u:=fun x u hx hn=>Aqi hG ((show ∀x u,_->_->_ from K11) x u hx hn) hn
  have hT12:TinI H12 tb k:=hG▸hT11.own vxb11 (fun e=>(hT11.off vxb11 (by decide)) e.symm)
  have x12:Lex (some tb) H H12:=hG▸x11.own hxb0
  have hd12:RowG 30 4 H12 _ _:=hG▸RowG.put (show RowG _ _ H11 _ _ from hrow) vxb11 (by decide) _
  have hh12:RowG 3 1 H12 _ _:=hG▸RowG.put (show RowG _ _ H11 _ _ from hh11) vxb11 (by decide) _
  have hn12:RowG 32 3 H12 _ _:=hG▸RowG.put (show RowG _ _ H11 _ _ from hn11) vxb11 (by decide) _
  have hs12:=hs8.leX vxb8 K12
  have q0:H qb=none:=x12.gone hqb
  clear hG K12 K11 hrow hh11 hn11 hT11 x11 vsb11 vmb11 vxb11
  generalize hG:Hp.set H12 qb _=H13
  have lH13:=Aqc hG hqb
  have vqb:=Aqb hG
  clear hG
  have hs13:=hs12.le lH13
  have hT13:=hT12.le lH13
  have x13:=x12.le lH13
  have hw13:SmIn H13 _ _ _ (doorS s1 d):=⟨by
   show SlG _ _ H13 _ ((s1.doors++[d]).map Bx4)
   rw [List.map_append]
   exact (hd12.le lH13).slG (by decide),SlG.ints1 ((hh12.le lH13).slG (by decide)),(hn12.le lH13).slG (by decide)⟩
  clear hs12 hT12 x12 hd12 hh12 hn12 lH13 hqb
  replace hw13:Aqk _:=hw13
  (refine @unH _ (zU y12_181 ?_);(try clear hK K);intro K hK hc)
  (refine @unH _ ?_;refine z9 results12 ?_)
  refine ⟨_,qb,s1,doorS s1 d,_,_,_,_,_,_,rfl,⟨rfl,vqb,q0,hs13,hw13,⟨by omega,by omega,by omega⟩,⟨?_,?_,?_⟩⟩,x13,hT13⟩
  ·show (s1.doors++[d]).length<=20;rw [List.length_append,List.length_singleton];omega
  ·show s1.hampers.length<=20;omega
  ·show s1.noses.length<=20;omega
theorem newTinN_spec (m:Md) (H:Hp) (sa:Option Addr) (sl sc:Nat) (hs:∀i:Nat,i<sl->∃sb so c e fr x,sa=some ⟨sb,so,none⟩/\H sb=some (false,.cells c e fr)/\c[so+i]?=some (.int .i64 x)) (k:Nat) (hk:k<=4611686018427387904) :
  FnX Tryz.prog m 11 #[.slice sa sl sc] H fun e H'=>∃b,e=.returned (.pointer (some ⟨b,0,none⟩))/\H.le H'/\TinI H' b k/\H b=none:=by
 refine Aqn func11 rfl ntmps11 (by simp) ?_
 (refine @unH _ ?_;refine z1 @y11_181 ?_)
 (refine @unH _ ?_;refine z8 @y11_181 ?_;(try clear hK K);intro K hK _)
 intro b hb
 refine hK _ _ ?_;clear hK K
 (refine @unH _ ?_;refine z9 results11 ?_)
 refine ⟨b,rfl,Hp.le_set hb,⟨sa,sl,sc,0,_,Axh,by omega,by omega,fun i hi=>?_⟩,hb⟩
 obtain ⟨sb,so,c,e,fr,x,h1,h2,h3⟩:=hs i hi
 exact ⟨sb,so,c,e,fr,x,h1,Hp.le_set hb _ _ h2,h3⟩
theorem Sev.row {H H4 H5:Hp} {v:Value} {qb:Nat} {s0 s1 s2:Sm} {dv0 hv0 nv0 dv1 hv1 nv1 dv2 hv2 nv2:Value} {tb k:Nat} (hS:Sev H4 H5 v qb s0.places dv0 hv0 nv0 s1 s2 dv1 hv1 nv1 dv2 hv2 nv2) (hr:RsS H dv0 hv0 nv0 s0) (l:H.le H4) (h0:H tb=none) (x:Lex (some tb) H4 H5) (hT:TinI H5 tb k)
  (g:s0.doors.length<=20/\s0.hampers.length<=20/\s0.noses.length<=20) {c:Array Value} (hc:c=#[.int .i64 s0.places,dv0,hv0,nv0,.int .i64 s1.places,dv1,hv1,nv1,.int .i64 s2.places,dv2,hv2,nv2]) {i:Nat} (hi:i<3) :
  ∃s dv hv nv,c.extract (i*4) (i*4+4)=#[.int .i64 s.places,dv,hv,nv]/\i*4+4<=c.size/\(s.doors.length<=20/\s.hampers.length<=20/\s.noses.length<=20)/\∀H',Lex (some tb) H5 H'->RsS H' dv hv nv s:=by
 subst hc
 rcases (by omega:i=0∨i=1∨i=2) with rfl | rfl | rfl
 ·exact ⟨s0,dv0,hv0,nv0,rfl,(by show _<=12;omega),g,fun H' lx=>hr.le fun y u hy=>lx.keeps (x.keeps (l _ _ hy) (fun e=>by rw [e,h0] at hy;cases hy)) fun e=>by rw [e,h0] at hy;cases hy⟩
 ·exact ⟨s1,dv1,hv1,nv1,rfl,(by show _<=12;omega),hS.l1,fun H' lx=>(hS.i1.lexT hT lx).rd⟩
 ·exact ⟨s2,dv2,hv2,nv2,rfl,(by show _<=12;omega),hS.l2,fun H' lx=>(hS.i2.lexT hT lx).rd⟩
theorem ErrS.lx {H H4 H5 H':Hp} {tb:Nat} (h:ErrS H) (l:H.le H4) (h0:H tb=none) (x:Lex (some tb) H4 H5) (lx:Lex (some tb) H5 H'):ErrS H':=h.le fun y u hy=>lx.keeps (x.keeps (l _ _ hy) (fun e=>by rw [e,h0] at hy;cases hy)) fun e=>by rw [e,h0] at hy;cases hy
theorem three_at {a b c:Int} {k:Nat} (hk:k<3):∃x:Int,(#[.int .i64 a,.int .i64 b,.int .i64 c]:Array Value)[k]?=some (.int .i64 x):=by
 rcases (by omega:k=0∨k=1∨k=2) with rfl | rfl | rfl
 ·exact ⟨a,rfl⟩
 ·exact ⟨b,rfl⟩
 ·exact ⟨c,rfl⟩
def Kp2 (a b:Option Nat) (H H':Hp):Prop:=∀x u,H x=some u->a≠some x->b≠some x->H' x=some u
theorem Kp2.refl (a b:Option Nat) (H:Hp):Kp2 a b H H:=fun _ _ h _ _=>h
theorem Kp2.le {a b:Option Nat} {H H' H'':Hp} (h:Kp2 a b H H') (l:H'.le H''):Kp2 a b H H'':=fun x u hx h1 h2=>l _ _ (h x u hx h1 h2)
def RowN (H0:Hp) (v0:Value) (H:Hp) (v:Value) (xs:List Int):Prop:=RowG 3 1 H v (int1 xs)/\∀x,rowB v=some x->rowB v0=some x∨H0 x=none
def OneI (H0 H:Hp) (v:Value) (x:Int):Prop:=∃g,v=.slice (some ⟨g,0,none⟩) 1 1/\H g=some (true,.cells #[.int .i64 x] 3 (0,0))/\H0 g=none
theorem RowN.le {H0 H H':Hp} {v0 v:Value} {xs:List Int} (h:RowN H0 v0 H v xs) (l:H.le H'):RowN H0 v0 H' v xs:=⟨h.1.keep fun x u _ hu=>l _ _ hu,h.2⟩
theorem OneI.le {H0 H H':Hp} {v:Value} {x:Int} (h:OneI H0 H v x) (l:H.le H'):OneI H0 H' v x:=by
 obtain ⟨g,h1,h2,h3⟩:=h
 exact ⟨g,h1,l _ _ h2,h3⟩
theorem int1_snoc (xs:List Int) (x:Int):int1 xs++[[.int .i64 x]]=int1 (xs++[x]):=by simp [int1]
theorem int1_len (xs:List Int):(int1 xs).length=xs.length:=by simp [int1]
theorem int1_one {xs:List Int}:∀r∈int1 xs,∀u∈r,one u=true:=fun r hr u hu=>by
 simp only [int1,List.mem_map] at hr
 obtain ⟨x,_,rfl⟩:=hr
 rw [List.mem_singleton] at hu
 rw [hu]
 rfl
theorem append_I1 {H0 H:Hp} {v0:Value} {w:Value} {xs:List Int} {x:Int} (h:RowG 3 1 H v0 (int1 xs)) (hw:OneI H0 H w x) (h0:∀y,rowB v0=some y->∃u,H0 y=some u) (hn:xs.length<=100000) (hl:∀y,H y=none->H0 y=none) (ty:TypeId) (cb:Array Bool) (K:Next->Hp->Prop) (E:Value->Hp->Prop)
  (h':∀v' H',RowN H0 v0 H' v' (xs++[x])->(∀y u,H y=some u->rowB v0≠some y->H' y=some u)->(∀y,H' y=none->H y=none)->(∀y,rowB v'=some y->rowB v0=some y∨H y=none)->K (.value v') H') :
  wpS Tryz.prog (builtin .append #[23,23] ty cb #[v0,w]) H K E:=by
 obtain ⟨g,rfl,hg,hg0⟩:=hw
 refine append_RowGsD (by decide) underlying23 sizeOf3 zeroValue3 rfl typeInfo3 (by decide) (by decide) h (slG_one (ws:=[.int .i64 x]) rfl hg) (fun _ y o hy hr=>?_) (int1_one (xs:=[x])) (by rw [int1_len];simp;omega) ty cb K E fun v' H' hr hk hnw hdm=>h' v' H' ⟨by rw [<-int1_snoc];exact hr,fun y hy=>(hnw y hy).imp id (hl y)⟩ hk hdm hnw
 cases hy
 obtain ⟨u,hu⟩:=h0 _ hr
 rw [hg0] at hu
 cases hu
end Go.Proofs.YtaehjjbekjglkaaGreatDoor
end
