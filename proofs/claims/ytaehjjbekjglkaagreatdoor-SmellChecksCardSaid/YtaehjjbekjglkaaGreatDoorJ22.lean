/- Texts SmKc SmKg SmKn. -/
import Derived.Test.YtaehjjbekjglkaaGreatDoorJ21
set_option linter.defProp false
set_option linter.unusedSimpArgs false
set_option linter.unusedVariables false
set_option maxRecDepth 100000
set_option maxHeartbeats 2000000
section
namespace Go.X
open Go
theorem Dq4 {P:Program} {main:Md} {lp:Option Nat} {x:Code} {a:Act} {H:Hp} {Q:Exit->Act->Hp->Prop} (M:Act->Hp->Prop) (hx:wpX P main lp x (thn M Q) a H) (hy:∀a H,M a H->Q .normal a H):wpX P main lp x Q a H:=
 Az3 hx fun e a' H' q=>by cases e<;>first | exact hy _ _ q | exact q | exact q.elim
end Go.X
namespace Go.Proofs.YtaehjjbekjglkaaGreatDoor
open Go Go.X Go.Proofs.Tryz
def Aqy:=aN @Dwi (aN @Dw2 (aN @Dy4 (aN @Dyp (aN @Dy5 (aN @Dwj (aN @Dwz (aN @Dv4 (aN @Dyo (aN @Dyb (aN @Dyz (aN @Dyj (aN @Dwo @Dwp))))))))))))
theorem Dk3 {p q:Prop} (g:q) (h:Hid q->p:=by
 intro g
 repeat' (first
 | (refine Axz rfl ?_;intro Kz hKz;simp -implicitDefEqProofs (disch:=first | omega | (simp only [qd]<;>omega)) only [xq,↓xp,qc,Nat.reduceAdd,List.range,List.range.loop,fine,Nat.reduceEqDiff,↓reduceIte,yielded,reduceCtorEq,Nat.reduceLT,Nat.reduceMul,Nat.reduceSub,one,Nat.reduceLeDiff,Aqg,Aqy,aq,↓ap,qe0,qe1,qe2, *,-g,-hKz,Azm,Int.toNat_natCast,Nat.mul_one,hlc,Aqz];try (refine hKz _ _ ?_;clear hKz Kz))
 | (refine Azq rfl ?_;intro Kz hKz;simp -implicitDefEqProofs (disch:=first | omega | (simp only [qd]<;>omega)) only [xq,↓xp,qc,Nat.reduceAdd,List.range,List.range.loop,fine,Nat.reduceEqDiff,↓reduceIte,yielded,reduceCtorEq,Nat.reduceLT,Nat.reduceMul,Nat.reduceSub,one,Nat.reduceLeDiff,Aqg,Aqy,aq,↓ap,qe0,qe1,qe2, *,-g,-hKz,Azm,Int.toNat_natCast,Nat.mul_one,hlc,Aqz];try (refine hKz _ _ ?_;clear hKz Kz;(try simp only [nq,↓reduceIte,Nat.reduceEqDiff])))
 | (refine Aza ?_;(try simp only [nq,↓reduceIte,Nat.reduceEqDiff]))
 | (refine Azd ?_;(try simp only [nq,↓reduceIte,Nat.reduceEqDiff]))
 | (refine Az2 ?_;(try simp only [nq,↓reduceIte,Nat.reduceEqDiff]))
 | (refine Az9 ?_;(try simp only [nq,↓reduceIte,Nat.reduceEqDiff]))
 | (refine Azp (by simp only [Aq7,Axf,Nat.reduceEqDiff,Nat.reduceLT,↓reduceIte, *,-g];rfl) ?_ ?_<;>(intro hcz;first | (exfalso;simp -implicitDefEqProofs (disch:=omega) only [*,-g,bq,reduceCtorEq] at hcz;done) | (simp only [dq,qe3,qe4,qe5,qe6] at hcz) | skip))
 | (refine Azs ?_)
 | (refine Ax7 ?_)
 | (refine Axn ?_))
 refine unT ?_;(try (revert hcz;refine unC ?_));(repeat (revert hcz;refine unD ?_));first | revert Kz | refine unU ?_
 exact Hid.out g):Hid p:=⟨h ⟨g⟩⟩
theorem Dk5 {p q:Prop} (g:q) (h:Hid q->p:=by
 intro g
 repeat' (first
 | (refine Axz rfl ?_;intro Kz hKz;simp -implicitDefEqProofs (disch:=first | omega | (simp only [qd]<;>omega)) only [xq,↓xp,qc,Nat.reduceAdd,List.range,List.range.loop,fine,Nat.reduceEqDiff,↓reduceIte,yielded,reduceCtorEq,Nat.reduceLT,Nat.reduceMul,Nat.reduceSub,one,Nat.reduceLeDiff,Aqg,Aqy,aq,↓ap,qe0,qe1,qe2, *,-g,-hKz,Azm,Nat.mul_one,hpl,Aqz];try (refine hKz _ _ ?_;clear hKz Kz))
 | (refine Azq rfl ?_;intro Kz hKz;simp -implicitDefEqProofs (disch:=first | omega | (simp only [qd]<;>omega)) only [xq,↓xp,qc,Nat.reduceAdd,List.range,List.range.loop,fine,Nat.reduceEqDiff,↓reduceIte,yielded,reduceCtorEq,Nat.reduceLT,Nat.reduceMul,Nat.reduceSub,one,Nat.reduceLeDiff,Aqg,Aqy,aq,↓ap,qe0,qe1,qe2, *,-g,-hKz,Azm,Nat.mul_one,hpl,Aqz];try (refine hKz _ _ ?_;clear hKz Kz;(try simp only [nq,↓reduceIte,Nat.reduceEqDiff])))
 | (refine Aza ?_;(try simp only [nq,↓reduceIte,Nat.reduceEqDiff]))
 | (refine Azd ?_;(try simp only [nq,↓reduceIte,Nat.reduceEqDiff]))
 | (refine Az2 ?_;(try simp only [nq,↓reduceIte,Nat.reduceEqDiff]))
 | (refine Az9 ?_;(try simp only [nq,↓reduceIte,Nat.reduceEqDiff]))
 | (refine Azp (by simp only [Aq7,Axf,Nat.reduceEqDiff,Nat.reduceLT,↓reduceIte, *,-g];rfl) ?_ ?_<;>(intro hcz;first | (exfalso;simp -implicitDefEqProofs (disch:=omega) only [*,-g,bq,reduceCtorEq] at hcz;done) | (simp only [dq,qe3,qe4,qe5,qe6] at hcz) | skip))
 | (refine Azs ?_)
 | (refine Ax7 ?_)
 | (refine Axn ?_))
 refine unT ?_;(try (revert hcz;refine unC ?_));(repeat (revert hcz;refine unD ?_));first | revert Kz | refine unU ?_
 exact Hid.out g):Hid p:=⟨h ⟨g⟩⟩
theorem Cxe {E:Int->Int->Int->Prop} {pl p hr:Int} {c:List Int} (h:Av0 E pl p hr c) {a b t:Int} (hE:E a b t) (ht:1<=t) (ha0:0<=a) (ha1:a<pl) (hb0:0<=b) (hb1:b<pl) (p0:0<=p) (p1:p<pl) (hne:a≠b) {c':List Int} (hc:c'=if gI c a+t<gI c b then c.set b.toNat (gI c a+t) else c) :
  Av0 E pl p hr c'/\sumI c'<=sumI c/\(gI c a+t<gI c b->sumI c'<sumI c)/\gI c' a=gI c a/\gI c' b=if gI c a+t<gI c b then gI c a+t else gI c b:=by
 by_cases hlt:gI c a+t<gI c b
 ·rw [if_pos hlt] at hc
  subst hc
  have hl:=h.len
  have hs:=Cxy c b.toNat (gI c a+t) (gI c b) (Av4 hb0 (by omega))
  refine ⟨h.one hE ht ha0 ha1 hb0 hb1 p0 p1 hlt,by omega,fun _=>by omega,?_,?_⟩
  ·rw [Av5 hb0 (by omega) ha0,if_neg (Ne.symm hne)]
  ·rw [Av5 hb0 (by omega) hb0,if_pos rfl,if_pos hlt]
 ·rw [if_neg hlt] at hc
  subst hc
  exact ⟨h,Int.le_refl _,fun h=>absurd h hlt,rfl,by rw [if_neg hlt]⟩
def Aku (ob:Nat) (H H':Hp):Prop:=∀x u,x≠ob->H x=some u->H' x=some u
theorem Aku.refl (ob:Nat) (H:Hp):Aku ob H H:=fun _ _ _ h=>h
theorem Aku.le {ob:Nat} {H H' H'':Hp} (h:Aku ob H H') (l:H'.le H''):Aku ob H H'':=fun x u hx hu=>l _ _ (h x u hx hu)
theorem Aku.set {ob:Nat} {H H':Hp} {o:Obj} (h:Aku ob H H'):Aku ob H (H'.set ob o):=fun x u hx hu=>by rw [Aqv hx];exact h x u hx hu
theorem Aku.base {ob:Nat} {H H2 H':Hp} (h:Aku ob H2 H') (l:H.le H2) (hn:H ob=none):H.le H':=fun x u hx=>h x u (fun e=>by rw [e,hn] at hx;cases hx) (l _ _ hx)
theorem Bvx (m:Md) (H:Hp) (s:Sm) (dv hv nv:Value) (hs:SmIn H dv hv nv s) (ok:SmOk s) (p hr:Int) (p0:0<=p) (p1:p<s.places) (h0:0<=hr) (h1:hr<=12) (tv:Value) (ts:List Int) (ht:SlI H tv ts) (htk:ts∈Ax1 s.doors) :
  FnX Tryz.prog m 97 #[smV s.places dv hv nv,.int .i64 p,.int .i64 hr,tv] H fun e H'=>∃v,e=.returned v/\SlI H' v (Aw0 s p hr ts)/\H.le H':=by
 obtain ⟨da,dc,ha,kc,na,nc,rfl,rfl,rfl,l1,l2,l3⟩:=hs.forms
 obtain ⟨ta,tc,rfl,htc,_⟩:=id ht
 have k0:=ok.p0
 have k1:=ok.p1
 have k2:=ok.dl
 refine Aqn func97 rfl ntmps97 (by simp) ?_
 (refine @unH _ (zA Aqy ?_);(try clear hK K);intro K hK hc)
 (intro sb hsb;generalize hG:Hp.set _ sb _=H1;have lH1:=Aqc hG hsb;have vsb:=Aqb hG;clear hG)
 have hs1:=hs.le lH1
 have ht1:=ht.le lH1
 have hs0:SmIn H (.slice da s.doors.length dc) (.slice ha s.hampers.length kc) (.slice na s.noses.length nc) s:=hs
 have ht0:SlI H (.slice ta ts.length tc) ts:=ht
 clear hs ht
 obtain ⟨n,hn⟩:∃n:Nat,(n:Int)=s.places:=⟨s.places.toNat,by omega⟩
 rw [<-hn] at vsb ⊢
 have hn6:n<=6:=by omega
 replace hn:Aqk _:=hn
 (refine @unH _ (zU Aqy ?_);(try clear hK K);intro K hK hc)
 intro ob hob
 generalize hG:Hp.set H1 ob _=H2
 have l12:=Aqc hG hob
 have vob:=Aqb hG
 clear hG
 have vsb2:=l12 _ _ vsb
 have hs2:=hs1.le l12
 have ht2:=ht1.le l12
 have l02:=Hp.le_trans lH1 l12
 have hbo:sb≠ob:=fun e=>by rw [<-e,vsb] at hob;cases hob
 have hHo:H ob=none:=by
  cases hx:H ob with
  | none=>rfl
  | some u=>have:=lH1 _ _ hx;rw [hob] at this;cases this
 clear hs1 ht1 vsb
 (refine @unH _ (zU Aqy ?_);(try clear hK K);intro K hK hc)
 refine Axg (fun w a' H'=>∃e j c,w=n-j/\j<=n/\a'=act 104 e []/\e 1=.int .i64 p/\e 2=.int .i64 hr/\e 3=.slice ta ts.length tc/\e 4=.pointer (some ⟨sb,0,none⟩)/\e 9=.slice (some ⟨ob,0,none⟩) n n/\e 10=.int .i64 (j:Nat) /\
  H' ob=some (true,.cells (ints c).toArray 3 (0,0))/\Aku ob H2 H'/\(c.length<=n/\n<=c.length)/\Aqk (∀i,i<j->c[i]?=some 1000)) (n:=n) ?_ ?_
 ·refine ⟨_,0,List.replicate n 0,by omega,by omega,rfl,rfl,rfl,rfl,rfl,rfl,rfl,?_,Aku.refl _ _,by simp,fun i hi=>by omega⟩
  rw [vob]
  simp [ints]
 ·rintro w a' H3 ⟨e,j,c,rfl,hj,rfl,e1,e2,e3,e4,e9,e10,v3,hk,hcl,hcv⟩
  have vsb3:=hk _ _ hbo vsb2
  by_cases hlt:j<n
  ·have hlt':(j:Int)<n:=by omega
   have hlc:j<(ints c).length:=by rw [Aqz];omega
   (refine @unH _ (Dk3 ?_);(try clear hK K);intro K hK hc)
   refine ⟨n-(j+1),by omega,_,j+1,c.set j 1000,rfl,hlt,rfl,e1,e2,e3,e4,e9,rfl,Axh,hk.set,by rw [List.length_set];exact hcl,fun i hi=>?_⟩
   have hcv:∀i,i<j->c[i]?=some 1000:=hcv
   rw [List.getElem?_set]
   by_cases hij:j=i
   ·rw [if_pos hij,if_pos (by omega)]
   ·rw [if_neg hij]
    exact hcv i (by omega)
  ·have hlt':¬(j:Int)<n:=by omega
   have hcv:∀i,i<j->c[i]?=some 1000:=hcv
   obtain rfl:c=List.replicate n 1000:=by
    apply List.ext_getElem?
    intro i
    rw [List.getElem?_replicate]
    by_cases hi:i<n
    ·rw [if_pos hi,hcv i (by omega)]
    ·rw [if_neg hi,List.getElem?_eq_none (by omega)]
   clear hcv hcl hj hlt
   have hpn:p<(n:Int):=by have:(n:Int)=s.places:=hn;omega
   have hpl:p.toNat<(ints (List.replicate n (1000:Int))).length:=by rw [Aqz,List.length_replicate];omega
   have hco:Av0 (Edg s.doors ts) s.places p hr ((List.replicate n (1000:Int)).set p.toNat hr):=by
    have e:n=s.places.toNat:=by have:(n:Int)=s.places:=hn;omega
    rw [e]
    exact Av0.start _ p0 p1 h1
   (refine @unH _ (Dk5 ?_);(try clear hK K);intro K hK hc)
   generalize hG:Hp.set H3 ob _=H4
   have v4:H4 ob=some (true,.cells (ints ((List.replicate n (1000:Int)).set p.toNat hr)).toArray 3 (0,0)):=by rw [<-hG,Axh]
   have hk4:Aku ob H2 H4:=by rw [<-hG];exact hk.set
   clear hG hk v3 vsb3
   generalize (List.replicate n (1000:Int)).set p.toNat hr=c0 at v4 hco
   refine ⟨by rw [List.length_replicate];omega,?_⟩
   refine hK _ _ ?_
   clear hK K hcv hpl e10
   (try refine @unH _ (zQ ?_))
   (refine @unH _ (zA Aqy ?_);(try clear hK K);intro K hK hc)
   refine Axg (fun w a' H'=>∃e fl c,w=(sumI c).toNat+(if fl then 1 else 0)/\a'=act 104 e []/\e 3=.slice ta ts.length tc/\e 4=.pointer (some ⟨sb,0,none⟩)/\e 9=.slice (some ⟨ob,0,none⟩) n n/\e 11=.bool fl /\
    H' ob=some (true,.cells (ints c).toArray 3 (0,0))/\Aku ob H2 H'/\Av0 (Edg s.doors ts) s.places p hr c/\Aqk (fl=false->∀(i:Nat) (d:Dr) (t:Int),s.doors[i]?=some d->ts[i]?=some t->gI c d.b<=gI c d.a+t/\gI c d.a<=gI c d.b+t)) (n:=(sumI c0).toNat+1) ?_ ?_
   ·exact ⟨_,true,c0,rfl,rfl,e3,e4,e9,rfl,v4,hk4,hco,fun h=>by cases h⟩
   clear v4 hk4 hco e1 e2 e3 e4 e9
   rintro w a' H5 ⟨e,fl,c,rfl,rfl,e3,e4,e9,e11,v5,hk5,hco5,hst⟩
   cases fl with
   | false=>
    (refine @unH _ (zA Aqy ?_);(try clear hK K);intro K hK hc)
    (refine @unH _ ?_;refine z9 results97 ?_)
    have hst:∀(i:Nat) (d:Dr) (t:Int),s.doors[i]?=some d->ts[i]?=some t->gI c d.b<=gI c d.a+t/\gI c d.a<=gI c d.b+t:=(show false=false->_ from hst) rfl
    have hce:c=Aw0 s p hr ts:=hco5.is ok htk h0 h1 p0 p1 fun a b t he=>by
     obtain ⟨i,d,g1,g2,g3⟩:=he.ix
     have:=hst i d t g1 g2
     rcases g3 with ⟨rfl,rfl⟩ | ⟨rfl,rfl⟩
     ·exact this.1
     ·exact this.2
    refine ⟨_,rfl,?_,hk5.base l02 hHo⟩
    rw [<-hce]
    have hcl:n=c.length:=by have:=hco5.len;have:(n:Int)=s.places:=hn;omega
    exact Bxr v5 rfl hcl
   | true=>
    clear hst
    (refine @unH _ (zA Aqy ?_);(try clear hK K);intro K hK hc)
    refine Axg (fun w a' H'=>∃e i fl c',w=s.doors.length-i/\i<=s.doors.length/\a'=act 104 e []/\e 3=.slice ta ts.length tc/\e 4=.pointer (some ⟨sb,0,none⟩)/\e 9=.slice (some ⟨ob,0,none⟩) n n/\e 11=.bool fl/\e 12=.int .i64 (i:Nat) /\
     H' ob=some (true,.cells (ints c').toArray 3 (0,0))/\Aku ob H2 H'/\Av0 (Edg s.doors ts) s.places p hr c'/\Aqk (fl=true->sumI c'<sumI c)/\Aqk (fl=false->c'=c/\∀(j:Nat) (d:Dr) (t:Int),j<i->s.doors[j]?=some d->ts[j]?=some t->gI c d.b<=gI c d.a+t/\gI c d.a<=gI c d.b+t)) (n:=s.doors.length) ?_ ?_
    ·exact ⟨_,0,false,c,rfl,by omega,rfl,e3,e4,e9,rfl,rfl,v5,hk5,hco5,fun h=>(by cases h),fun _=>⟨rfl,fun _ _ _ h=>by omega⟩⟩
    clear v5 hk5 e3 e4 e9 e11
    rintro w a' H6 ⟨e,i,fl,c6,rfl,hi,rfl,e3,e4,e9,e11,e12,v6,hk6,hco6,ht6,hf6⟩
    have l06:=hk6.base l02 hHo
    have vsb6:=hk6 _ _ hbo vsb2
    by_cases hlt:i<s.doors.length
    ·have hkd:=List.getElem?_eq_getElem hlt
     have hdk:=ok.dk _ (List.mem_of_getElem? hkd)
     have hil:i<ts.length:=by rw [Ake htk];exact hlt
     have hkt:=List.getElem?_eq_getElem hil
     have hEd:=Edg.of hkd hkt
     have ht1:=((Akd (pl:=s.places) ok.dk).1 htk).2 i _ _ hkd hkt
     have hlt':(i:Int)<s.doors.length:=by omega
     obtain ⟨db,dof,dp,dcl,dfr,rfl,hdb2,hdsz,hdrl,hdext⟩:=SlG.get (hs0.le l06).dd (i:=i) (r:=Bx4 s.doors[i]) (by rw [List.getElem?_map,hkd];rfl)
     obtain ⟨xb,xo,xc,bown,xcl,xfr,hve,_,hxb0,hxx⟩:=ht0.cons (fun h=>absurd (congrArg List.length h) (by simp only [List.length_nil];omega))
     cases hve
     have hxb:=l06 _ _ hxb0
     have hbx:xb≠ob:=fun e=>by rw [e,hHo] at hxb0;cases hxb0
     clear hxb0
     have hxi:=hxx i ts[i] hkt
     clear hxx
     replace hkd:Aqk _:=hkd
     replace hkt:Aqk _:=hkt
     generalize s.doors[i]=d at *
     generalize ts[i]=t at *
     unfold Bx4 at hdext
     have ha0:=hdk.a0
     have ha1:=hdk.a1
     have hb0:=hdk.b0
     have hb1:=hdk.b1
     have hn':(n:Int)=s.places:=hn
     have han:d.a<(n:Int):=by omega
     have hbn:d.b<(n:Int):=by omega
     have hxa:(ints c6).toArray[d.a.toNat]?=some (.int .i64 (gI c6 d.a)):=by
      have hg:=Av4 (c:=c6) ha0 (by rw [hco6.len];omega)
      simpa using Aj6 hg
     have hxb2:(ints c6).toArray[d.b.toNat]?=some (.int .i64 (gI c6 d.b)):=by
      have hg:=Av4 (c:=c6) hb0 (by rw [hco6.len];omega)
      simpa using Aj6 hg
     clear hn' hdrl
     have t1:1<=t/\t<=4:=by have:=hdk.m0;have:=hdk.m2;omega
     have bA:=hco6.le ha0 ha1
     have bA':=hco6.pos d.a ha0 ha1
     have bB:=hco6.le hb0 hb1
     have bB':=hco6.pos d.b hb0 hb1
     generalize hA:gI c6 d.a=A at *
     generalize hB:gI c6 d.b=B at *
     replace hA:Aqk _:=hA
     replace hB:Aqk _:=hB
     replace ht1:Aqk _:=ht1
     generalize hCC:(ints c6).toArray=CC at *
     replace hCC:Aqk _:=hCC
     (refine @unH _ (zA Aqy ?_);(try clear hK K);intro K hK hc)
     (intro tb htb;generalize hG:Hp.set _ tb _=H7;have lH7:=Aqc hG htb;have vtb:=Aqb hG;clear hG)
     have v7:=lH7 _ _ v6
     have xb7:=lH7 _ _ hxb
     have hk7:=hk6.le lH7
     have hbt:tb≠ob:=fun e=>by rw [e,v6] at htb;cases htb
     clear lH7 v6 hxb hk6 hdb2 hdsz hdext l06 vsb6 htb
     refine hK _ _ ?_
     clear hK K
     (try refine @unH _ (zQ ?_))
     have hCs:CC.size=n:=by
      have h1:(ints c6).toArray=CC:=hCC
      have h2:(n:Int)=s.places:=hn
      rw [<-h1,List.size_toArray,Aqz,hco6.len]
      omega
     have ha':d.a.toNat<CC.size:=by omega
     have hb':d.b.toNat<CC.size:=by omega
     have c7e:∃c7:List Int,Aqk (c7=if A+t<B then c6.set d.b.toNat (A+t) else c6):=⟨_,rfl⟩
     obtain ⟨c7,hc7⟩:=c7e
     have hq1:∀o,Hp.cell H7 ⟨ob,o,none⟩=CC[o]?:=fun o=>cell_of v7
     have hq2:∀o,Hp.cell H7 ⟨tb,o,none⟩=(#[.int .i64 d.a,.int .i64 d.b,.int .i64 d.mn,.int .i64 d.mx]:Array Value)[o]?:=fun o=>cell_of vtb
     have hq3:∀o,Hp.cell H7 ⟨xb,o,none⟩=xcl[o]?:=fun o=>cell_of xb7
     refine Avt (fun a' H'=>∃e,a'=act 104 e []/\e 3=.slice (some ⟨xb,xo,none⟩) ts.length tc/\e 4=.pointer (some ⟨sb,0,none⟩)/\e 9=.slice (some ⟨ob,0,none⟩) n n/\e 11=.bool (if A+t<B then true else fl)/\e 12=.int .i64 (i:Nat)/\e 13=.pointer (some ⟨tb,0,none⟩) /\
      H' ob=some (true,.cells (ints c7).toArray 3 (0,0))/\Aku ob H7 H') ?_ ?_
     ·refine Axn ?_
      refine Axm (fun HX=>HX=H7) [] (.free 0 (.free 1 (.take 2 (.free 3 (.take 4 (.free 5 (.free 6 (.free 7 (.take 8 (.free 9 (.free 10 (.free 11 (.take 12 (.free 13 (.take 14 (.free 15 .nil)))))))))))))))) (by kernel_rfl) (by kernel_rfl) (by decide) (by kernel_rfl) ?_;intro K hK
      refine Ax6 fun ops hOz=>?_
      (iterate 2 (refine @unH _ ?_;refine zF Aqy ?_))
      (refine @unH _ ?_;refine zL (aN Aqy @exists_eq_left'.{1}) ?_)
      (refine @unH _ ?_;refine zF Aqy ?_)
      (refine @unH _ ?_;refine zL (aN Aqy @exists_eq_left'.{1}) ?_)
      (iterate 3 (refine @unH _ ?_;refine zF Aqy ?_))
      (refine @unH _ ?_;refine zL (aN Aqy @exists_eq_left'.{1}) ?_)
      (iterate 3 (refine @unH _ ?_;refine zF Aqy ?_))
      (refine @unH _ ?_;refine zL (aN Aqy @exists_eq_left'.{1}) ?_)
      (refine @unH _ ?_;refine zF Aqy ?_)
      (refine @unH _ ?_;refine zL (aN Aqy @exists_eq_left'.{1}) ?_)
      (refine @unH _ ?_;refine zF Aqy ?_)
      (refine Az6 (hK _ _ ?_);clear hK K;(try simp only [nq,↓reduceIte,Nat.reduceEqDiff]))
      by_cases hAB:A+t<B
      ·(refine @unH _ (zA Aqy ?_);(try clear hK K);intro K hK hc)
       refine Axm (fun HX=>HX=H7) [14] (.free 0 (.free 1 (.take 2 (.free 3 (.free 4 (.take 5 (.free 6 (.take 7 (.free 8 (.free 9 (.free 10 (.take 11 (.free 12 (.free 13 (.one 14 (.free 15 .nil)))))))))))))))) (by kernel_rfl) (by kernel_rfl) (by decide) (by kernel_rfl) ?_;intro K hK
       refine Ax6 fun ops hOz=>?_
       (iterate 2 (refine @unH _ ?_;refine zF Aqy ?_))
       (refine @unH _ ?_;refine zL (aN Aqy @exists_eq_left'.{1}) ?_)
       (iterate 2 (refine @unH _ ?_;refine zF Aqy ?_))
       (refine @unH _ ?_;refine zL (aN Aqy @exists_eq_left'.{1}) ?_)
       (refine @unH _ ?_;refine zF Aqy ?_)
       (refine @unH _ ?_;refine zL (aN Aqy @exists_eq_left'.{1}) ?_)
       (iterate 3 (refine @unH _ ?_;refine zF Aqy ?_))
       (refine @unH _ ?_;refine zL (aN Aqy @exists_eq_left'.{1}) ?_)
       (iterate 2 (refine @unH _ ?_;refine zF Aqy ?_))
       (refine @unH _ ?_;refine zM (aN Aqy @exists_eq_left'.{1}) ?_)
       refine ⟨.inl (by decide),?_⟩
       (refine @unH _ ?_;refine zF Aqy ?_)
       (refine Az6 (hK _ _ ?_);clear hK K;(try simp only [nq,↓reduceIte,Nat.reduceEqDiff]))
       have hp7:CC.setIfInBounds d.b.toNat (.int .i64 (A+t))=(ints c7).toArray:=by
        rw [show c7=_ from hc7,if_pos hAB,<-show (ints c6).toArray=CC from hCC,Bxn]
       rw [hp7]
       exact ⟨_,rfl,e3,e4,e9,by rw [if_pos hAB];rfl,e12,rfl,Axh,(Aku.refl _ _).set⟩
      ·(refine @unH _ (zA Aqy ?_);(try clear hK K);intro K hK hc)
       have hp7:CC=(ints c7).toArray:=by
        rw [show c7=_ from hc7,if_neg hAB,<-show (ints c6).toArray=CC from hCC]
       exact ⟨_,rfl,e3,e4,e9,by rw [if_neg hAB];exact e11,e12,rfl,by rw [v7,hp7],Aku.refl _ _⟩
     ·clear e3 e4 e9 e11 e12 hq1 hq2 hq3
      rintro a H8 ⟨e,rfl,e3,e4,e9,e11,e12,e13,v8,hk78⟩
      obtain ⟨hco7,hs7,ht7,hA7,hB7⟩:=Cxe hco6 hEd t1.1 ha0 ha1 hb0 hb1 p0 p1 hdk.ne (c':=c7) (by rw [show gI c6 d.a=A from hA,show gI c6 d.b=B from hB];exact hc7)
      rw [show gI c6 d.a=A from hA,show gI c6 d.b=B from hB] at ht7 hB7
      rw [show gI c6 d.a=A from hA] at hA7
      have hcl7:=hco7.len
      have hn':(n:Int)=s.places:=hn
      have hxa:(ints c7).toArray[d.a.toNat]?=some (.int .i64 (gI c7 d.a)):=by
       have hg:=Av4 (c:=c7) ha0 (by omega)
       simpa using Aj6 hg
      have hxb2:(ints c7).toArray[d.b.toNat]?=some (.int .i64 (gI c7 d.b)):=by
       have hg:=Av4 (c:=c7) hb0 (by omega)
       simpa using Aj6 hg
      have hCs:(ints c7).toArray.size=n:=by rw [List.size_toArray,Aqz];omega
      clear hn'
      have vtb8:=hk78 _ _ hbt vtb
      have xb8:=hk78 _ _ hbx xb7
      have hk8:Aku ob H2 H8:=fun x u hx hu=>hk78 x u hx (hk7 x u hx hu)
      clear hk7 hk78 vtb xb7 v7 hbt
      replace hA7:Aqk _:=hA7
      replace hB7:Aqk _:=hB7
      replace hc7:Aqk _:=hc7
      replace hs7:Aqk _:=hs7
      replace ht7:Aqk _:=ht7
      generalize hAg:gI c7 d.a=A7 at *
      generalize hBg:gI c7 d.b=B7 at *
      have bA:=hco7.le ha0 ha1
      have bA':=hco7.pos d.a ha0 ha1
      have bB:=hco7.le hb0 hb1
      have bB':=hco7.pos d.b hb0 hb1
      rw [hAg] at bA bA'
      rw [hBg] at bB bB'
      replace hAg:Aqk _:=hAg
      replace hBg:Aqk _:=hBg
      clear hCC hcl7
      generalize hCC7:(ints c7).toArray=C7 at *
      replace hCC7:Aqk _:=hCC7
      have ha':d.a.toNat<C7.size:=by omega
      have hb':d.b.toNat<C7.size:=by omega
      have hq1:∀o,Hp.cell H8 ⟨ob,o,none⟩=C7[o]?:=fun o=>cell_of v8
      have hq2:∀o,Hp.cell H8 ⟨tb,o,none⟩=(#[.int .i64 d.a,.int .i64 d.b,.int .i64 d.mn,.int .i64 d.mx]:Array Value)[o]?:=fun o=>cell_of vtb8
      have hq3:∀o,Hp.cell H8 ⟨xb,o,none⟩=xcl[o]?:=fun o=>cell_of xb8
      obtain ⟨c8,hc8⟩:∃c8:List Int,Aqk (c8=if B7+t<A7 then c7.set d.a.toNat (B7+t) else c7):=⟨_,rfl⟩
      refine Dq4 (fun a' H'=>∃e,a'=act 104 e []/\e 3=.slice (some ⟨xb,xo,none⟩) ts.length tc/\e 4=.pointer (some ⟨sb,0,none⟩)/\e 9=.slice (some ⟨ob,0,none⟩) n n/\e 11=.bool (if B7+t<A7 then true else (if A+t<B then true else fl))/\e 12=.int .i64 (i:Nat) /\
       H' ob=some (true,.cells (ints c8).toArray 3 (0,0))/\Aku ob H8 H') ?_ ?_
      ·refine Axn ?_
       refine Axm (fun HX=>HX=H8) [] (.free 0 (.free 1 (.take 2 (.free 3 (.take 4 (.free 5 (.free 6 (.free 7 (.take 8 (.free 9 (.free 10 (.free 11 (.take 12 (.free 13 (.take 14 (.free 15 .nil)))))))))))))))) (by kernel_rfl) (by kernel_rfl) (by decide) (by kernel_rfl) ?_;intro K hK
       refine Ax6 fun ops hOz=>?_
       (iterate 2 (refine @unH _ ?_;refine zF Aqy ?_))
       (refine @unH _ ?_;refine zL (aN Aqy @exists_eq_left'.{1}) ?_)
       (refine @unH _ ?_;refine zF Aqy ?_)
       (refine @unH _ ?_;refine zL (aN Aqy @exists_eq_left'.{1}) ?_)
       (iterate 3 (refine @unH _ ?_;refine zF Aqy ?_))
       (refine @unH _ ?_;refine zL (aN Aqy @exists_eq_left'.{1}) ?_)
       (iterate 3 (refine @unH _ ?_;refine zF Aqy ?_))
       (refine @unH _ ?_;refine zL (aN Aqy @exists_eq_left'.{1}) ?_)
       (refine @unH _ ?_;refine zF Aqy ?_)
       (refine @unH _ ?_;refine zL (aN Aqy @exists_eq_left'.{1}) ?_)
       (refine @unH _ ?_;refine zF Aqy ?_)
       (refine Az6 (hK _ _ ?_);clear hK K;(try simp only [nq,↓reduceIte,Nat.reduceEqDiff]))
       by_cases hBA:B7+t<A7
       ·(refine @unH _ (zA Aqy ?_);(try clear hK K);intro K hK hc)
        refine Axm (fun HX=>HX=H8) [14] (.free 0 (.free 1 (.take 2 (.free 3 (.free 4 (.take 5 (.free 6 (.take 7 (.free 8 (.free 9 (.free 10 (.take 11 (.free 12 (.free 13 (.one 14 (.free 15 .nil)))))))))))))))) (by kernel_rfl) (by kernel_rfl) (by decide) (by kernel_rfl) ?_;intro K hK
        refine Ax6 fun ops hOz=>?_
        (iterate 2 (refine @unH _ ?_;refine zF Aqy ?_))
        (refine @unH _ ?_;refine zL (aN Aqy @exists_eq_left'.{1}) ?_)
        (iterate 2 (refine @unH _ ?_;refine zF Aqy ?_))
        (refine @unH _ ?_;refine zL (aN Aqy @exists_eq_left'.{1}) ?_)
        (refine @unH _ ?_;refine zF Aqy ?_)
        (refine @unH _ ?_;refine zL (aN Aqy @exists_eq_left'.{1}) ?_)
        (iterate 3 (refine @unH _ ?_;refine zF Aqy ?_))
        (refine @unH _ ?_;refine zL (aN Aqy @exists_eq_left'.{1}) ?_)
        (iterate 2 (refine @unH _ ?_;refine zF Aqy ?_))
        (refine @unH _ ?_;refine zM (aN Aqy @exists_eq_left'.{1}) ?_)
        refine ⟨.inl (by decide),?_⟩
        (refine @unH _ ?_;refine zF Aqy ?_)
        (refine Az6 (hK _ _ ?_);clear hK K;(try simp only [nq,↓reduceIte,Nat.reduceEqDiff]))
        have hp8:C7.setIfInBounds d.a.toNat (.int .i64 (B7+t))=(ints c8).toArray:=by
         rw [show c8=_ from hc8,if_pos hBA,<-show (ints c7).toArray=C7 from hCC7,Bxn]
        rw [hp8]
        exact ⟨_,rfl,e3,e4,e9,by rw [if_pos hBA];rfl,e12,Axh,(Aku.refl _ _).set⟩
       ·(refine @unH _ (zA Aqy ?_);(try clear hK K);intro K hK hc)
        have hp8:C7=(ints c8).toArray:=by
         rw [show c8=_ from hc8,if_neg hBA,<-show (ints c7).toArray=C7 from hCC7]
        exact ⟨_,rfl,e3,e4,e9,by rw [if_neg hBA];exact e11,e12,by rw [v8,hp8],Aku.refl _ _⟩
      ·clear e3 e4 e9 e11 e12 e13 hq1 hq2 hq3
       rintro a H9 ⟨e,rfl,e3,e4,e9,e11,e12,v9,hk89⟩
       clear hxa hxb2 ha' hb' hCs hCC7 v8 vtb8 xb8
       (try refine @unH _ (zQ ?_))
       (refine @unH _ (zA Aqy ?_);(try clear hK K);intro K hK hc)
       obtain ⟨hco8,hs8,ht8,_,_⟩:=Cxe hco7 hEd.symm t1.1 hb0 hb1 ha0 ha1 p0 p1 (Ne.symm hdk.ne) (c':=c8) (by rw [show gI c7 d.a=A7 from hAg,show gI c7 d.b=B7 from hBg];exact hc8)
       rw [show gI c7 d.a=A7 from hAg,show gI c7 d.b=B7 from hBg] at ht8
       have hs7:sumI c7<=sumI c6:=hs7
       have ht7:A+t<B->sumI c7<sumI c6:=ht7
       have ht6:fl=true->sumI c6<sumI c:=ht6
       have hf6:fl=false->c6=c/\∀(j:Nat) (d:Dr) (t:Int),j<i->s.doors[j]?=some d->ts[j]?=some t->gI c d.b<=gI c d.a+t/\gI c d.a<=gI c d.b+t:=hf6
       have h6c:sumI c6<=sumI c:=by
        cases fl with
        | true=>exact Int.le_of_lt (ht6 rfl)
        | false=>rw [(hf6 rfl).1];exact Int.le_refl _
       refine ⟨s.doors.length-(i+1),by omega,_,i+1,if B7+t<A7 then true else (if A+t<B then true else fl),c8,rfl,hlt,rfl,e3,e4,e9,e11,rfl,v9,fun x u hx hu=>hk89 x u hx (hk8 x u hx hu),hco8,fun hfl=>?_,fun hfl=>?_⟩
       ·by_cases h1:B7+t<A7
        ·have:=ht8 h1;omega
        ·rw [if_neg h1] at hfl
         by_cases h2:A+t<B
         ·have:=ht7 h2;omega
         ·rw [if_neg h2] at hfl
          have:=ht6 hfl
          omega
       ·by_cases h1:B7+t<A7
        ·rw [if_pos h1] at hfl;cases hfl
        ·rw [if_neg h1] at hfl
         by_cases h2:A+t<B
         ·rw [if_pos h2] at hfl;cases hfl
         ·rw [if_neg h2] at hfl
          obtain ⟨g1,g2⟩:=hf6 hfl
          have e8:c8=c7:=by rw [show c8=_ from hc8,if_neg h1]
          have e7:c7=c6:=by rw [show c7=_ from hc7,if_neg h2]
          refine ⟨by rw [e8,e7,g1],fun j d' t' hj hd' ht'=>?_⟩
          by_cases hji:j<i
          ·exact g2 j d' t' hji hd' ht'
          ·obtain rfl:j=i:=by omega
           have hkd:s.doors[j]?=some d:=hkd
           have hkt:ts[j]?=some t:=hkt
           rw [hkd] at hd'
           rw [hkt] at ht'
           cases hd'
           cases ht'
           have q1:gI c6 d.a=A:=hA
           have q2:gI c6 d.b=B:=hB
           have q3:gI c7 d.a=A7:=hAg
           have q4:gI c7 d.b=B7:=hBg
           rw [e7,g1] at q3 q4
           rw [g1] at q1 q2
           omega
    ·have hlt':¬(i:Int)<s.doors.length:=by omega
     (refine @unH _ (zA Aqy ?_);(try clear hK K);intro K hK hc)
     have ht6:fl=true->sumI c6<sumI c:=ht6
     have hf6:fl=false->c6=c/\∀(j:Nat) (d:Dr) (t:Int),j<i->s.doors[j]?=some d->ts[j]?=some t->gI c d.b<=gI c d.a+t/\gI c d.a<=gI c d.b+t:=hf6
     have hsum:=hco6.sum h0
     refine ⟨(sumI c6).toNat+(if fl then 1 else 0),?_,_,fl,c6,rfl,rfl,e3,e4,e9,e11,v6,hk6,hco6,fun hfl j d t hd ht=>?_⟩
     ·cases fl with
      | true=>have:=ht6 rfl;simp only [if_true];omega
      | false=>rw [(hf6 rfl).1];simp
     ·obtain ⟨g1,g2⟩:=hf6 hfl
      rw [g1]
      exact g2 j d t (by have:=(List.getElem?_eq_some_iff.1 hd).1;omega) hd ht
end Go.Proofs.YtaehjjbekjglkaaGreatDoor
end
section
namespace Go.Proofs.YtaehjjbekjglkaaGreatDoor
open Go Go.X
def RowG (e:TypeId) (sz:Nat) (H:Hp) (v:Value) (rows:List (List Value)):Prop:=RowZ (Lex none) (fun _=>none) H v e sz rows.length (rows.flatMap id)/\∀r∈rows,r.length=sz
theorem RowG.nil {e:TypeId} {sz:Nat} {H:Hp}:RowG e sz H (.slice none 0 0) []:=⟨⟨(fun _ _ h=>by cases h),.inl ⟨rfl,rfl,rfl⟩⟩,fun _ h=>by cases h⟩
theorem RowG.cell {e:TypeId} {sz:Nat} {H:Hp} {v:Value} {rows:List (List Value)} (h:RowG e sz H v rows) {x:Nat} (hx:rowB v=some x):∃c,H x=some (true,.cells c e (0,0)):=by
 rcases h.1.2 with ⟨rfl,_⟩ | ⟨b,c,cap,h0,hb,rfl,_⟩
 ·cases hx
 ·simp only [rowB,Option.some.injEq] at hx
  subst hx
  exact ⟨c,hb⟩
theorem RowG.keep {e:TypeId} {sz:Nat} {H H':Hp} {v:Value} {rows:List (List Value)} (h:RowG e sz H v rows) (hk:∀x u,rowB v=some x->H x=some u->H' x=some u):RowG e sz H' v rows:=by
 refine ⟨⟨(fun _ _ h=>by cases h),h.1.2.imp id ?_⟩,h.2⟩
 rintro ⟨b,c,cap,h0,hb,rfl,h3⟩
 exact ⟨b,c,cap,h0,hk b _ rfl hb,rfl,h3⟩
theorem RowG.form {e:TypeId} {sz:Nat} {H:Hp} {v:Value} {rows:List (List Value)} (h:RowG e sz H v rows):∃a cap,v=.slice a rows.length cap:=by
 rcases h.1.2 with ⟨rfl,h0,_⟩ | ⟨b,c,cap,h0,hb,rfl,_⟩
 ·exact ⟨none,0,by rw [h0]⟩
 ·exact ⟨_,_,rfl⟩
theorem RowG.slG {e:TypeId} {sz:Nat} (hsz:0<sz) {H:Hp} {v:Value} {rows:List (List Value)} (h:RowG e sz H v rows):SlG e sz H v rows:=by
 rcases h.1.2 with ⟨rfl,h0,_⟩ | ⟨b,c,cap,h0,hb,rfl,h1,h2,h3,h4⟩
 ·obtain rfl:=List.length_eq_zero_iff.1 h0
  exact ⟨none,0,rfl,Nat.le_refl _,fun i r hi=>by simp at hi⟩
 ·exact SlG.of hsz hb h.2 h4 h2
theorem RowG.bound {e:TypeId} {sz:Nat} {H:Hp} {v:Value} {rows:List (List Value)} (h:RowG e sz H v rows) {x:Nat} (hx:rowB v=some x) {o:Obj} {q:Bool} {y:Nat} (hy:H y=some (q,o)) (ho:∀c,o≠.cells c e (0,0)):x≠y:=fun e=>by
 obtain ⟨c,hc⟩:=h.cell hx
 rw [e,hy] at hc
 simp only [Option.some.injEq,Prod.mk.injEq] at hc
 exact ho c hc.2
theorem Aw8 {P:Program} {tt e:TypeId} {sz:Nat} {z:Value} {inf:TypeInfo} (hu:P.underlying tt=some (.slice e)) (hs:∀w,(sizeOf e).run P w=.ok sz w) (hz:∀w,(zeroValue e).run P w=.ok z w) (hzc:z.cells.size=sz)
  (hi:∀w,(typeInfo e).run P w=.ok inf w) (hby:inf.bytes<=1024) (hby0:0<inf.bytes)
  {H:Hp} {v:Value} {rows:List (List Value)} (h:RowG e sz H v rows) {g:Nat} {ws:List Value} (hws:ws.length=sz) (hg:H g=none) (hw:∀w∈ws,one w=true) (hn:rows.length<=1000000) (ty:TypeId) (cb:Array Bool) (K:Next->Hp->Prop) (E:Value->Hp->Prop)
  (h':∀v' H',RowG e sz H' v' (rows++[ws])->(∀x u,H x=some u->rowB v≠some x->H' x=some u)->(∀x,rowB v'=some x->rowB v=some x∨H x=none)->K (.value v') H') :
  wpS P (builtin .append #[tt,tt] ty cb #[v,.slice (some ⟨g,0,none⟩) 1 1]) (H.set g (.cells ws.toArray e (0,0))) K E:=
 Bw3 hu hs hz hzc hi hby hby0 h.1 hws hg hw hn ty cb K E fun v' H' hr hk hb=>h' v' H' ⟨by
  have:(rows++[ws]).flatMap id=rows.flatMap id++ws:=by simp
  rw [this,List.length_append]
  exact hr,fun r hm=>by
  rcases List.mem_append.1 hm with h1 | h1
  ·exact h.2 r h1
  ·simp only [List.mem_cons,List.not_mem_nil,or_false] at h1
   rw [h1];exact hws⟩ hk hb
theorem Dqx {H:Hp} {a:Option Addr} {m cap:Nat} {xs:List Int} (h:SlI H (.slice a m cap) xs) {k:Nat} (hk:k<=xs.length):SlI H (.slice a k cap) (xs.take k):=by
 obtain ⟨a',c',h1,h2,h3⟩:=h
 cases h1
 have hl:(xs.take k).length=k:=by rw [List.length_take];omega
 refine ⟨_,_,by rw [hl],by omega,fun i x hi=>?_⟩
 rw [List.getElem?_take] at hi
 split at hi
 ·exact h3 i x hi
 ·cases hi
theorem SlG.put {e:TypeId} {sz:Nat} {H:Hp} {v:Value} {rows:List (List Value)} (h:SlG e sz H v rows) {y:Nat} {q:Bool} {c:Array Value} {e':TypeId} {fr:Nat×Nat} (hy:H y=some (q,.cells c e' fr)) (he:e≠e') (o:Obj):SlG e sz (H.set y o) v rows:=
 h.move fun x p c2 fr2 hx=>⟨p,by
  rw [Aqv (fun e2=>by rw [e2,hy] at hx;simp only [Option.some.injEq,Prod.mk.injEq,Obj.cells.injEq] at hx;exact he hx.2.2.1.symm)]
  exact hx⟩
theorem SlI.put {H:Hp} {v:Value} {xs:List Int} (h:SlI H v xs) {y:Nat} {q:Bool} {c:Array Value} {e':TypeId} {fr:Nat×Nat} (hy:H y=some (q,.cells c e' fr)) (he:3≠e') (o:Obj):SlI (H.set y o) v xs:=
 h.move fun x p c2 fr2 hx=>by
  rw [Aqv (fun e2=>by rw [e2,hy] at hx;simp only [Option.some.injEq,Prod.mk.injEq,Obj.cells.injEq] at hx;exact he hx.2.2.1.symm)]
  exact hx
structure SoSt (H Hc:Hp) (b rb xb k:Nat) (pl:Int) (dv hv nv:Value):Prop where
 lx:Lex (some b) H Hc
 vr:Hc rb=some (true,smO 0 (.slice none 0 0) (.slice none 0 0) (.slice none 0 0))
 vx:Hc xb=some (true,smO pl dv hv nv)
 t:TinI Hc b k
 r0:H rb=none
 x0:H xb=none
 ne:rb≠xb
theorem TinI.off {H:Hp} {b k x:Nat} (h:TinI H b k) {q:Bool} {c:Array Value} {e:TypeId} {f:Nat×Nat} (hx:H x=some (q,.cells c e f)) (he:e≠69):x≠b:=fun e'=>by
 subst e'
 exact h.notI he x rfl _ _ _ hx
theorem SlG.lexT {e:TypeId} {sz:Nat} {H H':Hp} {v:Value} {rows:List (List Value)} (h:SlG e sz H v rows) {b k:Nat} (hT:TinI H b k) (he:e≠69) (hl:Lex (some b) H H'):SlG e sz H' v rows:=
 h.move fun x p c fr hx=>⟨p,hl.keeps hx (hT.off hx he)⟩
theorem RowG.lexT {e:TypeId} {sz:Nat} {H H':Hp} {v:Value} {rows:List (List Value)} (h:RowG e sz H v rows) {b k:Nat} (hT:TinI H b k) (he:e≠69) (hl:Lex (some b) H H'):RowG e sz H' v rows:=
 h.keep fun x u hx hu=>by
  obtain ⟨c,hc⟩:=h.cell hx
  exact hl.keeps hu (hT.off hc he)
theorem SoSt.rb_ne {H Hc:Hp} {b rb xb k:Nat} {pl:Int} {dv hv nv:Value} (h:SoSt H Hc b rb xb k pl dv hv nv):rb≠b/\xb≠b:=⟨h.t.off h.vr (by decide),h.t.off h.vx (by decide)⟩
theorem SoSt.tin {H Hc H':Hp} {b rb xb k k':Nat} {pl:Int} {dv hv nv:Value} (h:SoSt H Hc b rb xb k pl dv hv nv) (hl:Lex (some b) Hc H') (ht:TinI H' b k'):SoSt H H' b rb xb k' pl dv hv nv:=
 ⟨h.lx.trans hl,hl.keeps h.vr h.rb_ne.1,hl.keeps h.vx h.rb_ne.2,ht,h.r0,h.x0,h.ne⟩
theorem SoSt.le {H Hc H':Hp} {b rb xb k:Nat} {pl:Int} {dv hv nv:Value} (h:SoSt H Hc b rb xb k pl dv hv nv) (hl:Hc.le H'):SoSt H H' b rb xb k pl dv hv nv:=
 ⟨h.lx.le hl,hl _ _ h.vr,hl _ _ h.vx,h.t.le hl,h.r0,h.x0,h.ne⟩
theorem SoSt.put {H Hc:Hp} {b rb xb k:Nat} {pl:Int} {dv hv nv dv' hv' nv':Value} (h:SoSt H Hc b rb xb k pl dv hv nv):SoSt H (Hc.set xb (smO pl dv' hv' nv')) b rb xb k pl dv' hv' nv':=
 ⟨h.lx.own h.x0,by rw [Aqv h.ne];exact h.vr,Axh,h.t.own h.vx (Ne.symm h.rb_ne.2),h.r0,h.x0,h.ne⟩
theorem TinI.row {H H':Hp} {b k:Nat} (h:TinI H b k) {e:TypeId} {sz:Nat} {v:Value} {rows:List (List Value)} (hr:RowG e sz H v rows) (h2:e≠69) (hk:∀x u,H x=some u->rowB v≠some x->H' x=some u):TinI H' b k:=by
 have nt:rowB v≠some b:=fun hx=>by
  obtain ⟨c,hc⟩:=hr.cell hx
  exact h.off hc h2 rfl
 obtain ⟨sa,sl,sc,g,st,g1,g2,g3,g4⟩:=h
 refine ⟨sa,sl,sc,g,st,hk _ _ g1 nt,g2,g3,fun i hi=>?_⟩
 obtain ⟨sb,so,c,e,fr,x,k1,k2,k3⟩:=g4 i hi
 refine ⟨sb,so,c,e,fr,x,k1,hk _ _ k2 (fun hx=>?_),k3⟩
 obtain ⟨c',hc⟩:=hr.cell hx
 rw [k2] at hc
 simp at hc
theorem Lex.row {b:Option Nat} {Hm H H':Hp} (h:Lex b Hm H) {v:Value} (h0:∀x,rowB v=some x->Hm x=none) (hk:∀x u,H x=some u->rowB v≠some x->H' x=some u):Lex b Hm H':=fun x u hx=>by
 obtain ⟨u',hu',e'⟩:=h x u hx
 exact ⟨u',hk _ _ hu' (fun hr'=>by rw [h0 x hr'] at hx;cases hx),e'⟩
def LexX (b xb:Nat) (H H':Hp):Prop:=∀x u,H x=some u->x≠b->x≠xb->H' x=some u
theorem LexX.refl (b xb:Nat) (H:Hp):LexX b xb H H:=fun _ _ h _ _=>h
theorem LexX.tin {b xb:Nat} {H H' H'':Hp} (h:LexX b xb H H') (h':Lex (some b) H' H''):LexX b xb H H'':=fun x u hx h1 h2=>h'.keeps (h x u hx h1 h2) h1
theorem LexX.le {b xb:Nat} {H H' H'':Hp} (h:LexX b xb H H') (h':H'.le H''):LexX b xb H H'':=fun x u hx h1 h2=>h' _ _ (h x u hx h1 h2)
theorem LexX.put {b xb:Nat} {H H':Hp} {o:Obj} (h:LexX b xb H H'):LexX b xb H (H'.set xb o):=fun x u hx h1 h2=>by rw [Aqv h2];exact h x u hx h1 h2
theorem LexX.own {b xb y:Nat} {H H':Hp} {o:Obj} (h:LexX b xb H H') (hy:H y=none):LexX b xb H (H'.set y o):=fun x u hx h1 h2=>by
 rw [Aqv (fun e=>by rw [e,hy] at hx;cases hx)]
 exact h x u hx h1 h2
theorem LexX.row {b xb:Nat} {Hm H H':Hp} (h:LexX b xb Hm H) {v:Value} (h0:∀x,rowB v=some x->Hm x=none) (hk:∀x u,H x=some u->rowB v≠some x->H' x=some u):LexX b xb Hm H':=fun x u hx h1 h2=>hk _ _ (h x u hx h1 h2) fun hr=>by rw [h0 x hr] at hx;cases hx
theorem SlG.lexX {e:TypeId} {sz:Nat} {H H':Hp} {v:Value} {rows:List (List Value)} (h:SlG e sz H v rows) {b xb k:Nat} (hT:TinI H b k) (he:e≠69) {q:Bool} {c:Array Value} {e':TypeId} {fr:Nat×Nat} (hy:H xb=some (q,.cells c e' fr)) (he':e≠e') (hl:LexX b xb H H'):SlG e sz H' v rows:=
 h.move fun x p c2 fr2 hx=>⟨p,hl _ _ hx (hT.off hx he) fun e2=>by rw [e2,hy] at hx;simp only [Option.some.injEq,Prod.mk.injEq,Obj.cells.injEq] at hx;exact he' hx.2.2.1.symm⟩
theorem SlI.lexX {H H':Hp} {v:Value} {xs:List Int} (h:SlI H v xs) {b xb k:Nat} (hT:TinI H b k) {q:Bool} {c:Array Value} {e':TypeId} {fr:Nat×Nat} (hy:H xb=some (q,.cells c e' fr)) (he':3≠e') (hl:LexX b xb H H'):SlI H' v xs:=
 h.move fun x p c2 fr2 hx=>hl _ _ hx (hT.off hx (by decide)) fun e2=>by rw [e2,hy] at hx;simp only [Option.some.injEq,Prod.mk.injEq,Obj.cells.injEq] at hx;exact he' hx.2.2.1.symm
def int1 (xs:List Int):List (List Value):=xs.map fun x=>[.int .i64 x]
theorem SlG.ints1 {H:Hp} {v:Value} {xs:List Int} (h:SlG 3 1 H v (int1 xs)):SlI H v xs:=by
 obtain ⟨a,cap,h1,h2,h3⟩:=h
 have hl:(int1 xs).length=xs.length:=by simp [int1]
 rw [hl] at h1 h2
 refine ⟨a,cap,h1,h2,fun i x hx=>?_⟩
 obtain ⟨b,o,p,c,fr,g1,g2,g3,g4,g5⟩:=h3 i [.int .i64 x] (by simp [int1,hx])
 refine ⟨b,o,p,c,fr,g1,g2,?_⟩
 have:=Bxk g5 g3 (k:=0) (x:=.int .i64 x) rfl
 simpa using this
theorem SoSt.row {H Hc H':Hp} {b rb xb k:Nat} {pl:Int} {dv hv nv:Value} (h:SoSt H Hc b rb xb k pl dv hv nv) {e:TypeId} {sz:Nat} {v:Value} {rows:List (List Value)} (hr:RowG e sz Hc v rows) (h1:e≠26) (h2:e≠69) (h0:∀x,rowB v=some x->H x=none) (hk:∀x u,Hc x=some u->rowB v≠some x->H' x=some u):SoSt H H' b rb xb k pl dv hv nv:=by
 have nb:∀y q c,Hc y=some (q,.cells c 26 (0,0))->rowB v≠some y:=fun y q c hy hx=>hr.bound hx hy (fun c' hc=>by simp only [Obj.cells.injEq] at hc;exact h1 hc.2.1.symm) rfl
 have nt:rowB v≠some b:=fun hx=>by
  obtain ⟨c,hc⟩:=hr.cell hx
  exact h.t.off hc h2 rfl
 refine ⟨fun x u hx=>?_,hk _ _ h.vr (nb _ _ _ h.vr),hk _ _ h.vx (nb _ _ _ h.vx),?_,h.r0,h.x0,h.ne⟩
 ·obtain ⟨u',hu',e'⟩:=h.lx x u hx
  exact ⟨u',hk _ _ hu' (fun hr'=>by rw [h0 x hr'] at hx;cases hx),e'⟩
 ·obtain ⟨sa,sl,sc,g,st,g1,g2,g3,g4⟩:=h.t
  refine ⟨sa,sl,sc,g,st,hk _ _ g1 nt,g2,g3,fun i hi=>?_⟩
  obtain ⟨sb,so,c,e,fr,x,k1,k2,k3⟩:=g4 i hi
  refine ⟨sb,so,c,e,fr,x,k1,hk _ _ k2 (fun hx=>?_),k3⟩
  obtain ⟨c',hc⟩:=hr.cell hx
  rw [k2] at hc
  simp at hc
end Go.Proofs.YtaehjjbekjglkaaGreatDoor
end
section
namespace Go.X
open Go
theorem Bzm {P:Program} {H:Hp} {fn:Func} {t u v x:Tmp} {ty:TypeId} (h:fn.results=#[.cell t ty,.tmp u,.tmp v,.tmp x]) {n:Nat} {e:Nat->Value} {ds:List Deferred} (ht:t<n) (hu':u<n) (hv:v<n) (hx:x<n) {b o:Nat} (hb:e t=.pointer (some ⟨b,o,none⟩))
  {d:TypeDesc} (hu:P.underlying ty=some d) (hd:aggB d=true) {k:Nat} (hs:∀w,(sizeOf ty).run P w=.ok (k+1) w) (K:Value->Hp->Prop) (E:Value->Hp->Prop) :
  wpS P (results fn (act n e ds).tmps) H K E=Bql H b o (k+1) (fun z=>K (.tuple #[z,e u,e v,e x]) H):=by
 simp [-bind_pure_comp,results,h,act_get? ht,act_get? hu',act_get? hv,act_get? hx,hb,asAddr,Aqa,Aqf,Ayf hu hd hs]
end Go.X
namespace Go.Proofs.YtaehjjbekjglkaaGreatDoor
open Go Go.X
theorem Cye {s:Sm} (ok:SmOk s) {p hr:Int} (p0:0<=p) (p1:p<s.places) (h0:0<=hr) (h1:hr<=12) {ts:List Int} (ht:ts∈Ax1 s.doors) {q:Int} (q0:0<=q) (q1:q<s.places):0<=gI (Aw0 s p hr ts) q/\gI (Aw0 s p hr ts) q<=1000:=by
 have h6:=ok.p1
 have hd:=Bko ok p0 p1 ht
 rw [Cxf q0 q1]
 have g1:=hd.pos q q0 (by omega)
 have g2:=hd.small h6 ok.dk (Akn (pl:=s.places) ok.dk ht) p0 (by omega) q0 (by omega)
 unfold Cyd
 split<;>omega
structure NoSt (H Hm Hc:Hp) (b rb xb k:Nat) (pl:Int) (dv hv nv:Value) (honest:Bool) (C:List Int) (ns:List Ns):Prop where
 st:SoSt H Hc b rb xb k pl dv hv nv
 rg:RowG 32 3 Hc nv (ns.map Bzf)
 nm:∀x,rowB nv=some x->Hm x=none
 nh:∀x,rowB nv=some x->H x=none
 lx:LexX b xb Hm Hc
 ok:∀n∈ns,NsOk pl n/\(honest=true->n.sm=decide (gI C n.pl<=n.hr))
section
variable {H Hm Hc:Hp} {b rb xb k:Nat} {pl:Int} {dv hv nv:Value} {honest:Bool} {C:List Int} {ns:List Ns}
theorem NoSt.tin (h:NoSt H Hm Hc b rb xb k pl dv hv nv honest C ns) {H':Hp} {k':Nat} (hl:Lex (some b) Hc H') (ht:TinI H' b k'):NoSt H Hm H' b rb xb k' pl dv hv nv honest C ns:=
 ⟨h.st.tin hl ht,h.rg.lexT h.st.t (by decide) hl,h.nm,h.nh,h.lx.tin hl,h.ok⟩
theorem NoSt.le (h:NoSt H Hm Hc b rb xb k pl dv hv nv honest C ns) {H':Hp} (hl:Hc.le H'):NoSt H Hm H' b rb xb k pl dv hv nv honest C ns:=
 ⟨h.st.le hl,h.rg.keep fun x u _ hu=>hl _ _ hu,h.nm,h.nh,h.lx.le hl,h.ok⟩
theorem NoSt.less (h:NoSt H Hm Hc b rb xb k pl dv hv nv honest C ns) {k':Nat} (hk:k'<=k):NoSt H Hm Hc b rb xb k' pl dv hv nv honest C ns:=
 ⟨⟨h.st.lx,h.st.vr,h.st.vx,h.st.t.less hk,h.st.r0,h.st.x0,h.st.ne⟩,h.rg,h.nm,h.nh,h.lx,h.ok⟩
structure NewN (H Hm:Hp) (b rb xb:Nat) (nv:Value) (nb:Nat):Prop where
 h0:H nb=none
 m0:Hm nb=none
 nr:nb≠rb
 nx:nb≠xb
 nn:nb≠b
 nw:rowB nv≠some nb
theorem NoSt.new (h:NoSt H Hm Hc b rb xb k pl dv hv nv honest C ns) {nb:Nat} (hn:Hc nb=none):NewN H Hm b rb xb nv nb:=by
 have nx:nb≠xb:=fun e=>by rw [e,h.st.vx] at hn;cases hn
 have nb':nb≠b:=h.st.t.ne hn
 refine ⟨h.st.lx.gone hn,?_,fun e=>by rw [e,h.st.vr] at hn;(cases hn),nx,nb',fun hx=>?_⟩
 ·cases hm:Hm nb with
  | none=>rfl
  | some u=>have:=h.lx _ _ hm nb' nx;rw [hn] at this;cases this
 ·obtain ⟨c,hc⟩:=h.rg.cell hx
  rw [hn] at hc
  cases hc
theorem NoSt.setN (h:NoSt H Hm Hc b rb xb k pl dv hv nv honest C ns) {nb:Nat} (hn:NewN H Hm b rb xb nv nb) {o:Obj} (ho:Hc nb=some (true,o)) (o':Obj):NoSt H Hm (Hc.set nb o') b rb xb k pl dv hv nv honest C ns:=
 ⟨⟨h.st.lx.own hn.h0,by rw [Aqv (Ne.symm hn.nr)];exact h.st.vr,by rw [Aqv (Ne.symm hn.nx)];exact h.st.vx,h.st.t.own ho (Ne.symm hn.nn),h.st.r0,h.st.x0,h.st.ne⟩,
  h.rg.keep fun x u hx hu=>by rw [Aqv (fun e=>hn.nw (by rw [<-e];exact hx))];exact hu,h.nm,h.nh,h.lx.own hn.m0,h.ok⟩
theorem NoSt.more (h:NoSt H Hm Hc b rb xb k pl dv hv nv honest C ns) (hgo:∀x,Hc x=none->Hm x=none) {H':Hp} {nv':Value} {n:Ns} (hr:RowG 32 3 H' nv' (ns.map Bzf++[[.int .i64 n.pl,.int .i64 n.hr,.bool n.sm]])) (hk:∀x u,Hc x=some u->rowB nv≠some x->H' x=some u) (hn:∀x,rowB nv'=some x->rowB nv=some x∨Hc x=none)
  (hok:NsOk pl n/\(honest=true->n.sm=decide (gI C n.pl<=n.hr))):NoSt H Hm (H'.set xb (smO pl dv hv nv')) b rb xb k pl dv hv nv' honest C (ns++[n]):=by
 have hS:=h.st.row h.rg (by decide) (by decide) h.nh hk
 refine ⟨hS.put,?_,fun x hx=>(hn x hx).elim (h.nm x) (hgo x),fun x hx=>(hn x hx).elim (h.nh x) fun h'=>h.st.lx.gone h',(h.lx.row h.nm hk).put,fun m hm=>?_⟩
 ·have e:(ns++[n]).map Bzf=ns.map Bzf++[[.int .i64 n.pl,.int .i64 n.hr,.bool n.sm]]:=by rw [List.map_append];rfl
  rw [e]
  exact hr.keep fun x u hx hu=>by
   rw [Aqv (hr.bound hx hS.vx (fun c hc=>by simp only [Obj.cells.injEq] at hc;exact absurd hc.2.1 (by decide)))]
   exact hu
 ·rcases List.mem_append.1 hm with h1 | h1
  ·exact h.ok m h1
  ·simp only [List.mem_cons,List.not_mem_nil,or_false] at h1
   rw [h1];exact hok
theorem NoSt.gone (h:NoSt H Hm Hc b rb xb k pl dv hv nv honest C ns) {x:Nat} (hx:Hc x=none):Hm x=none:=by
 cases hm:Hm x with
 | none=>rfl
 | some u=>
  have:=h.lx _ _ hm (h.st.t.ne hx) (fun e=>by rw [e,h.st.vx] at hx;cases hx)
  rw [hx] at this
  cases this
end
end Go.Proofs.YtaehjjbekjglkaaGreatDoor
end
