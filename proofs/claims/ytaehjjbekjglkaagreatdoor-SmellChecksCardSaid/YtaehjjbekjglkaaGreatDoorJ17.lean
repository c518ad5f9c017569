/- Texts SmFr SmFo SmFl SmW1 SmW. -/
import Derived.Test.YtaehjjbekjglkaaGreatDoorJ16
set_option linter.defProp false
set_option linter.unusedSimpArgs false
set_option linter.unusedVariables false
set_option maxRecDepth 100000
set_option maxHeartbeats 2000000
section
namespace Go.Proofs.YtaehjjbekjglkaaGreatDoor
open Go Go.X Go.Proofs.Tryz
def Aq5:=aN @Dyt (aN @Dw9 (aN @Byf (aN @Dw2 (aN @Bxx (aN @Dy2 (aN @Eqd (aN @Dyg (aN @Dw5 (aN @Cq9 (aN @Dy1 (aN @Dyl (aN @Dwk (aN @Dw0 (aN @Dyp (aN @Dyd (aN @Akw (aN @Byg (aN @Dy3 (aN @Dym (aN @Dye (aN @Cxa (aN @Dwh (aN @Dv1 (aN @Dwd (aN @Dw3 (aN @Dvz (aN @Dwc (aN @Dwi (aN @Dwb (aN @Dv0 (aN @Dv3 (aN @Ayg @Dw7))))))))))))))))))))))))))))))))
def folT (H6:Hp) (s:Sm) (p:Int) (ham:Int) (l r mb tb:Nat) (lo:Loop) (t:Bool) (L:List (List Int)) (H:Hp):Prop:=
 t=true/\H l=some (true,.loop lo)/\H r=some (true,.deferred (some []))/\Aje s.doors mb H/\H tb=some (true,.cells (Axc ⟨ham,byL s (prF s p L)⟩).toArray 150 (0,0)) /\
  (∀x∈L,x.length=6)/\∀b x,b≠l->b≠r->b≠mb->b≠tb->H6 b=some x->H b=some x
theorem Cy1 (main:Md) (H3 H4:Hp) (sb ib rb:Nat) (s:Sm) (ok:SmOk s) (i:Nat) (p:Int) (hi:s.hampers[i]?=some p) (da:Option Addr) (dc:Nat) (ha:Option Addr) (kc:Nat) (na:Option Addr) (nc:Nat)
  (hs:SmIn H3 (.slice da s.doors.length dc) (.slice ha s.hampers.length kc) (.slice na s.noses.length nc) s)
  (vs:H3 sb=some (true,smO s.places (.slice da s.doors.length dc) (.slice ha s.hampers.length kc) (.slice na s.noses.length nc))) (vi:H3 ib=some (true,.cells #[.int .i64 i] 3 (0,0))) (z:Array Value) (hz:z.size=326) (vr:H3 rb=some (true,.cells z 150 (0,0)))
  (e:Nat->Value) (hF:FolS H3 sb ib rb s.places (.slice da s.doors.length dc) (.slice ha s.hampers.length kc) (.slice na s.noses.length nc) ⟨i,List.replicate 13 Czx⟩ e H4) (R:Ending->Hp->Prop)
  (hR:Aqk (∀H',(∀b x,b≠rb->H3 b=some x->H' b=some x)->R (.returned (.agg (Axc (Az0 s i)).toArray)) H')) :
  wpX Tryz.prog main none (sdC (sdC ((Tryz.f106).body.getD .skip))) (Bvs Tryz.prog main Tryz.f106 R) (act 83 e []) H4:=by
 obtain ⟨hb,mb,pb,tb,e2,e3,e4,e5,e6,l34,⟨n0h,n0m,n0p,n0t⟩,vh,vm,vp,vt⟩:=hF
 show wpX _ _ _ (.seq _ _) _ _ _
 refine Axn ?_
 (refine @unH _ (zA Aq5 ?_);(try clear hK K);intro K hK hc)
 refine (Czm main H4 hb).runs.mono ?_
 rintro _ H5 ⟨thisb,rfl,vth,l45,n4th⟩
 have vh5:=l45 _ _ vh
 have vm5:=l45 _ _ vm
 have vp5:=l45 _ _ vp
 have vt5:=l45 _ _ vt
 have l35:=Hp.le_trans l34 l45
 have hs5:=hs.le l35
 have vs5:=l35 _ _ vs
 have vi5:=l35 _ _ vi
 have vr5:=l35 _ _ vr
 clear vh vm vp vt l34 l45 hs vs vi
 (refine @unH _ (zU Aq5 ?_);(try clear hK K);intro K hK hc)
 refine Bj6 (fun e=>e 2=.pointer (some ⟨sb,0,none⟩)/\e 3=.pointer (some ⟨ib,0,none⟩)/\e 4=.pointer (some ⟨rb,0,none⟩)/\e 5=.pointer (some ⟨pb,0,none⟩)/\e 6=.pointer (some ⟨tb,0,none⟩)/\e 21=.func (.func 140) #[] #[.pointer (some ⟨thisb,0,none⟩)]) ⟨e2,e3,e4,e5,e6,rfl⟩ ?_
 clear e2 e3 e4 e5 e6
 rintro e ⟨e2,e3,e4,e5,e6,e21⟩
 refine Cju (g:=140) (fi:=#[]) (cap:=#[.pointer (some ⟨thisb,0,none⟩)]) (by rw [Aq7 (by omega),e21]) (by omega) (fun _ _ _ _=>Cw7 _ _ _) (fun r l lo hr hl hlo1 hlo2 hround=>?_)
 have hlr:r≠l:=fun e=>by rw [<-e,Axh] at hl;cases hl
 have hnl:H5 l=none:=by
  rw [Aqv (Ne.symm hlr)] at hl;exact hl
 have hloe:({ ({ lo with state:=LoopState.busy }:Loop) with state:=.ready,pending:=none }:Loop)=lo:=by
  cases lo;simp only [] at hlo1 hlo2;subst hlo1 hlo2;rfl
 generalize hG:Hp.set (Hp.set H5 r (.deferred (some []))) l (.loop lo)=H6
 have l56:H5.le H6:=fun b x hx=>by rw [<-hG];exact Hp.le_set hl _ _ (Hp.le_set hr _ _ hx)
 have vl6:H6 l=some (true,.loop lo):=by rw [<-hG,Axh]
 have vr6:H6 r=some (true,.deferred (some [])):=by rw [<-hG,Aqv hlr,Axh]
 clear hG
 have nrl:∀b x,H5 b=some x->b≠l/\b≠r:=fun b x hx=>⟨fun e=>(by rw [e,hnl] at hx;cases hx),fun e=>(by rw [e,hr] at hx;cases hx)⟩
 have vh6:=l56 _ _ vh5
 have vm6:=l56 _ _ vm5
 have vp6:=l56 _ _ vp5
 have vt6:=l56 _ _ vt5
 have hs6:=hs5.le l56
 have vs6:=l56 _ _ vs5
 have vi6:=l56 _ _ vi5
 have vth6:=l56 _ _ vth
 have hC:Cjw Tryz.prog main (.func (.yield l) #[] #[]) (fun b=>H6 b≠none) (fun H v xs=>v=.agg (ints xs).toArray) (fun xs=>xs.length=6/\TsOk s.doors xs) (folT H6 s p i l r mb tb lo):=by
  have hn:∀b x,H6 b=some x->H6 b≠none:=fun b x h=>by rw [h];simp
  refine ⟨?_,?_,?_⟩
  ·rintro t L H H' ⟨h0,h1,h2,h3,h4,h5,h6⟩ hk
   refine ⟨h0,hk _ _ (hn _ _ vl6) h1,hk _ _ (hn _ _ vr6) h2,?_,hk _ _ (hn _ _ vt6) h4,h5,fun b x g1 g2 g3 g4 hx=>hk _ _ (hn _ _ hx) (h6 b x g1 g2 g3 g4 hx)⟩
   obtain ⟨es,clock,k1,k2⟩:=h3
   exact ⟨es,clock,hk _ _ (hn _ _ vm6) k1,k2⟩
  ·rintro t L H b ⟨h0,h1,h2,h3,h4,h5,h6⟩ hb
   by_cases g1:b=l
   ·subst g1;rw [h1];simp
   by_cases g2:b=r
   ·subst g2;rw [h2];simp
   by_cases g3:b=mb
   ·subst g3;obtain ⟨es,clock,k1,k2⟩:=h3;rw [k1];simp
   by_cases g4:b=tb
   ·subst g4;rw [h4];simp
   cases hx:H6 b with
   | none=>exact absurd hx hb
   | some x=>rw [h6 b x g1 g2 g3 g4 hx];simp
  ·rintro L H v' xs ⟨_,h1,h2,h3,h4,h5,h6⟩ rfl ⟨hxl,hxt⟩
   refine hround H _ _ h1 ?_
   have hil:(ints xs).length=6:=by rw [Aqz];exact hxl
   have hex:=Ajk hxl
   (refine @unH _ (zA (aN Aq5 @Bool.or_true) ?_);(try clear hK K);intro K hK hc)
   intro xb hxb
   have nlx:=Aqr h1 hxb
   (refine @unH _ (zU (aN Aq5 (aN @Bool.or_true (aN @Avq (aN @Aj7 @Aj8)))) ?_);(try clear hK K);intro K hK hc)
   generalize hG0:Hp.set H xb _=Ha
   have vxa:=Aqb hG0
   have hka:∀b x,H b=some x->Ha b=some x:=fun b x hx=>Aqi hG0 hx (Aqr hx hxb)
   refine ⟨hka _ _ h1,?_⟩
   generalize hG:Hp.set Ha l _=Hb
   have vlb:=Aqb hG
   have hkb:∀b x,b≠l->H b=some x->Hb b=some x:=fun b x hb hx=>Aqi hG (hka _ _ hx) hb
   have vxb:=Aqi hG vxa (Ne.symm nlx)
   have hnn:∀b x,¬H6 b≠none->H b=some x->b≠l:=fun b x h hx e=>h (by rw [e,vl6];simp)
   clear hG hG0 vxa hka
   have hk5:∀b x,b≠mb->b≠tb->H5 b=some x->Hb b=some x:=fun b x g1 g2 hx=>hkb b x (nrl _ _ hx).1 (h6 b x (nrl _ _ hx).1 (nrl _ _ hx).2 g1 g2 (l56 _ _ hx))
   have vhb:=hk5 _ _ (fun e=>by rw [e,vm5] at vh5;cases vh5) (Aze vh5 vt5 (by decide)) vh5
   have vpb:=hk5 _ _ (fun e=>by rw [e,vm5] at vp5;cases vp5) (Aze vp5 vt5 (by decide)) vp5
   have vsb:=hk5 _ _ (fun e=>by rw [e,vm5] at vs5;cases vs5) (Aze vs5 vt5 (by decide)) vs5
   have vib:=hk5 _ _ (fun e=>by rw [e,vm5] at vi5;cases vi5) (Aze vi5 vt5 (by decide)) vi5
   have nlm:l≠mb:=Ne.symm (nrl _ _ vm5).1
   have nlt:l≠tb:=Ne.symm (nrl _ _ vt5).1
   have nmt:mb≠tb:=fun e=>by rw [e,vt5] at vm5;cases vm5
   have hsb:=hs5.mv (H':=Hb) fun x q c t fr ht hx=>hk5 x _ (fun e=>by rw [e,vm5] at hx;cases hx) (Aze hx vt5 (by rcases ht with rfl | rfl | rfl<;>decide)) hx
   obtain ⟨es,clock,vmH,hmap⟩:=id h3
   have knb:Aje s.doors mb Hb:=⟨es,clock,hkb _ _ (Ne.symm nlm) vmH,hmap⟩
   have vtb:=hkb _ _ (Ne.symm nlt) h4
   have vrb:=hkb _ _ hlr h2
   have nxm:xb≠mb:=fun e=>by rw [e,vmH] at hxb;cases hxb
   have n6m:H6 mb≠none:=by rw [vm6];simp
   have n6t:H6 tb≠none:=by rw [vt6];simp
   have nrm:r≠mb:=Ne.symm (nrl _ _ vm5).2
   have nrt:r≠tb:=Ne.symm (nrl _ _ vt5).2
   clear h1 h3 vmH vl6 vr6 vh6 vm6 vp6 vt6 hs6 vs6 vi6 vth6 hn hr hl hround
   replace hloe:Aqk _:=hloe
   replace hkb:Aqk _:=hkb
   replace h6:Aqk _:=h6
   replace hk5:Aqk _:=hk5
   replace hnn:Aqk _:=hnn
   obtain ⟨hpp,hp0,hp1⟩:Aqk (s.hampers[i]?=some p)/\0<=p/\p<s.places:=⟨hi,ok.hk p (List.mem_of_getElem? hi)⟩
   obtain ⟨ib2,io,iq,ic,ifr,iw,hib2,hic⟩:=hsb.hh.get hi
   subst iw
   have hcl:=Avo s.doors p xs
   have hil2:i<s.hampers.length:=(List.getElem?_eq_some_iff.1 hpp).1
   have hspr:=fun H' q vh' kn' dd'=>Bzq main H' hb mb q s.places da dc (.slice (some ⟨ib2,io,none⟩) s.hampers.length kc) (.slice na s.noses.length nc) p xs s.doors vh' kn' dd' ok.p1 hp0 hp1 ok.dk ok.dl hxl hxt
   have hdist:=Bj3 (pl:=s.places) ok.p1 hp0 (by have:=ok.p1;omega) ok.dk hxt
   generalize hce:Axk s.doors p xs=c at *
   replace hce:Aqk _:=hce
   replace hpp:Aqk _:=hpp
   clear hi
   have hic6:(ints c).length=6:=by rw [Aqz];exact hcl
   simp only [hsO,smO] at vhb vsb
   (refine @unH _ (zA (aN Aq5 @Bool.or_true) ?_);(try clear hK K);intro K hK hc)
   refine Axm (fun HX=>Hb.le HX) [8,10] (.take 0 (.take 1 (.take 2 (.take 3 (.take 4 (.take 5 (.take 6 (.take 7 (.two 8 (.one 9 (.one 10 .nil)) 9 (.one 8 (.one 10 .nil))))))))))) (by kernel_rfl) (by kernel_rfl) (by decide) (by kernel_rfl) ?_;intro K hK0
   have hleb:Hb.le Hb:=Hp.le_refl _
   have hK:∀e' H',RdS Hb sb pb tb xb mb s.doors c e' H'->K (act 83 e' []) H':=fun e' H' hF=>hK0 _ _ (by
    clear hK0 K hleb
    obtain ⟨cb,e2,e5,e6,e7,e8,vc,kn,hfr⟩:=hF
    have hend:Aqk (∀(e2:Nat->Value) (Hz:Hp),(∀b x,b≠mb->b≠tb->Hb b=some x->Hz b=some x)->Aje s.doors mb Hz->Hz tb=some (true,.cells (Axc ⟨(i:Int),byL s (prF s p (L++[xs]))⟩).toArray 150 (0,0)) ->
      rnd l (fun e H'=>∃t,e=.returned (.bool t)/\folT H6 s p i l r mb tb lo t (L++[xs]) H'/\∀b x,¬H6 b≠none->H b=some x->H' b=some x) .normal (act 83 e2 []) Hz):=fun e2 Hz hfz knz vtz=>by
     have vlz:=hfz _ _ nlm nlt vlb
     refine ⟨rfl,_,vlz,true,rfl,?_,fun b x hb hx=>?_⟩
     ·have hloe':({ ({ lo with state:=LoopState.busy }:Loop) with state:=.ready,pending:=none }:Loop)=lo:=hloe
      rw [hloe']
      refine ⟨rfl,Axh,?_,?_,?_,fun x hx=>?_,fun b x g1 g2 g3 g4 hx=>?_⟩
      ·rw [Aqv hlr];exact hfz _ _ nrm nrt vrb
      ·obtain ⟨es,clock,k1,k2⟩:=knz
       exact ⟨es,clock,by rw [Aqv (Ne.symm nlm)];exact k1,k2⟩
      ·rw [Aqv (Ne.symm nlt)];exact vtz
      ·rcases List.mem_append.1 hx with hx | hx
       ·exact h5 x hx
       ·rw [List.mem_singleton.1 hx];exact hxl
      ·rw [Aqv g1]
       exact hfz b x g3 g4 ((show ∀b x,b≠l->H b=some x->Hb b=some x from hkb) b x g1 ((show ∀b x,b≠l->b≠r->b≠mb->b≠tb->H6 b=some x->H b=some x from h6) b x g1 g2 g3 g4 hx))
     ·have g1:=(show ∀b x,¬H6 b≠none->H b=some x->b≠l from hnn) b x hb hx
      rw [Aqv g1]
      exact hfz b x (fun e=>hb (by rw [e];exact n6m)) (fun e=>hb (by rw [e];exact n6t)) ((show ∀b x,b≠l->H b=some x->Hb b=some x from hkb) b x g1 hx)
    have nhm:hb≠mb:=fun e=>by rw [e,vm5] at vh5;cases vh5
    have vhc:=hfr _ _ nhm vhb
    have hnc:SlN H' (.slice na s.noses.length nc) s.noses:=hsb.nn.move fun x q c fr hx=>⟨q,hfr x _ (fun e=>by obtain ⟨es,clock,k1,k2⟩:=knb;rw [e,k1] at hx;cases hx) hx⟩
    have hc0:∀q,0<=q->q<6->0<=gI c q/\gI c q<=99:=fun q h0 h1=>⟨hdist.pos q h0 h1,by rcases hdist.att q h0 h1 with h | h<;>omega⟩
    have vpc:=hfr _ _ (fun e=>by rw [e,vm5] at vp5;cases vp5) vpb
    have hbe:=Bw5 main H' hb mb true s.places (.slice da s.doors.length dc) (.slice (some ⟨ib2,io,none⟩) s.hampers.length kc) na nc c s.noses vhc hnc ok.p1 ok.nk ok.nl hcl hc0
    have vtc:=hfr _ _ (Ne.symm nmt) vtb
    have vxc:=hfr _ _ nxm vxb
    have vsc:=hfr _ _ (fun e=>by rw [e,vm5] at vs5;cases vs5) vsb
    have hexc:=Ajk hcl
    clear vhc hnc hspr knb vlb vrb h2 hkb h6 hk5 hnn vib vhb vpb vsb vtb vxb hsb hib2 hic hex hxb
    (try refine @unH _ (zQ ?_))
    (refine @unH _ (zA (aN Aq5 @Bool.or_true) ?_);(try clear hK K);intro K hK hc)
    refine hbe.runs.mono ?_
    clear hbe
    rintro _ H8 ⟨blo,bhi,f,rfl,hbg,l8⟩
    have vt8:=l8 _ _ vtc
    have vx8:=l8 _ _ vxc
    have vs8:=l8 _ _ vsc
    have vc8:=l8 _ _ vc
    have kn8:=kn.le l8
    have hfr8:Aqk (∀b x,b≠mb->Hb b=some x->H8 b=some x):=fun b x hb hx=>l8 _ _ (hfr b x hb hx)
    have hpair:prF s p (L++[xs])=prF s p L++[(xs,c)]:=by
     unfold prF
     rw [List.map_append,List.map_singleton,show Axk s.doors p xs=c from hce]
    rw [hpair] at hend
    have hL0:∀tc∈prF s p L,tc.1.length=6:=fun tc htc=>by
     obtain ⟨t,ht,rfl⟩:=List.mem_map.1 htc
     exact h5 t ht
    clear vtc vxc vsc vc kn l8 hfr vpc hpair
    cases f with
    | false=>
     have hno:begN s.noses c 0 12=none:=by
      unfold Bw4 at hbg
      cases hq:begN s.noses c 0 12 with
      | none=>rfl
      | some q=>rw [hq] at hbg;exact absurd hbg.1 (by simp)
     rw [Cw0 (tc:=(xs,c)) hno] at hend
     clear hno hbg
     (refine @unH _ (zU (aN Aq5 @Bool.or_true) ?_);(try clear hK K);intro K hK hc)
     exact (show ∀e2 Hz,_->_->_->_ from hend) _ _ (fun b x g1 g2 hx=>(show ∀b x,b≠mb->Hb b=some x->H8 b=some x from hfr8) b x g1 hx) kn8 vt8
    | true=>
     have hsome:begN s.noses c 0 12=some (blo,bhi):=by
      unfold Bw4 at hbg
      cases hq:begN s.noses c 0 12 with
      | none=>rw [hq] at hbg;exact absurd hbg (by simp)
      | some q=>
       obtain ⟨ql,qh⟩:=q
       rw [hq] at hbg
       rw [hbg.2.1,hbg.2.2]
     obtain ⟨hin0,hin12⟩:=Cj5 _ hsome
     rw [Cw1 (tc:=(xs,c)) hsome] at hend
     clear hsome hbg
     obtain ⟨kl,rfl⟩:∃kl:Nat,blo=kl:=⟨blo.toNat,by omega⟩
     have hTo0:Ax3 ⟨(i:Int),byL s (prF s p L)⟩:=Cj9 hL0 _
     generalize byL s (prF s p L)=hs0 at *
     replace hTo0:Aqk _:=hTo0
     clear hL0
     (refine @unH _ (zU (aN Aq5 @Bool.or_true) ?_);(try clear hK K);intro K hK hc)
     refine Axg (fun w a' H'=>∃e,∃k:Nat,w=(bhi+1-k).toNat/\kl<=k/\(k=kl∨(k:Int)<=bhi+1)/\a'=act 83 e []/\e 2=.pointer (some ⟨sb,0,none⟩)/\e 6=.pointer (some ⟨tb,0,none⟩)/\e 7=.pointer (some ⟨xb,0,none⟩)/\e 8=.pointer (some ⟨cb,0,none⟩)/\e 10=.int .i64 bhi/\e 12=.int .i64 (k:Nat) /\
      H' tb=some (true,.cells (Axc ⟨(i:Int),Azw s.places (xs,c) kl k hs0⟩).toArray 150 (0,0))/\∀b x,b≠tb->H8 b=some x->H' b=some x) (n:=(bhi+1-kl).toNat) ?_ ?_
     ·exact ⟨_,kl,rfl,Nat.le_refl _,.inl rfl,rfl,e2,e6,e7,e8,rfl,rfl,by rw [Ayd _ _ (Int.le_refl _)];exact vt8,fun _ _ _ hx=>hx⟩
     ·clear e2 e6 e7 e8 e5
      rintro w a' H9 ⟨e,k,rfl,hkl,hkb,rfl,e2,e6,e7,e8,e10,e12,vt9,hfr9⟩
      by_cases hlt:(k:Int)<=bhi
      ·obtain ⟨x,hx0⟩:∃x,hs0[k]?=some x:=⟨_,List.getElem?_eq_getElem (by rw [show hs0.length=13 from (show Ax3 _ from hTo0).l];omega)⟩
       have hxo:Axo x:=(show Ax3 _ from hTo0).k x (List.mem_of_getElem? hx0)
       have hTk:Ax3 ⟨(i:Int),Azw s.places (xs,c) kl k hs0⟩:=Ck9 hxl hTo0
       have hxk:(Azw s.places (xs,c) kl k hs0)[k]?=some x:=by rw [Bjr hx0,if_neg (by omega)]
       have hHR:=HR.refl hTk hxk
       have hstep:=Byw (pl:=s.places) (tc:=(xs,c)) hx0 (show (kl:Int)<=(k:Int) by omega)
       have hdone:Aqk (∀c1:Array Value,HR c1 (Axc ⟨(i:Int),Azw s.places (xs,c) kl k hs0⟩).toArray (1+k*25) (Ajy s.places k x (xs,c))->c1=(Axc ⟨(i:Int),Azw s.places (xs,c) kl ((k:Int)+1) hs0⟩).toArray):=fun c1 h=>by
        rw [hstep]
        exact HR.done hTk (by omega) (Bqk hxo hxl) h
       have hsz:(Axc ⟨(i:Int),Azw s.places (xs,c) kl k hs0⟩).toArray.size=326:=by rw [List.size_toArray];exact Axt hTk
       have hsm:=hHR.sm hxo
       clear hstep hTk hxk
       generalize (Axc ⟨(i:Int),Azw s.places (xs,c) kl k hs0⟩).toArray=c0 at *
       replace hfr9:Aqk _:=hfr9
       have htk6:(ints xs).take 6=ints xs:=List.take_of_length_le (by omega)
       (refine @unH _ (zS (aN Aq5 @Bool.or_true) ?_);(try clear hK K);intro K hK hc)
       refine Axn ?_
       (refine @unH _ (zS (aN Aq5 @Bool.or_true) ?_);(try clear hK K);intro K hK hc)
       refine Axn (Ax7 ?_)
       (refine @unH _ (zS (aN Aq5 @Bool.or_true) ?_);(try clear hK K);intro K hK hc)
       have nxt:xb≠tb:=Aze vx8 vt8 (by decide)
       have vx9:=(show ∀b x,b≠tb->H8 b=some x->H9 b=some x from hfr9) _ _ (Aze vx8 vt8 (by decide)) vx8
       refine Avt (fun a' H'=>∃e c1,a'=act 83 e []/\e 2=.pointer (some ⟨sb,0,none⟩)/\e 6=.pointer (some ⟨tb,0,none⟩)/\e 7=.pointer (some ⟨xb,0,none⟩)/\e 8=.pointer (some ⟨cb,0,none⟩)/\e 10=.int .i64 bhi/\e 12=.int .i64 (k:Nat)/\e 13=.pointer (some ⟨tb,1+k*25,none⟩) /\
        H' tb=some (true,.cells c1 150 (0,0))/\HR c1 c0 (1+k*25) (Aw1 s.places k x (xs,c) 0)/\∀b x,b≠tb->H8 b=some x->H' b=some x) ?_ ?_
       ·cases hxs:x.some with
        | true=>
         rw [hxs] at hsm
         (refine @unH _ (zA (aN Aq5 @Bool.or_true) ?_);(try clear hK K);intro K hK hc)
         refine ⟨_,c0,rfl,e2,e6,e7,e8,e10,e12,rfl,vt9,?_,hfr9⟩
         rw [Bjq,hxs,if_pos rfl]
         obtain ⟨xbs,xfs,xsm⟩:=x
         simp only at hxs
         subst hxs
         exact hHR
        | false=>
         rw [hxs] at hsm
         (refine @unH _ (zA (aN Aq5 @Bool.or_true) ?_);(try clear hK K);intro K hK hc)
         refine Axm (fun HX=>HX xb=some (true,.cells (ints xs).toArray 77 (0,0))) [8] (.free 0 (.free 1 (.take 2 (.free 3 (.free 4 (.one 5 (.free 6 (.free 7 (.one 8 .nil))))))))) (by kernel_rfl) (by kernel_rfl) (by decide) (by kernel_rfl) ?_;intro K hK
         (iterate 2 (refine @unH _ ?_;refine zI (aN Aq5 @Bool.or_true) ?_))
         (refine @unH _ ?_;refine zJ (aN Aq5 @Bool.or_true) ?_)
         (iterate 2 (refine @unH _ ?_;refine zI (aN Aq5 @Bool.or_true) ?_))
         refine Aqw ?_
         (refine @unH _ ?_;refine zX (aN Aq5 @Bool.or_true) ?_)
         refine ⟨.inr (fun _=>by first | trivial | rw [if_neg nxt]),?_⟩
         generalize hG:Hp.set H9 tb _=H10
         have vt10:=Aqb hG
         have hfr10:Aqk (∀b x,b≠tb->H9 b=some x->H10 b=some x):=fun b x hb hx=>Aqi hG hx hb
         clear hG
         (iterate 2 (refine @unH _ ?_;refine zI (aN Aq5 @Bool.or_true) ?_))
         refine Aqw ?_
         (refine @unH _ ?_;refine zX (aN Aq5 @Bool.or_true) ?_)
         rw [Aj9 (c:=c0.setIfInBounds (1+k*25+24) (.bool true)) (e:=150) (by intro h;rw [h] at hil;simp at hil) vt10]
         refine ⟨by rw [List.all_eq_true];exact Bxm xs,by rw [Aqz,hxl,Array.size_setIfInBounds];omega,.inl (by decide),Axq (hK _ _ ?_)⟩
         clear hK K
         refine ⟨_,_,rfl,e2,e6,e7,e8,e10,e12,rfl,Axh,?_,fun b x' hb hx=>?_⟩
         ·rw [Bjq,hxs,if_neg (by simp)]
          exact HR.set1 hHR hxo (by omega) hxl
         ·rw [Aqv hb]
          exact (show ∀b x,b≠tb->H9 b=some x->H10 b=some x from hfr10) b _ hb ((show ∀b x,b≠tb->H8 b=some x->H9 b=some x from hfr9) b _ hb hx)
       ·clear vt9 hHR hsm hfr9 vx9 e2 e6 e7 e8 e10 e12
        rintro a' H10 ⟨e,c1,rfl,e2,e6,e7,e8,e10,e12,e13,vt10,hr10,hfr10⟩
        have vs10:=hfr10 _ _ (Aze vs8 vt8 (by decide)) vs8
        replace hfr10:Aqk _:=hfr10
        (refine @unH _ (zA (aN Aq5 @Bool.or_true) ?_);(try clear hK K);intro K hK hc)
        refine Axg (fun w a' H'=>∃e c1,∃m:Nat,w=s.places.toNat-m/\(m:Int)<=s.places/\a'=act 83 e []/\e 2=.pointer (some ⟨sb,0,none⟩)/\e 6=.pointer (some ⟨tb,0,none⟩)/\e 7=.pointer (some ⟨xb,0,none⟩)/\e 8=.pointer (some ⟨cb,0,none⟩)/\e 10=.int .i64 bhi/\e 12=.int .i64 (k:Nat)/\e 13=.pointer (some ⟨tb,1+k*25,none⟩) /\
         e 63=.int .i64 s.places/\e 64=.int .i64 (m:Nat)/\H' tb=some (true,.cells c1 150 (0,0))/\HR c1 c0 (1+k*25) (Aw1 s.places k x (xs,c) m)/\∀b x,b≠tb->H8 b=some x->H' b=some x) (n:=s.places.toNat) ?_ ?_
        ·exact ⟨_,c1,0,by omega,by have:=ok.p0;omega,rfl,e2,e6,e7,e8,e10,e12,e13,rfl,rfl,vt10,hr10,hfr10⟩
        ·clear vt10 hr10 hfr10 vs10 e2 e6 e7 e8 e10 e12 e13
         rintro w a' H11 ⟨e,c2,m,rfl,hm,rfl,e2,e6,e7,e8,e10,e12,e13,e63,e64,vt11,hr11,hfr11⟩
         have ok1:=ok.p1
         by_cases hmp:(m:Int)<s.places
         ·obtain ⟨w,hw⟩:∃w,x.bs[m]?=some w:=⟨_,List.getElem?_eq_getElem (by rw [hxo.b];omega)⟩
          have hbc:=hr11.bd (Cxn hxo hxl m) (Ck8 (pl:=s.places) (b:=(k:Int)) (tc:=(xs,c)) hw)
          have hsu:=Czy (pl:=s.places) (b:=(k:Int)) (tc:=(xs,c)) hw hmp
          have hadd:=hr11.add (Cxn hxo hxl m) (by omega) (show m<6 by omega) (Bqg w (min 99 ((k:Int)+gI c (m:Int))))
          rw [<-hsu] at hadd
          have hgc:=Av6 hcl (show (0:Int)<=(m:Int) by omega) (by omega)
          rw [Int.toNat_natCast] at hgc
          obtain ⟨hg0,hg9⟩:=hc0 (m:Int) (by omega) (by omega)
          have vc11:=hfr11 _ _ (Aze vc8 vt8 (by decide)) vc8
          generalize gI c (m:Int)=g at *
          clear hsu hr11
          replace hfr11:Aqk _:=hfr11
          (refine @unH _ (zA (aN Aq5 @Bool.or_true) ?_);(try clear hK K);intro K hK hc)
          rw [show (if (k:Int)+g<99 then (k:Int)+g else 99)=min 99 ((k:Int)+g) by split<;>omega]
          rw [Bki,Ajw]
          simp only [Array.append_empty,List.append_toArray,List.cons_append,List.nil_append]
          refine (Bwh main H11 tb (1+k*25+m*3) w (min 99 ((k:Int)+g)) c2 150 vt11 hbc).runs.mono ?_
          rintro _ H12 ⟨rfl,vt12,hfr12⟩
          replace hfr12:Aqk _:=hfr12
          clear vt11 hbc hgc vc11
          (refine @unH _ (zU (aN Aq5 @Bool.or_true) ?_);(try clear hK K);intro K hK hc)
          exact ⟨_,by omega,_,_,m+1,rfl,by omega,rfl,e2,e6,e7,e8,e10,e12,e13,e63,rfl,vt12,hadd,fun b x' hb hx=>((show ∀y,y≠tb->H12 y=H11 y from hfr12) b hb).trans ((show ∀b x,b≠tb->H8 b=some x->H11 b=some x from hfr11) b _ hb hx)⟩
         ·rw [Ck7 (by omega)] at hr11
          obtain rfl:=(show ∀c1:Array Value,HR c1 c0 (1+k*25) (Ajy s.places k x (xs,c))->c1=_ from hdone) c2 hr11
          clear hr11 hdone
          replace hfr11:Aqk _:=hfr11
          (refine @unH _ (zA (aN Aq5 @Bool.or_true) ?_);(try clear hK K);intro K hK hc)
          exact ⟨_,by omega,_,k+1,rfl,by omega,.inr (by omega),rfl,e2,e6,e7,e8,e10,rfl,vt11,hfr11⟩
      ·have hfin:Azw s.places (xs,c) kl (bhi+1) hs0=Azw s.places (xs,c) kl k hs0:=by
        rcases hkb with rfl | hkb
        ·by_cases h:bhi+1<=(k:Int)
         ·rw [Ayd _ _ h,Ayd _ _ (Int.le_refl _)]
         ·omega
        ·rw [show bhi+1=(k:Int) by omega]
       rw [hfin] at hend
       replace hfr9:Aqk _:=hfr9
       clear hfin hkb
       (refine @unH _ (zA (aN Aq5 @Bool.or_true) ?_);(try clear hK K);intro K hK hc)
       refine (show ∀e2 Hz,_->_->_->_ from hend) _ _ (fun b x g1 g2 hx=>(show ∀b x,b≠tb->H8 b=some x->H9 b=some x from hfr9) b x g2 ((show ∀b x,b≠mb->Hb b=some x->H8 b=some x from hfr8) b x g1 hx)) ?_ vt9
       obtain ⟨es,clock,k1,k2⟩:=kn8
       exact ⟨es,clock,(show ∀b x,b≠tb->H8 b=some x->H9 b=some x from hfr9) _ _ nmt k1,k2⟩)
   clear hK0
   (iterate 8 (apply Axd rfl rfl rfl ‹_›;(focus (intro HX hHX;simp -implicitDefEqProofs (disch:=first | omega | (simp only [qd]<;>omega)) only [xq,↓xp,qc,Nat.reduceAdd,List.range,List.range.loop,fine,Nat.reduceEqDiff,↓reduceIte,yielded,reduceCtorEq,Nat.reduceLT,Nat.reduceMul,Nat.reduceSub,one,Nat.reduceLeDiff,Aqg,Aq5,aq,↓ap,qe0,qe1,qe2, *,-hK,Axa,hHX _ _ vpb,hHX _ _ vsb,hHX _ _ vib,hHX _ _ vxb,hHX _ _ hib2,Bye,Bool.or_true]<;>(first | exact rfl | exact ⟨rfl,rfl⟩ | exact ⟨rfl,trivial⟩)));simp -implicitDefEqProofs (disch:=first | omega | (simp only [qd]<;>omega)) only [Aq3,Aql]))
   refine Avb ?_ ?_
   ·(refine @unH _ ?_;refine zX (aN Aq5 @Bool.or_true) ?_)
    refine (hspr Hb true vhb knb hsb.dd).runs.mono ?_
    rintro _ Hc ⟨rfl,hfc,knc⟩
    (refine @unH _ ?_;refine zX (aN Aq5 @Bool.or_true) ?_)
    refine ⟨.inl (by decide),Aqw ?_⟩
    (refine @unH _ ?_;refine zX (aN Aq5 @Bool.or_true) ?_)
    (intro cb hcb;generalize hG:Hp.set _ cb _=Hd;have lHd:=Aqc hG hcb;have vcb:=Aqb hG;clear hG)
    refine ⟨.inr (fun h=>Hp.le_trans h lHd),Aqw ?_⟩
    (refine @unH _ ?_;refine zX (aN Aq5 (aN @Bool.or_true (aN @Avq (aN @Aj7 @Aj8)))) ?_)
    refine ⟨.inl (by decide),Axq (hK _ _ ?_)⟩
    refine ⟨cb,e2,e5,e6,rfl,rfl,Axh,?_,fun b x hb hx=>?_⟩
    ·obtain ⟨es,clock,k1,k2⟩:=knc
     exact ⟨es,clock,by rw [Aqv (Aqr k1 hcb)];exact lHd _ _ k1,k2⟩
    ·have h1:=hfc b x hb hx
     rw [Aqv (Aqr h1 hcb)]
     exact lHd _ _ h1
   ·(refine @unH _ ?_;refine zX (aN Aq5 @Bool.or_true) ?_)
    (intro cb hcb;generalize hG:Hp.set _ cb _=Hd;have lHd:=Aqc hG hcb;have vcb:=Aqb hG;clear hG)
    refine ⟨.inr (fun _=>by first | exact lHd | trivial),Aqw ?_⟩
    have vhd:=lHd _ _ vhb
    (refine @unH _ ?_;refine zX (aN Aq5 @Bool.or_true) ?_)
    refine (hspr Hd true vhd (knb.le lHd) (hsb.dd.le lHd)).runs.mono ?_
    rintro _ Hc ⟨rfl,hfc,knc⟩
    have ncm:cb≠mb:=fun e=>by obtain ⟨es,clock,k1,k2⟩:=knb;rw [<-e,hcb] at k1;cases k1
    have vcc:=hfc _ _ ncm vcb
    (refine @unH _ ?_;refine zX (aN Aq5 @Bool.or_true) ?_)
    refine ⟨.inl (by decide),Aqw ?_⟩
    (refine @unH _ ?_;refine zX (aN Aq5 (aN @Bool.or_true (aN @Avq (aN @Aj7 @Aj8)))) ?_)
    refine ⟨.inl (by decide),Axq (hK _ _ ?_)⟩
    refine ⟨cb,e2,e5,e6,rfl,rfl,Axh,?_,fun b x hb hx=>?_⟩
    ·obtain ⟨es,clock,k1,k2⟩:=knc
     exact ⟨es,clock,by rw [Aqv (Ne.symm ncm)];exact k1,k2⟩
    ·rw [Aqv (Aqr hx hcb)]
     exact hfc b x hb (lHd _ _ hx)
 have hpk:=ok.hk p (List.mem_of_getElem? hi)
 have nlm:l≠mb:=Ne.symm (nrl _ _ vm5).1
 have nrm:r≠mb:=Ne.symm (nrl _ _ vm5).2
 have nlt:l≠tb:=Ne.symm (nrl _ _ vt5).1
 have nrt:r≠tb:=Ne.symm (nrl _ _ vt5).2
 have hT0:folT H6 s p i l r mb tb lo true [] H6:=by
  refine ⟨rfl,vl6,vr6,⟨#[],0,vm6,fun e he=>by simp at he⟩,?_,fun x hx=>by simp at hx,fun _ _ _ _ _ _ hx=>hx⟩
  rw [vt6]
  rfl
 have hthis:∀L H,folT H6 s p i l r mb tb lo true L H->∃hb mb q q',H thisb=some (q',.cells #[.pointer (some ⟨hb,0,none⟩)] 78 (0,0))/\H hb=some (q,hsO s.places (.slice da s.doors.length dc) (.slice ha s.hampers.length kc) (.slice na s.noses.length nc) mb)/\SlD H (.slice da s.doors.length dc) s.doors:=by
  rintro L H ⟨_,h1,h2,h3,h4,h5,h6⟩
  refine ⟨hb,mb,true,true,h6 _ _ (nrl _ _ vth).1 (nrl _ _ vth).2 (fun e=>by rw [e,vm6] at vth6;cases vth6) (Aze vth6 vt6 (by decide)) vth6,h6 _ _ (nrl _ _ vh5).1 (nrl _ _ vh5).2 (fun e=>by rw [e,vm6] at vh6;cases vh6) (Aze vh6 vt6 (by decide)) vh6,hs6.dd.move fun x q c fr hx=>⟨q,?_⟩⟩
  exact h6 _ _ (fun e=>by rw [e,vl6] at hx;cases hx) (fun e=>by rw [e,vr6] at hx;cases hx) (fun e=>by rw [e,vm6] at hx;cases hx) (Aze hx vt6 (by decide)) hx
 have hrun:=Byq main (thisb:=thisb) (pl:=s.places) (da:=da) (dc:=dc) (hv:=.slice ha s.hampers.length kc) (nv:=.slice na s.noses.length nc) (ds:=s.doors) hC (fun t L H h=>h.1) hthis ok.dl H6 hT0 (fun u hu=>⟨by
  have:=Ake hu
  have:=ok.dl
  simp [pad6]
  omega,Akn ok.dk hu⟩)
 refine hrun.runs.mono ?_
 clear hrun hC hround hthis hT0
 rintro _ H7 ⟨rfl,⟨_,vl7,vr7,_,vt7,hL6,hk7⟩,hfr7⟩
 refine Bw6 vl7 hlo1 hlo2 ?_
 have hTe:(⟨(i:Int),byL s (prF s p ((Ax1 s.doors).map pad6))⟩:Trail)=Az0 s i:=by
  unfold Az0 prF trL
  rw [List.map_map,List.getD,hi]
  rfl
 have hTo:Ax3 ⟨(i:Int),byL s (prF s p ((Ax1 s.doors).map pad6))⟩:=Cj9 (fun tc htc=>by
  obtain ⟨t,ht,rfl⟩:=List.mem_map.1 htc
  exact hL6 t ht) _
 rw [hTe] at vt7 hTo
 clear hTe hL6
 generalize Az0 s i=T at *
 have hTl:=Axt hTo
 have hTx:=Bwt hTo
 have vrb7:=hk7 _ _ (nrl _ _ vr5).1 (nrl _ _ vr5).2 (fun e=>by have:=l56 _ _ vr5;rw [e,vm6] at this;cases this) (fun e=>by rw [e,n0t] at vr;cases vr) (l56 _ _ vr5)
 have hk9:∀b x,b≠l->b≠r->b≠mb->b≠tb->H6 b=some x->(H7.set l (.loop { lo with state:=.exhausted })) b=some x:=fun b x g1 g2 g3 g4 hx=>(Aqv g1).trans (hk7 b x g1 g2 g3 g4 hx)
 have vt9:(H7.set l (.loop { lo with state:=.exhausted })) tb=_:=(Aqv (Ne.symm nlt)).trans vt7
 have vr9:(H7.set l (.loop { lo with state:=.exhausted })) r=_:=(Aqv hlr).trans vr7
 have vrb9:(H7.set l (.loop { lo with state:=.exhausted })) rb=_:=(Aqv (nrl _ _ vr5).1).trans vrb7
 have nrbr:rb≠r:=(nrl _ _ vr5).2
 have h3l:H3 l=none:=Hp.le_none l35 hnl
 have h3r:H3 r=none:=Hp.le_none l35 hr
 have l36:=Hp.le_trans l35 l56
 generalize H7.set l (.loop { lo with state:=.exhausted })=H9 at *
 clear vl7 vr7 vt7 hfr7 hk7 vrb7 vl6 vr6 vh6 vm6 vp6 vt6 hs6 vs6 vi6 vth6 nrl vh5 vm5 vp5 vt5 hs5 vs5 vi5 vr5 vth n4th
 (try refine @unH _ (zQ ?_))
 (refine @unH _ (zA Aq5 ?_);(try clear hK K);intro K hK hc)
 rw [Aym hTo vrb9 hz]
 refine hK _ _ ?_
 clear hK K
 (try refine @unH _ (zQ ?_))
 (refine @unH _ (zA Aq5 ?_);(try clear hK K);intro K hK hc)
 refine Axr ?_
 (try refine @unH _ (zQ ?_))
 refine Czg (show (Hp.set H9 rb _) r=_ from (Aqv (Ne.symm nrbr)).trans vr9) ?_
 rw [Ax4 results106 (by decide) (b:=rb) (o:=0) (by exact e4) underlying150 rfl sizeOf150]
 rw [Awp (p:=true) (c:=(Axc T).toArray) (e:=150) (f:=(0,0)) ((Aqv nrbr).trans Axh)]
 refine ⟨by rw [List.size_toArray,hTl];omega,?_⟩
 rw [show (Axc T).toArray.extract 0 (0+(325+1))=_ from hTx]
 refine (show ∀H',(∀b x,b≠rb->H3 b=some x->H' b=some x)->R (.returned (.agg (Axc T).toArray)) H' from hR) _ fun b x hb hx=>?_
 rw [Aqv (fun e=>by rw [e,h3r] at hx;cases hx),Aqv hb]
 exact hk9 b x (fun e=>by rw [e,h3l] at hx;cases hx) (fun e=>by rw [e,h3r] at hx;cases hx) (fun e=>by rw [e,n0m] at hx;cases hx) (fun e=>by rw [e,n0t] at hx;cases hx) (l36 _ _ hx)
def Aq6:=aN @Dyt (aN @Dw9 (aN @Byf (aN @Dw2 (aN @Bxx (aN @Dy2 (aN @Eqd (aN @Dyg (aN @Dw5 (aN @Cq9 (aN @Dy1 (aN @Dyl (aN @Dwk (aN @Dw0 (aN @Dyp (aN @Dyd (aN @Akw (aN @Byg (aN @Dy3 (aN @Dym (aN @Dye (aN @Cxa (aN @Dwh (aN @Dv1 (aN @Dwd (aN @Dw3 (aN @Dvz (aN @Dwc (aN @Dwi (aN @Dwb (aN @Dv0 (aN @Dv3 (aN @Ayg @Dw7))))))))))))))))))))))))))))))))
theorem Bys (main:Md) (H:Hp) (s:Sm) (dv hv nv:Value) (hs:SmIn H dv hv nv s) (ok:SmOk s) (i:Nat) (p:Int) (hi:s.hampers[i]?=some p) :
  FnX Tryz.prog main 106 #[smV s.places dv hv nv,.int .i64 i] H fun e H'=>e=.returned (.agg (Axc (Az0 s i)).toArray)/\H.le H':=by
 obtain ⟨da,dc,ha,kc,na,nc,rfl,rfl,rfl,l1,l2,l3⟩:=hs.forms
 refine Aqn func106 rfl ntmps106 (by simp) ?_
 refine Axz rfl ?_;intro K hK
 (refine @unH _ ?_;refine zX Aq6 ?_)
 intro sb hsb ib hib rb hrb
 replace hrb:(Hp.set (Hp.set H sb (smO s.places (.slice da s.doors.length dc) (.slice ha s.hampers.length kc) (.slice na s.noses.length nc))) ib (.cells #[.int .i64 i] 3 (0,0))) rb=none:=hrb
 replace hib:(Hp.set H sb (smO s.places (.slice da s.doors.length dc) (.slice ha s.hampers.length kc) (.slice na s.noses.length nc))) ib=none:=hib
 generalize hG:Hp.set H sb _=H1 at hib hrb ⊢
 have lH1:=Aqc hG hsb
 have ws:=Aqb hG
 clear hG
 generalize hG:Hp.set H1 ib _=H2 at hrb ⊢
 have lH2:=Aqc hG hib
 have wi:=Aqb hG
 clear hG
 generalize hG:Hp.set H2 rb _=H3
 have lH3:=Aqc hG hrb
 have vr:=Aqb hG
 clear hG
 have vs:=lH3 _ _ (lH2 _ _ ws)
 have vi:=lH3 _ _ wi
 have l03:=Hp.le_trans lH1 (Hp.le_trans lH2 lH3)
 have h0rb:H rb=none:=Hp.le_none (Hp.le_trans lH1 lH2) hrb
 clear hsb hib hrb ws wi lH1 lH2 lH3
 refine hK _ _ ?_;clear hK K
 have hT0:Ax3 ⟨i,List.replicate 13 Czx⟩:=⟨rfl,fun x hx=>by rw [List.eq_of_mem_replicate hx];exact Cxl⟩
 refine Cwj (fun HX=>H3.le HX) [7] (.take 0 (.take 2 (.take 3 (.three 1 (.two 4 (.one 5 (.one 6 (.one 7 .nil))) 5 (.one 4 (.one 6 (.one 7 .nil)))) 4 (.two 1 (.one 5 (.one 6 (.one 7 .nil))) 5 (.one 1 (.one 6 (.one 7 .nil)))) 5 (.two 1 (.one 4 (.one 6 (.one 7 .nil))) 4 (.one 1 (.one 6 (.one 7 .nil)))))))) (by kernel_rfl) (by kernel_rfl) (by decide) (by kernel_rfl) ?_;intro K hK0
 have gH3:H3.le H3:=Hp.le_refl _
 have hK:∀e H',FolS H3 sb ib rb s.places (.slice da s.doors.length dc) (.slice ha s.hampers.length kc) (.slice na s.noses.length nc) ⟨i,List.replicate 13 Czx⟩ e H'->K (act 83 e []) H':=fun e H' hF=>hK0 _ _ (by
  clear hK0 K gH3
  refine Cy1 main H3 H' sb ib rb s ok i p hi da dc ha kc na nc (hs.le l03) vs vi _ rfl vr e hF _ (fun H'' hk=>⟨rfl,fun b x hx=>hk b x (fun e=>by rw [e,h0rb] at hx;cases hx) (l03 _ _ hx)⟩))
 clear hK0
 (iterate 2 (apply Bjx rfl rfl rfl ‹_›;(focus (intro HX hHX;simp -implicitDefEqProofs (disch:=first | omega | (simp only [qd]<;>omega)) only [xq,↓xp,qc,Nat.reduceAdd,List.range,List.range.loop,fine,Nat.reduceEqDiff,↓reduceIte,yielded,reduceCtorEq,Nat.reduceLT,Nat.reduceMul,Nat.reduceSub,one,Nat.reduceLeDiff,Aqg,Aq6,aq,↓ap,qe0,qe1,qe2, *,-hK,Axa,hHX _ _ vs,hHX _ _ vi]<;>(first | exact rfl | exact ⟨rfl,rfl⟩ | exact ⟨rfl,trivial⟩)));simp -implicitDefEqProofs (disch:=first | omega | (simp only [qd]<;>omega)) only [Aq3,Aql]))
 refine Bjx (v:=.agg (Axc ⟨i,List.replicate 13 Czx⟩).toArray) rfl rfl rfl ‹_› (fun HX hHX=>?_) ?_
 ·(refine @unH _ ?_;refine zX (aN Aq6 @Axa) ?_)
  first | exact rfl | exact ⟨rfl,rfl⟩
 ·simp -implicitDefEqProofs (disch:=first | omega | (simp only [qd]<;>omega)) only [Aq3,Aql]
  refine By4 ?_ ?_ ?_
  ·(refine @unH _ ?_;refine zX Aq6 ?_)
   refine (Akc main H3 _ _ _ _ _ _ _ _ _ _).runs.mono ?_
   rintro _ H4 ⟨hb,mb,rfl,vhb,vmb,h0h,h0m,lH4⟩
   (refine @unH _ ?_;refine zX Aq6 ?_)
   have gH4:H3.le H4:=Hp.le_trans gH3 lH4
   refine ⟨.inr (fun _=>by first | exact gH4 | trivial),?_⟩
   refine Bzi ?_ ?_
   ·(refine @unH _ ?_;refine zX Aq6 ?_)
    (intro pb hpb;generalize hG:Hp.set _ pb _=H5;have lH5:=Aqc hG hpb;have vpb:=Aqb hG;clear hG)
    have gH5:H3.le H5:=Hp.le_trans gH4 lH5
    refine ⟨.inr (fun _=>by first | exact gH5 | trivial),?_⟩
    refine Axy ?_
    (refine @unH _ ?_;refine zX Aq6 ?_)
    (intro tb htb;generalize hG:Hp.set _ tb _=H6;have lH6:=Aqc hG htb;have vtb:=Aqb hG;clear hG)
    have gH6:H3.le H6:=Hp.le_trans gH5 lH6
    refine ⟨.inr (fun _=>by first | exact gH6 | trivial),?_⟩
    have vhx:=(lH6 _ _ (lH5 _ _ vhb))
    have vmx:=(lH6 _ _ (lH5 _ _ vmb))
    have vpx:=(lH6 _ _ vpb)
    have vtx:=vtb
    have n0h:=(Hp.le_none gH3 h0h)
    have n0m:=(Hp.le_none gH3 h0m)
    have n0p:=(Hp.le_none gH4 hpb)
    have n0t:=(Hp.le_none gH5 htb)
    refine Axy ?_
    (refine @unH _ ?_;refine zX Aq6 ?_)
    generalize hG:Hp.set H6 pb _=H7
    have vh7:=Aqi hG vhx (Aze vhx vpx (by decide))
    have vm7:=Aqi hG vmx (fun e=>by rw [e,vpx] at vmx;cases vmx)
    have vp7:=Aqb hG
    have vt7:=Aqi hG vtx (Aze vtx vpx (by decide))
    have g7:H3.le H7:=fun b x hx=>Aqi hG (gH6 _ _ hx) (fun e=>by rw [e,n0p] at hx;cases hx)
    have nth:hb≠tb:=Aze vh7 vt7 (by decide)
    have ntp:pb≠tb:=Aze vp7 vt7 (by decide)
    have ntm:mb≠tb:=fun e=>by rw [e,vt7] at vm7;cases vm7
    refine ⟨.inr (fun _=>by first | exact g7 | trivial),Axy ?_⟩
    (refine @unH _ ?_;refine zX Aq6 ?_)
    refine ⟨Axt hT0,?_⟩
    rw [Aym hT0 vt7 rfl]
    refine ⟨.inl (by decide),Avc (hK _ _ ⟨hb,mb,pb,tb,rfl,rfl,rfl,rfl,rfl,fun b x hx=>?_,⟨n0h,n0m,n0p,n0t⟩,?_,?_,?_,Axh⟩)⟩
    ·rw [Aqv (fun e=>by rw [e,n0t] at hx;cases hx)];exact g7 _ _ hx
    ·rw [Aqv nth];exact vh7
    ·rw [Aqv ntm];exact vm7
    ·rw [Aqv ntp];exact vp7
   ·(refine @unH _ ?_;refine zX Aq6 ?_)
    (intro tb htb;generalize hG:Hp.set _ tb _=H5;have lH5:=Aqc hG htb;have vtb:=Aqb hG;clear hG)
    have gH5:H3.le H5:=Hp.le_trans gH4 lH5
    refine ⟨.inr (fun _=>by first | exact gH5 | trivial),?_⟩
    refine Axy ?_
    (refine @unH _ ?_;refine zX Aq6 ?_)
    (intro pb hpb;generalize hG:Hp.set _ pb _=H6;have lH6:=Aqc hG hpb;have vpb:=Aqb hG;clear hG)
    have gH6:H3.le H6:=Hp.le_trans gH5 lH6
    refine ⟨.inr (fun _=>by first | exact gH6 | trivial),?_⟩
    have vhx:=(lH6 _ _ (lH5 _ _ vhb))
    have vmx:=(lH6 _ _ (lH5 _ _ vmb))
    have vpx:=vpb
    have vtx:=(lH6 _ _ vtb)
    have n0h:=(Hp.le_none gH3 h0h)
    have n0m:=(Hp.le_none gH3 h0m)
    have n0p:=(Hp.le_none gH5 hpb)
    have n0t:=(Hp.le_none gH4 htb)
    refine Axy ?_
    (refine @unH _ ?_;refine zX Aq6 ?_)
    generalize hG:Hp.set H6 pb _=H7
    have vh7:=Aqi hG vhx (Aze vhx vpx (by decide))
    have vm7:=Aqi hG vmx (fun e=>by rw [e,vpx] at vmx;cases vmx)
    have vp7:=Aqb hG
    have vt7:=Aqi hG vtx (Aze vtx vpx (by decide))
    have g7:H3.le H7:=fun b x hx=>Aqi hG (gH6 _ _ hx) (fun e=>by rw [e,n0p] at hx;cases hx)
    have nth:hb≠tb:=Aze vh7 vt7 (by decide)
    have ntp:pb≠tb:=Aze vp7 vt7 (by decide)
    have ntm:mb≠tb:=fun e=>by rw [e,vt7] at vm7;cases vm7
    refine ⟨.inr (fun _=>by first | exact g7 | trivial),Axy ?_⟩
    (refine @unH _ ?_;refine zX Aq6 ?_)
    refine ⟨Axt hT0,?_⟩
    rw [Aym hT0 vt7 rfl]
    refine ⟨.inl (by decide),Avc (hK _ _ ⟨hb,mb,pb,tb,rfl,rfl,rfl,rfl,rfl,fun b x hx=>?_,⟨n0h,n0m,n0p,n0t⟩,?_,?_,?_,Axh⟩)⟩
    ·rw [Aqv (fun e=>by rw [e,n0t] at hx;cases hx)];exact g7 _ _ hx
    ·rw [Aqv nth];exact vh7
    ·rw [Aqv ntm];exact vm7
    ·rw [Aqv ntp];exact vp7
  ·(refine @unH _ ?_;refine zX Aq6 ?_)
   (intro pb hpb;generalize hG:Hp.set _ pb _=H4;have lH4:=Aqc hG hpb;have vpb:=Aqb hG;clear hG)
   have gH4:H3.le H4:=Hp.le_trans gH3 lH4
   refine ⟨.inr (fun _=>by first | exact gH4 | trivial),?_⟩
   refine Bzi ?_ ?_
   ·(refine @unH _ ?_;refine zX Aq6 ?_)
    refine (Akc main H4 _ _ _ _ _ _ _ _ _ _).runs.mono ?_
    rintro _ H5 ⟨hb,mb,rfl,vhb,vmb,h0h,h0m,lH5⟩
    (refine @unH _ ?_;refine zX Aq6 ?_)
    have gH5:H3.le H5:=Hp.le_trans gH4 lH5
    refine ⟨.inr (fun _=>by first | exact gH5 | trivial),?_⟩
    refine Axy ?_
    (refine @unH _ ?_;refine zX Aq6 ?_)
    (intro tb htb;generalize hG:Hp.set _ tb _=H6;have lH6:=Aqc hG htb;have vtb:=Aqb hG;clear hG)
    have gH6:H3.le H6:=Hp.le_trans gH5 lH6
    refine ⟨.inr (fun _=>by first | exact gH6 | trivial),?_⟩
    have vhx:=(lH6 _ _ vhb)
    have vmx:=(lH6 _ _ vmb)
    have vpx:=(lH6 _ _ (lH5 _ _ vpb))
    have vtx:=vtb
    have n0h:=(Hp.le_none gH4 h0h)
    have n0m:=(Hp.le_none gH4 h0m)
    have n0p:=(Hp.le_none gH3 hpb)
    have n0t:=(Hp.le_none gH5 htb)
    refine Axy ?_
    (refine @unH _ ?_;refine zX Aq6 ?_)
    generalize hG:Hp.set H6 pb _=H7
    have vh7:=Aqi hG vhx (Aze vhx vpx (by decide))
    have vm7:=Aqi hG vmx (fun e=>by rw [e,vpx] at vmx;cases vmx)
    have vp7:=Aqb hG
    have vt7:=Aqi hG vtx (Aze vtx vpx (by decide))
    have g7:H3.le H7:=fun b x hx=>Aqi hG (gH6 _ _ hx) (fun e=>by rw [e,n0p] at hx;cases hx)
    have nth:hb≠tb:=Aze vh7 vt7 (by decide)
    have ntp:pb≠tb:=Aze vp7 vt7 (by decide)
    have ntm:mb≠tb:=fun e=>by rw [e,vt7] at vm7;cases vm7
    refine ⟨.inr (fun _=>by first | exact g7 | trivial),Axy ?_⟩
    (refine @unH _ ?_;refine zX Aq6 ?_)
    refine ⟨Axt hT0,?_⟩
    rw [Aym hT0 vt7 rfl]
    refine ⟨.inl (by decide),Avc (hK _ _ ⟨hb,mb,pb,tb,rfl,rfl,rfl,rfl,rfl,fun b x hx=>?_,⟨n0h,n0m,n0p,n0t⟩,?_,?_,?_,Axh⟩)⟩
    ·rw [Aqv (fun e=>by rw [e,n0t] at hx;cases hx)];exact g7 _ _ hx
    ·rw [Aqv nth];exact vh7
    ·rw [Aqv ntm];exact vm7
    ·rw [Aqv ntp];exact vp7
   ·(refine @unH _ ?_;refine zX Aq6 ?_)
    (intro tb htb;generalize hG:Hp.set _ tb _=H5;have lH5:=Aqc hG htb;have vtb:=Aqb hG;clear hG)
    have gH5:H3.le H5:=Hp.le_trans gH4 lH5
    refine ⟨.inr (fun _=>by first | exact gH5 | trivial),?_⟩
    refine Axy ?_
    (refine @unH _ ?_;refine zX Aq6 ?_)
    refine (Akc main H5 _ _ _ _ _ _ _ _ _ _).runs.mono ?_
    rintro _ H6 ⟨hb,mb,rfl,vhb,vmb,h0h,h0m,lH6⟩
    (refine @unH _ ?_;refine zX Aq6 ?_)
    have gH6:H3.le H6:=Hp.le_trans gH5 lH6
    refine ⟨.inr (fun _=>by first | exact gH6 | trivial),?_⟩
    have vhx:=vhb
    have vmx:=vmb
    have vpx:=(lH6 _ _ (lH5 _ _ vpb))
    have vtx:=(lH6 _ _ vtb)
    have n0h:=(Hp.le_none gH5 h0h)
    have n0m:=(Hp.le_none gH5 h0m)
    have n0p:=(Hp.le_none gH3 hpb)
    have n0t:=(Hp.le_none gH4 htb)
    refine Axy ?_
    (refine @unH _ ?_;refine zX Aq6 ?_)
    generalize hG:Hp.set H6 pb _=H7
    have vh7:=Aqi hG vhx (Aze vhx vpx (by decide))
    have vm7:=Aqi hG vmx (fun e=>by rw [e,vpx] at vmx;cases vmx)
    have vp7:=Aqb hG
    have vt7:=Aqi hG vtx (Aze vtx vpx (by decide))
    have g7:H3.le H7:=fun b x hx=>Aqi hG (gH6 _ _ hx) (fun e=>by rw [e,n0p] at hx;cases hx)
    have nth:hb≠tb:=Aze vh7 vt7 (by decide)
    have ntp:pb≠tb:=Aze vp7 vt7 (by decide)
    have ntm:mb≠tb:=fun e=>by rw [e,vt7] at vm7;cases vm7
    refine ⟨.inr (fun _=>by first | exact g7 | trivial),Axy ?_⟩
    (refine @unH _ ?_;refine zX Aq6 ?_)
    refine ⟨Axt hT0,?_⟩
    rw [Aym hT0 vt7 rfl]
    refine ⟨.inl (by decide),Avc (hK _ _ ⟨hb,mb,pb,tb,rfl,rfl,rfl,rfl,rfl,fun b x hx=>?_,⟨n0h,n0m,n0p,n0t⟩,?_,?_,?_,Axh⟩)⟩
    ·rw [Aqv (fun e=>by rw [e,n0t] at hx;cases hx)];exact g7 _ _ hx
    ·rw [Aqv nth];exact vh7
    ·rw [Aqv ntm];exact vm7
    ·rw [Aqv ntp];exact vp7
  ·(refine @unH _ ?_;refine zX Aq6 ?_)
   (intro tb htb;generalize hG:Hp.set _ tb _=H4;have lH4:=Aqc hG htb;have vtb:=Aqb hG;clear hG)
   have gH4:H3.le H4:=Hp.le_trans gH3 lH4
   refine ⟨.inr (fun _=>by first | exact gH4 | trivial),?_⟩
   refine Bzi ?_ ?_
   ·(refine @unH _ ?_;refine zX Aq6 ?_)
    refine (Akc main H4 _ _ _ _ _ _ _ _ _ _).runs.mono ?_
    rintro _ H5 ⟨hb,mb,rfl,vhb,vmb,h0h,h0m,lH5⟩
    (refine @unH _ ?_;refine zX Aq6 ?_)
    have gH5:H3.le H5:=Hp.le_trans gH4 lH5
    refine ⟨.inr (fun _=>by first | exact gH5 | trivial),?_⟩
    refine Axy ?_
    (refine @unH _ ?_;refine zX Aq6 ?_)
    (intro pb hpb;generalize hG:Hp.set _ pb _=H6;have lH6:=Aqc hG hpb;have vpb:=Aqb hG;clear hG)
    have gH6:H3.le H6:=Hp.le_trans gH5 lH6
    refine ⟨.inr (fun _=>by first | exact gH6 | trivial),?_⟩
    have vhx:=(lH6 _ _ vhb)
    have vmx:=(lH6 _ _ vmb)
    have vpx:=vpb
    have vtx:=(lH6 _ _ (lH5 _ _ vtb))
    have n0h:=(Hp.le_none gH4 h0h)
    have n0m:=(Hp.le_none gH4 h0m)
    have n0p:=(Hp.le_none gH5 hpb)
    have n0t:=(Hp.le_none gH3 htb)
    refine Axy ?_
    (refine @unH _ ?_;refine zX Aq6 ?_)
    generalize hG:Hp.set H6 pb _=H7
    have vh7:=Aqi hG vhx (Aze vhx vpx (by decide))
    have vm7:=Aqi hG vmx (fun e=>by rw [e,vpx] at vmx;cases vmx)
    have vp7:=Aqb hG
    have vt7:=Aqi hG vtx (Aze vtx vpx (by decide))
    have g7:H3.le H7:=fun b x hx=>Aqi hG (gH6 _ _ hx) (fun e=>by rw [e,n0p] at hx;cases hx)
    have nth:hb≠tb:=Aze vh7 vt7 (by decide)
    have ntp:pb≠tb:=Aze vp7 vt7 (by decide)
    have ntm:mb≠tb:=fun e=>by rw [e,vt7] at vm7;cases vm7
    refine ⟨.inr (fun _=>by first | exact g7 | trivial),Axy ?_⟩
    (refine @unH _ ?_;refine zX Aq6 ?_)
    refine ⟨Axt hT0,?_⟩
    rw [Aym hT0 vt7 rfl]
    refine ⟨.inl (by decide),Avc (hK _ _ ⟨hb,mb,pb,tb,rfl,rfl,rfl,rfl,rfl,fun b x hx=>?_,⟨n0h,n0m,n0p,n0t⟩,?_,?_,?_,Axh⟩)⟩
    ·rw [Aqv (fun e=>by rw [e,n0t] at hx;cases hx)];exact g7 _ _ hx
    ·rw [Aqv nth];exact vh7
    ·rw [Aqv ntm];exact vm7
    ·rw [Aqv ntp];exact vp7
   ·(refine @unH _ ?_;refine zX Aq6 ?_)
    (intro pb hpb;generalize hG:Hp.set _ pb _=H5;have lH5:=Aqc hG hpb;have vpb:=Aqb hG;clear hG)
    have gH5:H3.le H5:=Hp.le_trans gH4 lH5
    refine ⟨.inr (fun _=>by first | exact gH5 | trivial),?_⟩
    refine Axy ?_
    (refine @unH _ ?_;refine zX Aq6 ?_)
    refine (Akc main H5 _ _ _ _ _ _ _ _ _ _).runs.mono ?_
    rintro _ H6 ⟨hb,mb,rfl,vhb,vmb,h0h,h0m,lH6⟩
    (refine @unH _ ?_;refine zX Aq6 ?_)
    have gH6:H3.le H6:=Hp.le_trans gH5 lH6
    refine ⟨.inr (fun _=>by first | exact gH6 | trivial),?_⟩
    have vhx:=vhb
    have vmx:=vmb
    have vpx:=(lH6 _ _ vpb)
    have vtx:=(lH6 _ _ (lH5 _ _ vtb))
    have n0h:=(Hp.le_none gH5 h0h)
    have n0m:=(Hp.le_none gH5 h0m)
    have n0p:=(Hp.le_none gH4 hpb)
    have n0t:=(Hp.le_none gH3 htb)
    refine Axy ?_
    (refine @unH _ ?_;refine zX Aq6 ?_)
    generalize hG:Hp.set H6 pb _=H7
    have vh7:=Aqi hG vhx (Aze vhx vpx (by decide))
    have vm7:=Aqi hG vmx (fun e=>by rw [e,vpx] at vmx;cases vmx)
    have vp7:=Aqb hG
    have vt7:=Aqi hG vtx (Aze vtx vpx (by decide))
    have g7:H3.le H7:=fun b x hx=>Aqi hG (gH6 _ _ hx) (fun e=>by rw [e,n0p] at hx;cases hx)
    have nth:hb≠tb:=Aze vh7 vt7 (by decide)
    have ntp:pb≠tb:=Aze vp7 vt7 (by decide)
    have ntm:mb≠tb:=fun e=>by rw [e,vt7] at vm7;cases vm7
    refine ⟨.inr (fun _=>by first | exact g7 | trivial),Axy ?_⟩
    (refine @unH _ ?_;refine zX Aq6 ?_)
    refine ⟨Axt hT0,?_⟩
    rw [Aym hT0 vt7 rfl]
    refine ⟨.inl (by decide),Avc (hK _ _ ⟨hb,mb,pb,tb,rfl,rfl,rfl,rfl,rfl,fun b x hx=>?_,⟨n0h,n0m,n0p,n0t⟩,?_,?_,?_,Axh⟩)⟩
    ·rw [Aqv (fun e=>by rw [e,n0t] at hx;cases hx)];exact g7 _ _ hx
    ·rw [Aqv nth];exact vh7
    ·rw [Aqv ntm];exact vm7
    ·rw [Aqv ntp];exact vp7
end Go.Proofs.YtaehjjbekjglkaaGreatDoor
end
section
namespace Go.X
open Go
open Go.Conc
section
variable {P:Program} {md:Md} {Stop:Goroutine->Hp->Prop} {ops:Array Oper} {s:Nat} {K:Act->Hp->Prop}
theorem Bwf {n:Nat} {ds:List Deferred} (val:Nat->Value) (I:(Nat->Value)->Prop) (S:Hp->Prop) (hed:Dj3 ops=true) (hds:dstB ops=true) (hla:lastB ops s=true) (hsz:s<ops.size)
  (hI:∀i o d e,i≠s->ops[i]?=some o->o.dst=some d->I e->I (upd e d (val i)))
  (hstep:∀i o,ops[i]?=some o->i≠s->∀e H,I e->(∀x∈o.after,Region.binds .any x=true->∀o' d,ops[x.on]?=some o'->o'.dst=some d->e d=val x.on)->S H ->
   Region.wanted o (yielded ops (act n e ds).tmps)=true/\∃d,o.dst=some d/\opX P md none o (act n e ds) H (fun a' H'=>a'=act n (upd e d (val i)) ds/\S H') fun _ _ _=>False)
  (hend:∀o,ops[s]?=some o->∀e H,I e->(∀x∈o.after,Region.binds .any x=true->∀o' d,ops[x.on]?=some o'->o'.dst=some d->e d=val x.on)->S H->K (act n e ds) H) :
  ∀(fuel t:Nat) (listed:Array Bool) (e:Nat->Value) (H:Hp),left ops listed<=fuel->listed.size=ops.size->Closed ops listed->listed.getD s false=false->I e ->
   (∀i o d,ops[i]?=some o->listed.getD i false=true->o.dst=some d->e d=val i)->S H->runU P md ops s K (Region.linearise.go .any ops fuel t listed []) (act n e ds) H:=by
 have hdep:∀j,j<ops.size->j≠s->Dep ops s j:=fun j hj hne=>by
  have h1:=List.all_eq_true.1 hla j (List.mem_range.2 hj)
  simp only [Bool.or_eq_true,beq_iff_eq,hne,false_or] at h1
  exact (Ava _ _ (fun y hy=>by
   by_cases hys:s=y
   ·exact .inl hys.symm
   ·rw [getD_set_ne false hys] at hy
    by_cases hlt:y<ops.size<;>simp [Array.getD,hlt] at hy) j h1).resolve_left hne
 have hdst:∀(i j:Nat) (oi oj:Oper) (d:Tmp),ops[i]?=some oi->ops[j]?=some oj->oi.dst=some d->oj.dst=some d->i=j:=fun i j oi oj d hi hj hdi hdj=>by
  have hil:=(Array.getElem?_eq_some_iff.1 hi).1
  have hjl:=(Array.getElem?_eq_some_iff.1 hj).1
  have h1:=List.all_eq_true.1 (List.all_eq_true.1 hds i (List.mem_range.2 hil)) j (List.mem_range.2 hjl)
  simp only [hi,hj,Option.bind_some,hdi,hdj,Option.isNone_some,Bool.or_false,bne_self_eq_false,beq_iff_eq] at h1
  exact h1
 have hon:∀(i:Nat) (o:Oper),ops[i]?=some o->∀x∈o.after,Region.binds .any x=true->x.on<i:=fun i o hi x hx hb=>by
  have h1:=List.all_eq_true.1 hed i (List.mem_range.2 (Array.getElem?_eq_some_iff.1 hi).1)
  rw [hi] at h1
  simp only [Array.all_eq_true_iff_forall_mem] at h1
  have h2:=h1 x hx
  simpa [hb] using h2
 intro fuel
 induction fuel with
 | zero=>
  intro t listed e H hfu hls hcl hun _ _ _
  have:=Bqi (p:=fun _=>false) (q:=fun i=> !listed.getD i false) (l:=List.range ops.size) (by simp) s (List.mem_range.2 hsz) (by simp [hun]) rfl
  unfold left at hfu
  omega
 | succ fuel ih=>
  intro t listed e H hfu hls hcl hun hIe hval hS
  have hne:Region.ready .any ops listed≠[]:=by
   have key:∀i,i<ops.size->listed.getD i false=false->∃j,j∈Region.ready .any ops listed:=by
    intro i
    induction i using Nat.strongRecOn with
    | _ i ihi=>
     intro hi hli
     obtain ⟨o,ho⟩:∃o,ops[i]?=some o:=⟨_,Array.getElem?_eq_getElem hi⟩
     by_cases hall:∀x∈o.after,Region.binds .any x=true->listed.getD x.on false=true
     ·exact ⟨i,mem_ready.2 ⟨by simp [Array.getD,hls,hi] at hli ⊢;exact hli,o,ho,hall⟩⟩
     ·have:∃x∈o.after,Region.binds .any x=true/\listed.getD x.on false=false:=Classical.byContradiction fun hn=>hall fun x hx hb=>by
       cases hl:listed.getD x.on false with
       | true=>rfl
       | false=>exact absurd ⟨x,hx,hb,hl⟩ hn
      obtain ⟨x,hx,hb,hl⟩:=this
      have hlt:=hon i o ho x hx hb
      exact ihi x.on hlt (by omega) hl
   obtain ⟨j,hj⟩:=key s hsz hun
   exact fun h=>by rw [h] at hj;cases hj
  simp only [Region.linearise.go]
  change runU P md ops s K (match (Region.ready .any ops listed)[t%(Region.ready .any ops listed).length]? with
   | some i=>Region.linearise.go .any ops fuel (t/(Region.ready .any ops listed).length) (listed.setIfInBounds i true) [i]
   | none=>[].reverse) (act n e ds) H
  have hlen:t%(Region.ready .any ops listed).length<(Region.ready .any ops listed).length:=Nat.mod_lt _ (List.length_pos_iff.2 hne)
  have hi:=List.getElem?_eq_getElem hlen
  have hmem:=List.mem_of_getElem? hi
  generalize (Region.ready .any ops listed)[t%(Region.ready .any ops listed).length]=i at hi hmem
  rw [hi]
  simp only []
  rw [linearise_go_acc,List.reverse_singleton,List.singleton_append]
  obtain ⟨hu,o,ho,hall⟩:=mem_ready.1 hmem
  have hil:=(Array.getElem?_eq_some_iff.1 ho).1
  have hu':listed.getD i false=false:=by simpa [Array.getD,hls,hil] using hu
  have hdeps:∀x∈o.after,Region.binds .any x=true->∀o' d,ops[x.on]?=some o'->o'.dst=some d->e d=val x.on:=fun x hx hb o' d ho' hd=>hval x.on o' d ho' (hall x hx hb) hd
  unfold runU
  by_cases his:i=s
  ·rw [if_pos his]
   subst his
   refine ⟨Dke ?_ _ _,hend o ho e H hIe hdeps hS⟩
   refine List.eq_nil_iff_forall_not_mem.2 fun j hj=>?_
   obtain ⟨hju,o',ho',_⟩:=mem_ready.1 hj
   have hjl:=(Array.getElem?_eq_some_iff.1 ho').1
   by_cases hji:j=i
   ·subst hji
    simp [Array.getD,hls,hjl] at hju
   ·have h1:=(hdep j hjl hji).listed hcl hmem
    have h2:=getD_set_true (i:=i) h1
    simp only [Array.getD,Array.size_setIfInBounds,hls,hjl,dite_true] at h2 hju
    rw [h2] at hju;cases hju
  ·rw [if_neg his]
   obtain ⟨hw,d,hd,hop⟩:=hstep i o ho his e H hIe hdeps hS
   refine ⟨o,ho,hw,Awr hop ?_⟩
   rintro a' H' ⟨rfl,hS'⟩
   have hns:listed.getD s false=false:=hun
   refine ih _ _ _ _ ?_ (by simpa using hls) (hcl.set hmem) (by rw [getD_set_ne false his];exact hun) (hI i o d e his ho hd hIe) (fun j oj d' hj hlj hd'=>?_) hS'
   ·have:=Dqc (ops:=ops) hil hls hu'
    omega
   ·by_cases hji:j=i
    ·subst hji
     rw [ho] at hj;cases hj
     rw [hd] at hd';cases hd'
     simp [upd]
    ·rw [getD_set_ne false (Ne.symm hji)] at hlj
     have hdd:d'≠d:=fun he=>hji (hdst j i oj o d' hj ho hd' (by rw [he];exact hd))
     have:=hval j oj d' hj hlj hd'
     simp [upd,hdd,this]
end
section
variable {P:Program} {md:Md} {Stop:Goroutine->Hp->Prop} {a:Act} {H:Hp}
theorem WPG.region_drawS {b:Frame} {k:List Item} {cs:List Frame} {id:Nat} {ops:Array Oper} (hm:P.follows .mixedOrders=true) (h:∀t,WPG P md Stop (G (fat b a (.inRegion ops (Region.linearise.go .any ops ops.size t (Array.replicate ops.size false) [])::k)) cs) H) :
  WPG P md Stop (G (fat b a (.code (.region id ops true)::k)) cs) H:=by
 refine .step (fun g' H'=>∃t,g'=G (fat b a (.inRegion ops (Region.schedule (P.follows .mixedOrders) ops t)::k)) cs/\H'=H) rfl (fun w hw=>?_) ?_
 ·refine ⟨_,{ w with drawn:=w.drawn+1 },#[],H,?_,.draw hw _,w.tape w.drawn (.order b.fn id),rfl,rfl⟩
  simp [G,stepG,stepG.exec,fat,choose,Sem.run,Question.forced,Question.cut]
 ·rintro g' H' ⟨t,rfl,rfl⟩
  have:=h t
  simp only [Region.schedule,hm,Bool.true_or,if_true]
  exact this
end
end Go.X
end
section
namespace Go.Proofs.YtaehjjbekjglkaaGreatDoor
open Go Go.X Go.Proofs.Tryz
def Bqd:=aN @Dwy (aN @Dw9 (aN @Dw2 @Cw5))
def Dq5:=(fun H=>Aqh (H:=H) underlying152 rfl)
open Go.Conc (G baseD rcase scase dcall)
theorem Bwi (K:Hp) (c wg cb m:Nat) (vc:K cb=some (false,.cells #[.chan (some c)] 152 (0,0))) :
  ∃ρ,OthW Tryz.prog c wg lk.tWg ρ (Go.Conc.born Tryz.prog { target:=.fn (.func 107) #[.pointer (some ⟨wg,0,none⟩),.pointer (some ⟨cb,0,none⟩)],args:=#[] }) (.wait K 0 m):=by
 refine WPG.waitW ?_
 refine WPG.born (fun _ _=>Cw6 _) ?_
 rw [Aw5 _ func107 rfl,ntmps107]
 rw [show ((#[]:Array Value)++#[.pointer (some ⟨wg,0,none⟩),.pointer (some ⟨cb,0,none⟩)])=[Value.pointer (some ⟨wg,0,none⟩),.pointer (some ⟨cb,0,none⟩)].toArray from rfl]
 rw [Ayy (by simp),Ckw rfl]
 have hJ:=Quiet.wpg (P:=Tryz.prog) (Stop:=fun g' K'=>∃ρ,OthW Tryz.prog c wg lk.tWg ρ g' (.wait K' 0 m)) (H:=K)
 refine hJ.seq (hJ.region ?_)
 refine hJ.enter2 (rest:=[]) rfl rfl (by simp [baseD]) rfl (wgLib.f_wait) (Go.ConcR.Gen.nm_wait lk) rfl #[.pointer (some ⟨wg,0,none⟩)] 83 (by simp [Aq7,Bz9]) rfl ?_
 refine .stop ?_ (Hp.le_refl _)
 refine waitW wgLib ?_ m
 refine WPG.lateW ?_
 rw [<-Ckw rfl]
 refine (show WPG Tryz.prog (.own false) _ (G (fat (baseD 107) (act 4 (Bz9 [.pointer (some ⟨wg,0,none⟩),.pointer (some ⟨cb,0,none⟩)]) []) _) _) K from ?_)
 refine WPG.endX (WPG.regionX (WPG.op (rest:=[1]) rfl rfl (by simp [baseD]) rfl ?_))
 unfold opX
 change wpS _ (execOp _ ⟨some 3,.load _ (.tmp 1),_,_,_,_⟩) _ _ _
 (refine @unH _ ?_;refine z7 @Dq5 ?_)
 exact .stop (closeW rfl rfl rfl (by show ((act 4 _ []).put (some 3) _).eval _=_;rw [Aq3 (by decide),Aq7 (by decide)];rfl) rfl func107 results107) (Hp.le_refl _)
theorem Czr {P:Program} {H:Hp} (a:Act) (d:Option Tmp) (ty:TypeId) (pos:String) (af:Array Edge) (g:Option (Nat×Bool)) (K:Next->Hp->Prop) (E:Value->Hp->Prop) {f:FuncId} {args:Array Operand} {ats:Array TypeId} :
  wpS P (execOp a.eval ⟨d,.defer ⟨.value (.func f),args,ats⟩,ty,pos,af,g⟩) H K E=K (.defer { target:=.fn (.func f) #[],args:=args.map a.eval }) H:=by
 rw [Cxh]
 simp [resolve,Deferred.ofValue,Aqf,Act.eval]
def trV (s:Sm) (i:Nat):Value:=.agg (Axc (Az0 s i)).toArray
theorem Bws (KM:Hp) (c wg cb vx px:Nat) (s:Sm) (dv hv nv:Value) (i:Nat) (p:Int)
  (vv:KM vx=some (false,smO s.places dv hv nv)) (vp:KM px=some (false,.cells #[.int .i64 i] 3 (0,0))) (vc:KM cb=some (false,.cells #[.chan (some c)] 152 (0,0)))
  (hs:SmIn KM dv hv nv s) (ok:SmOk s) (hi:s.hampers[i]?=some p) :
  WPG Tryz.prog (.own false) (Bxv Tryz.prog c wg lk.tWg (trV s i))
   (Go.Conc.born Tryz.prog { target:=.fn (.func 104) #[.pointer (some ⟨wg,0,none⟩),.pointer (some ⟨cb,0,none⟩),.pointer (some ⟨vx,0,none⟩),.pointer (some ⟨px,0,none⟩)],args:=#[] }) KM:=by
 obtain ⟨da,dc,ha,kc,na,nc,rfl,rfl,rfl,l1,l2,l3⟩:=hs.forms
 have hfol:=fun H' (hl:KM.le H')=>Bys (.own false) H' s _ _ _ (hs.le hl) ok i p hi
 refine WPG.born (fun _ _=>Cw4 _) ?_
 rw [Aw5 _ func104 rfl,ntmps104]
 rw [show ((#[]:Array Value)++#[.pointer (some ⟨wg,0,none⟩),.pointer (some ⟨cb,0,none⟩),.pointer (some ⟨vx,0,none⟩),.pointer (some ⟨px,0,none⟩)])=[Value.pointer (some ⟨wg,0,none⟩),.pointer (some ⟨cb,0,none⟩),.pointer (some ⟨vx,0,none⟩),.pointer (some ⟨px,0,none⟩)].toArray from rfl]
 rw [Ayy (by simp)]
 refine WPG.seqX (by simp [baseD]) rfl ?_
 (refine @unH _ (zA (aN Bqd (aN @Czr @Bq7)) ?_);(try clear hK K);intro K hK hc)
 refine WPG.region_drawS (by kernel_rfl) fun t=>?_
 simp only [smO] at vv
 refine Bj2 (s:=4) (K:=fun a H=>a.eval (.tmp 4)=.chan (some c)/\a.eval (.tmp 7)=trV s i/\a.defers=[dcall lk.done #[.pointer (some ⟨wg,0,none⟩)]]) (by simp [baseD]) rfl ?_ _ _ _ (Bwf (P:=Tryz.prog) (md:=.own false) (s:=4) (n:=8) (ds:=[dcall lk.done #[.pointer (some ⟨wg,0,none⟩)]]) (fun j=>match j with
   | 0=>.chan (some c) | 1=>smV s.places (.slice da s.doors.length dc) (.slice ha s.hampers.length kc) (.slice na s.noses.length nc) | 2=>.int .i64 i | _=>trV s i)
  (fun e=>e 1=.pointer (some ⟨cb,0,none⟩)/\e 2=.pointer (some ⟨vx,0,none⟩)/\e 3=.pointer (some ⟨px,0,none⟩)) (fun H=>KM.le H) (by kernel_rfl) (by kernel_rfl) (by kernel_rfl) (by decide) ?_ ?_ ?_ _ t _ _ _ ?_ ?_ ?_ ?_ ?_ ?_ ?_)
 ·rintro a H ⟨ha4,ha7,had⟩
  exact .stop (Dvr wgLib rfl rfl (fun w=>Cvt ha4 ha7 w) had func104 results104) (Hp.le_refl _)
 ·rintro j o d e hj ho hd ⟨e1,e2,e3⟩
  have hj5:j<5:=(Array.getElem?_eq_some_iff.1 ho).1
  obtain rfl | rfl | rfl | rfl:j=0∨j=1∨j=2∨j=3:=by omega
  all_goals
   cases ho
   cases hd
   exact ⟨e1,e2,e3⟩
 ·rintro j o ho hj e H ⟨e1,e2,e3⟩ hdep hS
  have hj5:j<5:=(Array.getElem?_eq_some_iff.1 ho).1
  have vc':=hS _ _ vc
  have vv':=hS _ _ vv
  have vp':=hS _ _ vp
  obtain rfl | rfl | rfl | rfl:j=0∨j=1∨j=2∨j=3:=by omega
  ·simp only [List.getElem?_toArray,List.getElem?_cons_succ,List.getElem?_cons_zero,Option.some.injEq] at ho
   subst ho
   clear hdep
   refine ⟨rfl,_,rfl,?_⟩
   simp -implicitDefEqProofs (disch:=first | omega | (simp only [qd]<;>omega)) only [xq,↓xp,qc,Nat.reduceAdd,List.range,List.range.loop,fine,Nat.reduceEqDiff,↓reduceIte,yielded,reduceCtorEq,Nat.reduceLT,Nat.reduceMul,Nat.reduceSub,one,Nat.reduceLeDiff,Aqg,Bqd,aq,↓ap,qe0,qe1,qe2, *,hS _ _ vv]<;>exact ⟨rfl,hS⟩
  ·simp only [List.getElem?_toArray,List.getElem?_cons_succ,List.getElem?_cons_zero,Option.some.injEq] at ho
   subst ho
   clear hdep
   refine ⟨rfl,_,rfl,?_⟩
   simp -implicitDefEqProofs (disch:=first | omega | (simp only [qd]<;>omega)) only [xq,↓xp,qc,Nat.reduceAdd,List.range,List.range.loop,fine,Nat.reduceEqDiff,↓reduceIte,yielded,reduceCtorEq,Nat.reduceLT,Nat.reduceMul,Nat.reduceSub,one,Nat.reduceLeDiff,Aqg,Bqd,aq,↓ap,qe0,qe1,qe2, *,hS _ _ vv]<;>exact ⟨rfl,hS⟩
  ·simp only [List.getElem?_toArray,List.getElem?_cons_succ,List.getElem?_cons_zero,Option.some.injEq] at ho
   subst ho
   clear hdep
   refine ⟨rfl,_,rfl,?_⟩
   simp -implicitDefEqProofs (disch:=first | omega | (simp only [qd]<;>omega)) only [xq,↓xp,qc,Nat.reduceAdd,List.range,List.range.loop,fine,Nat.reduceEqDiff,↓reduceIte,yielded,reduceCtorEq,Nat.reduceLT,Nat.reduceMul,Nat.reduceSub,one,Nat.reduceLeDiff,Aqg,Bqd,aq,↓ap,qe0,qe1,qe2, *,hS _ _ vv]<;>exact ⟨rfl,hS⟩
  ·simp only [List.getElem?_toArray,List.getElem?_cons_succ,List.getElem?_cons_zero,Option.some.injEq] at ho
   subst ho
   have d0:e 5=smV s.places (.slice da s.doors.length dc) (.slice ha s.hampers.length kc) (.slice na s.noses.length nc):=hdep _ (Array.mem_of_getElem? (i:=0) rfl) rfl _ _ rfl rfl
   have d1:e 6=.int .i64 i:=hdep _ (Array.mem_of_getElem? (i:=1) rfl) rfl _ _ rfl rfl
   clear hdep
   refine ⟨rfl,_,rfl,?_⟩
   (refine @unH _ ?_;refine z7 Bqd ?_)
   refine (hfol H hS).runs.mono ?_
   rintro _ H' ⟨rfl,l'⟩
   exact ⟨Aq3 (by decide),Hp.le_trans hS l'⟩
 ·rintro o ho e H ⟨e1,e2,e3⟩ hdep hS
  simp only [List.getElem?_toArray,List.getElem?_cons_succ,List.getElem?_cons_zero,Option.some.injEq] at ho
  subst ho
  have d0:e 4=.chan (some c):=hdep _ (Array.mem_of_getElem? (i:=0) rfl) rfl _ _ rfl rfl
  have d1:e 7=trV s i:=hdep _ (Array.mem_of_getElem? (i:=1) rfl) rfl _ _ rfl rfl
  exact ⟨by rw [Aq7 (by decide)];exact d0,by rw [Aq7 (by decide)];exact d1,rfl⟩
 ·exact Nat.le_trans (List.countP_le_length) (by simp)
 ·simp
 ·exact Closed.start
 ·rfl
 ·exact ⟨rfl,rfl,rfl⟩
 ·rintro j o d ho hl
  exfalso
  by_cases h:j<5<;>simp [Array.getD,h] at hl
 ·exact Hp.le_refl _
end Go.Proofs.YtaehjjbekjglkaaGreatDoor
end
section
namespace Go.X
open Go
theorem Bjb {P:Program} {H:Hp} {t e:TypeId} {sz:Nat} {z:Value} {inf:TypeInfo} (hu:P.underlying t=some (.slice e)) (hs:∀w,(sizeOf e).run P w=.ok sz w) (hz:∀w,(zeroValue e).run P w=.ok z w) (hz1:z.cells.size=sz)
  (hi:∀w,(typeInfo e).run P w=.ok inf w) (hby:inf.bytes<=1000000) (h0s:0<sz) (k j:IntKind) (n:Int) (h0:0<n) (h1:n<=1000) (K:Value->Hp->Prop) (E:Value->Hp->Prop)
  (hk:∀b c,H b=none->c.size=n.toNat*sz->K (.slice (some ⟨b,0,none⟩) n.toNat n.toNat) (H.set b (.cells c e (0,0)))) :
  wpS P (Instr.makeSlice t (.int k n) (.int j n)) H K E:=by
 have hinf:=Aki hi
 have hw:IntKind.i64.wrap n=n:=w64 n (by omega) (by omega)
 have hb:¬((inf.bytes:Int)*n>2 ^ 48):=by
  have:(inf.bytes:Int)*n<=1000000*1000:=Int.mul_le_mul (by omega) h1 (by omega) (by omega)
  have h2:(2:Int) ^ 48=281474976710656:=by decide
  omega
 have h00:¬n<0:=by omega
 have hn:¬n.toNat*sz=0:=by
  have:0<n.toNat*sz:=Nat.mul_pos (by omega) h0s
  omega
 unfold Instr.makeSlice
 simp only [Aqa,Aqj hu,asInt,asIntOf,Aqf,Ajx hinf,hw]
 simp only [h00,decide_false,hb,Bool.or_self,Bool.false_eq_true,if_false,gt_iff_lt,Int.lt_irrefl,Aqa,Awk,Aq0 hs]
 simp only [hn,if_false,Aqa,Axe hz,Aqf,newRow,newObj,wpS]
 exact fun b hb=>hk b _ hb (by simp)
section
variable {P:Program} {H:Hp}
theorem Bq2 {t e:TypeId} {dir:ChanDir} (hu:P.underlying t=some (.chan dir e)) {inf:TypeInfo} (hi:∀w,(typeInfo e).run P w=.ok inf w) (hb:inf.bytes<=1000000) (k:IntKind) (n:Int) (h0:0<=n) (h1:n<=1000) (K:Value->Hp->Prop) (E:Value->Hp->Prop) :
  wpS P (Instr.makeChan t (.int k n)) H K E=∀b,H b=none->K (.chan (some b)) (H.set b (.chan n.toNat #[] false 0 0 false)):=by
 have hle:inf.bytes*n.toNat<=1000000*1000:=Nat.mul_le_mul hb (by omega)
 have hle2:¬((inf.bytes:Int)*n>2 ^ 48-112):=by
  have:(inf.bytes:Int)*n=((inf.bytes*n.toNat:Nat):Int):=by push_cast;rw [Int.toNat_of_nonneg h0]
  rw [this];omega
 have hmax:IntKind.i64.max=9223372036854775807:=by decide
 have hif:¬(9223372036854775807<n∨281474976710544<(inf.bytes:Int)*n):=by
  rintro (h | h)
  ·omega
  ·exact hle2 (by simpa using h)
 unfold Instr.makeChan
 simp [-bind_pure_comp,Aqa,asInt,asIntOf,Aqf,Aqj hu,Ajx (Aki hi),show ¬n<0 by omega,hmax]
 rw [if_neg hif]
 rfl
end
theorem Bqu {P:Program} {γ:GhW} {Q:Cj0} {a:Act} {H:Hp} {c:Operand} {x y:Code} {t:Bool} (ht:a.eval c=.bool t) (h1:t=true->wpV P x Q γ a H) (h2:t=false->wpV P y Q γ a H):wpV P (.cond c x y) Q γ a H:=by
 refine Dq3 ht ?_
 cases t
 ·exact h2 rfl
 ·exact h1 rfl
theorem Bjv {P:Program} {γ:GhW} {Q:Cj0} {a:Act} {H:Hp} {ops:Array Oper} {todo:List Nat} (h:∀K:Act->Hp->Prop,(∀a' H',Q γ .normal a' H'->K a' H')->runX P (.own true) none ops (only K) todo a H):opsV P ops todo Q γ a H:=
 Dqn fun b k cs Stop hk hl hc=>Avd (h _ fun _ _ h=>h) b k cs Stop hk hl fun e a' H' q=>by
  cases e<;>first | exact hc _ _ _ q | exact q.elim
open Go.Conc in
theorem Bjz {P:Program} {a:Act} {d:Option Tmp} {ty t:TypeId} {pos:String} {af:Array Edge} {g:Option (Nat×Bool)} {x:Operand} {c:Nat} {z:Value} {e:TypeId} {dir:ChanDir} (hx:a.eval x=.chan (some c)) (hu:P.underlying t=some (.chan dir e)) (hz:∀w,(zeroValue e).run P w=.ok z w) (w:World) :
  (execOp a.eval ⟨d,.recv t x true,ty,pos,af,g⟩).runT P w #[]=(.ok (.comm #[rcase c z] true (.recv true)) w,#[]):=by
 simp [execOp,hx,rcase,hz,underlying,program,Sem.run,hu]
 rfl
end Go.X
namespace Go.Proofs.YtaehjjbekjglkaaGreatDoor
open Go Go.X
open Go.Conc (G baseD rcase scase)
structure OutR (s:Sm) (n:Nat) (c:Array Value) (R:List Nat):Prop where
 size:c.size=n*326
 at_:∀i∈R,c.extract (i*326) (i*326+326)=(Axc (Az0 s i)).toArray
theorem Awd {s:Sm} (ok:SmOk s) (i:Nat):Ax3 (Az0 s i):=Cj9 (fun tc htc=>by
 obtain ⟨t,ht,rfl⟩:=List.mem_map.1 htc
 have:=Ake ht
 have:=ok.dl
 simp [pad6]
 omega) _
theorem OutR.put {s:Sm} (ok:SmOk s) {n:Nat} {c:Array Value} {R:List Nat} (h:OutR s n c R) {i:Nat} (hi:i<n):OutR s n (over c (i*326) (Axc (Az0 s i))) (R++[i]):=by
 have hl:=Axt (Awd ok i)
 have hm:i*326+326<=n*326:=by omega
 refine ⟨by rw [Azo];exact h.size,fun j hj=>?_⟩
 by_cases e:j=i
 ·subst e
  apply Array.ext_getElem?
  intro k
  by_cases hk:k<326
  ·rw [Array.getElem?_extract,if_pos (by rw [Azo,h.size];omega),Ajt _ (by rw [h.size];omega),if_pos (by omega),show j*326+k-j*326=k by omega]
   simp [List.getD,List.getElem?_eq_getElem (show k<(Axc (Az0 s j)).length by omega)]
  ·rw [Array.getElem?_eq_none (by rw [Array.size_extract];omega),Array.getElem?_eq_none (by simp;omega)]
 ·have hj':j∈R:=by
   rcases List.mem_append.1 hj with h | h
   ·exact h
   ·exact absurd (List.mem_singleton.1 h) e
  rw [<-h.at_ j hj']
  apply Array.ext_getElem?
  intro k
  by_cases hk:k<326/\j*326+k<n*326
  ·rw [Array.getElem?_extract,Array.getElem?_extract,if_pos (by rw [Azo,h.size];omega),if_pos (by rw [h.size];omega),Ajt _ (by rw [h.size];omega),if_neg (by omega)]
  ·rw [Array.getElem?_eq_none (by rw [Array.size_extract,Azo,h.size];omega),Array.getElem?_eq_none (by rw [Array.size_extract,h.size];omega)]
def SlT (H:Hp) (v:Value) (l:List Trail):Prop:=SlG 150 326 H v (l.map Axc)
theorem OutR.all {s:Sm} (ok:SmOk s) {n:Nat} (hn:n=s.hampers.length) {c:Array Value} {R:List Nat} (h:OutR s n c R) (hR:R.Perm (List.range n)) {H:Hp} {ob:Nat} (hb:H ob=some (true,.cells c 150 (0,0))):SlT H (.slice (some ⟨ob,0,none⟩) n n) (Axw s):=by
 refine ⟨some ⟨ob,0,none⟩,n,by simp [Axw,hn],by simp [Axw,hn],fun i r hr=>?_⟩
 simp only [Axw,List.map_map,List.getElem?_map] at hr
 cases hi:(List.range s.hampers.length)[i]? with
 | none=>rw [hi] at hr;cases hr
 | some j=>
  obtain ⟨hlt,hj⟩:=List.getElem?_eq_some_iff.1 hi
  rw [List.getElem_range] at hj
  subst hj
  rw [hi] at hr
  simp only [Option.map_some,Option.some.injEq,Function.comp] at hr
  subst hr
  rw [List.length_range,<-hn] at hlt
  refine ⟨ob,0,true,c,_,rfl,hb,by rw [h.size];omega,Axt (Awd ok i),?_⟩
  rw [Nat.zero_add]
  exact h.at_ i (hR.mem_iff.2 (List.mem_range.2 hlt))
end Go.Proofs.YtaehjjbekjglkaaGreatDoor
end
