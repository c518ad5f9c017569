/- Texts SmKo Leave PBase RunZ. -/
import Derived.Test.YtaehjjbekjglkaaGreatDoorJ22
import Derived.Conc.Holds
import Derived.Conc.LeavingOf
import Derived.Below
import Derived.Carry
import Derived.ChangeSame
import Derived.ChangeVars
import Derived.ChangeSlices
import Derived.JoinedOf
import Derived.RowKit
import Derived.RowKitTokens
import Derived.LaidLaws
import Derived.LaidHandle
import Derived.Stop.Joined
import Derived.Handed
import Derived.Test.YtaehjjbekjglkaaGreatDoorRows
set_option linter.defProp false
set_option linter.unusedSimpArgs false
set_option linter.unusedVariables false
set_option maxRecDepth 100000
set_option maxHeartbeats 2000000
section
namespace Go.Proofs.YtaehjjbekjglkaaGreatDoor
open Go Go.X Go.Proofs.Tryz
def Aqq:=aN @Dyw (aN @Cke (aN @Czf (aN @Dyh (aN @Bqh (aN @Dwi (aN @Dw2 (aN @Dwj (aN @Dwz (aN @Dzr (aN (fun H=>Av3 (H:=H) underlying22 sizeOf30 zeroValue30 rfl (by decide) (by decide)) (aN @Dy6 (aN @Dzs (aN @Ayg (aN @Dy9 (aN @Eqa (aN @Eqc (aN @Dx9 (aN @Dwk (aN @Dy7 (aN @Dw0 (aN @Dv5 (aN @Avw (aN @Dzt (aN @Dv4 (aN @Dyo (aN @Dwq (aN @Dwm (aN @Dwn (aN @Azx (aN @Dw9 (aN @Dyp (aN @Dzu (aN @Bvr (aN @Dy0 (aN @Dyk (aN @Dx3 (aN @Dwr (aN @Bkv (aN @Dws (aN @Dy5 (aN @Dwt (aN @Dvz (aN @Dw3 (aN @Dwl (aN @Dw1 (aN @Dyc (aN (fun H=>Av3 (H:=H) underlying24 sizeOf32 zeroValue32 rfl (by decide) (by decide)) @Dy8)))))))))))))))))))))))))))))))))))))))))))))))
theorem smellOf_spec (m:Md) (H:Hp) (b k:Nat) (nd:Int) (honest:Bool) (h0:0<=nd) (h1:nd<=5) (hT:TinI H b (k+60)) :
  FnX Tryz.prog m 47 #[.pointer (some ⟨b,0,none⟩),.int .i64 nd,.bool honest] H fun e H'=>∃(s:Sm) (dv hv nv cv:Value) (i hr:Nat) (ts:List Int),e=.returned (.tuple #[smV s.places dv hv nv,.int .i64 (i:Nat),.int .i64 (hr:Nat),cv])/\SmIn H' dv hv nv s/\SmOk s/\s.places<=5 /\
   (s.doors.length:Int)<=nd/\s.noses.length<=3/\i<s.hampers.length/\hr<=12/\ts∈Ax1 s.doors/\SlI H' cv (Aw0 s (s.hampers.getD i 0) hr ts)/\(honest=true->Tr s i hr ts)/\Lex (some b) H H'/\TinI H' b k/\RowG 32 3 H' nv (s.noses.map Bzf):=by
 refine Aqn func47 rfl ntmps47 (by simp) ?_
 (refine @unH _ (zA Aqq ?_);(try clear hK K);intro K hK hc)
 (intro rb hrb;generalize hG:Hp.set _ rb _=H1;have lH1:=Aqc hG hrb;have vrb:=Aqb hG;clear hG)
 have hT1:=hT.le lH1
 have hr0:H rb=none:=hrb
 clear hrb hT
 have x1:Lex (some b) H H1:=Lex.of lH1
 clear lH1
 (refine @unH _ (zU Aqq ?_);(try clear hK K);intro K hK hc)
 refine (Bzy m H1 b (k+59) 1 5 (by omega) (by omega) (by omega) (by omega) hT1).runs.mono ?_
 rintro _ H2 ⟨pl,pl0,pl1,rfl,x2,hT2⟩
 have vr2:=x2.keeps vrb (hT1.off vrb (by decide))
 have x02:=x1.trans x2
 clear vrb hT1 x1 x2
 (refine @unH _ ?_;refine zX Aqq ?_)
 (intro xb hxb;generalize hG:Hp.set _ xb _=H3;have lH3:=Aqc hG hxb;have vxb:=Aqb hG;clear hG)
 have hS3:SoSt H H3 b rb xb (k+59) pl (.slice none 0 0) (.slice none 0 0) (.slice none 0 0):=⟨x02.le lH3,lH3 _ _ vr2,vxb,hT2.le lH3,hr0,x02.gone hxb,Aqr vr2 hxb⟩
 clear vr2 x02 hT2 hr0 lH3 vxb hxb
 refine hK _ _ ?_
 clear hK K
 (try refine @unH _ (zQ ?_))
 refine Avt (fun a' H'=>∃e dv ds,a'=act 162 e []/\e 0=.pointer (some ⟨b,0,none⟩)/\e 2=.bool honest/\e 6=.pointer (some ⟨rb,0,none⟩)/\e 10=.pointer (some ⟨xb,0,none⟩) /\
  SoSt H H' b rb xb (k+38) pl dv (.slice none 0 0) (.slice none 0 0)/\SlD H' dv ds/\Aqk (Avx pl ds)/\Aqk ((ds.length:Int)<=nd)) ?_ ?_
 rotate_left
 ·rintro a H4 ⟨e,dv,ds,rfl,e0,e2,e6,e10,hS4,hD4,hk4,hn4⟩
  obtain ⟨pn,rfl⟩:=Int.eq_ofNat_of_zero_le (show 0<=pl by omega)
  have pn1:1<=pn/\pn<=5:=by omega
  have hdl5:ds.length<=5:=by have:(ds.length:Int)<=nd:=hn4;omega
  clear pl0 pl1 hS3
  have vx4:=hS4.vx
  obtain ⟨da,dc,rfl⟩:∃da dc,dv=.slice da ds.length dc:=by
   obtain ⟨a1,n1,c1,rfl⟩:=hD4.isSlice
   obtain ⟨rfl,_⟩:=hD4.len
   exact ⟨_,_,rfl⟩
  (refine @unH _ (zA Aqq ?_);(try clear hK K);intro K hK hc)
  refine (Cz5 m H4 b (k+33) pn (by omega) (hS4.t.less (by omega))).runs.mono ?_
  rintro _ H5 ⟨ov,os,rfl,ho5,hol,hon,hob,x5,hT5⟩
  have hS5:=hS4.tin x5 hT5
  have hD5:SlD H5 (.slice da ds.length dc) ds:=SlG.lexT hD4 hS4.t (by decide) x5
  clear hS4 hD4 vx4 x5 hT5
  have vx5:=hS5.vx
  obtain ⟨obl,oof,oc,oown,ocl,ofr,rfl,hoc,_,_⟩:=ho5.cons (fun h=>by rw [h] at hol;simp only [List.length_nil] at hol;omega)
  rw [hol] at ho5 ⊢
  replace hol:Aqk _:=hol
  replace hob:Aqk _:=hob
  (refine @unH _ (zU Aqq ?_);(try clear hK K);intro K hK hc)
  refine (Bzy m H5 b (k+32) 1 (if 3<(pn:Int) then 3 else pn) (by omega) (by omega) (by split<;>omega) (by split<;>omega) hS5.t).runs.mono ?_
  rintro _ H6 ⟨q,q0,q1,rfl,x6,hT6⟩
  have hS6:=hS5.tin x6 hT6
  have hD6:SlD H6 (.slice da ds.length dc) ds:=SlG.lexT hD5 hS5.t (by decide) x6
  have ho6:=ho5.lex x6 hS5.t
  clear hS5 hD5 ho5 vx5 x6 hT6
  have vx6:=hS6.vx
  obtain ⟨q,rfl⟩:=Int.eq_ofNat_of_zero_le (show 0<=q by omega)
  have hq:q<=pn/\q<=3/\1<=q:=by
   split at q1<;>omega
  clear q0 q1
  have hqo:q<=oc:=by have:os.length=pn:=hol;omega
  have hqo':(q:Int)<=oc:=by omega
  (refine @unH _ (zU (aN Aqq @Int.toNat_natCast) ?_);intro _ _ hc)
  refine (Cz2 m H6 _ (os.take q) (Dqx ho6 (by have:os.length=pn:=hol;omega)) (by rw [List.length_take];omega)).runs.mono ?_
  rintro _ H7 ⟨hv,rfl,hr7⟩
  have l67:=hr7.1.toLe
  have hh7:=hr7.ints
  have hS7:=hS6.le l67
  have hD7:=hD6.le l67
  clear hS6 hD6 ho6 vx6 hr7 hoc hqo hqo' l67
  have vx7:=hS7.vx
  obtain ⟨ha,hc7,rfl,_,_⟩:=id hh7
  have hlt:(os.take q).length=q:=by have:os.length=pn:=hol;rw [List.length_take];omega
  rw [hlt] at hh7 ⊢
  replace hlt:Aqk _:=hlt
  have hlt_q:=hlt
  clear hlt
  (refine @unH _ (zU Aqq ?_);(try clear hK K);intro K hK hc)
  have hS8:=hS7.put (dv':=.slice da ds.length dc) (hv':=.slice ha q hc7) (nv':=.slice none 0 0)
  have hD8:SlD _ (.slice da ds.length dc) ds:=SlG.put hD7 vx7 (by decide) (smO pn (.slice da ds.length dc) (.slice ha q hc7) (.slice none 0 0))
  have hh8:=SlI.put hh7 vx7 (by decide) (smO pn (.slice da ds.length dc) (.slice ha q hc7) (.slice none 0 0))
  generalize hG:Hp.set H7 xb _=H8 at *
  clear hG hS7 hD7 hh7 vx7
  refine (Bjd m H8 b (k+31) (q-1) (by omega) hS8.t).runs.mono ?_
  rintro _ H9 ⟨i,i0,i1,rfl,x9,hT9⟩
  have hS9:=hS8.tin x9 hT9
  have hD9:SlD H9 (.slice da ds.length dc) ds:=SlG.lexT hD8 hS8.t (by decide) x9
  have hh9:=hh8.lex x9 hS8.t
  clear hS8 hD8 hh8 x9 hT9
  have vx9:=hS9.vx
  obtain ⟨i,rfl⟩:=Int.eq_ofNat_of_zero_le i0
  have hi:i<q:=by omega
  clear i0 i1
  (refine @unH _ (zU Aqq ?_);intro _ _ hc)
  refine (Bjd m H9 b (k+30) 5 (by omega) hS9.t).runs.mono ?_
  rintro _ H10 ⟨y5,y50,y51,rfl,x10,hT10⟩
  have hS10:=hS9.tin x10 hT10
  have hD10:SlD H10 (.slice da ds.length dc) ds:=SlG.lexT hD9 hS9.t (by decide) x10
  have hh10:=hh9.lex x10 hS9.t
  clear hS9 hD9 hh9 x10 hT10 vx9
  (refine @unH _ (zU Aqq ?_);intro _ _ hc)
  refine (Bjd m H10 b (k+29) 12 (by omega) hS10.t).runs.mono ?_
  rintro _ H11 ⟨y12,y120,y121,rfl,x11,hT11⟩
  have hS11:=hS10.tin x11 hT11
  have hD11:SlD H11 (.slice da ds.length dc) ds:=SlG.lexT hD10 hS10.t (by decide) x11
  have hh11:=hh10.lex x11 hS10.t
  clear hS10 hD10 hh10 x11 hT11
  (refine @unH _ (zU Aqq ?_);intro _ _ hc)
  intro lb hlb
  generalize hG:Hp.set H11 lb _=H12
  have l12:=Aqc hG hlb
  have vlb:=Aqb hG
  clear hG hlb
  have hS12:=hS11.le l12
  have hD12:=hD11.le l12
  have hh12:=hh11.le l12
  clear hS11 hD11 hh11 l12
  refine (Dzw m H12 b (k+28) _ [0,y5,y12] (Bxr (xs:=[0,y5,y12]) vlb rfl) (by simp) (by simp) hS12.t).runs.mono ?_
  rintro _ H13 ⟨hr,hrm,rfl,x13,hT13⟩
  have hr12:0<=hr/\hr<=12:=by
   simp only [List.mem_cons,List.not_mem_nil,or_false] at hrm
   rcases hrm with rfl | rfl | rfl<;>omega
  obtain ⟨hr,rfl⟩:=Int.eq_ofNat_of_zero_le hr12.1
  have hS13:=hS12.tin x13 hT13
  have hD13:SlD H13 (.slice da ds.length dc) ds:=SlG.lexT hD12 hS12.t (by decide) x13
  have hh13:=hh12.lex x13 hS12.t
  clear hS12 hD12 hh12 x13 hT13 vlb hrm y50 y51 y120 y121
  (refine @unH _ (zU Aqq ?_);(try clear hK K);intro K hK hc)
  refine Axg (fun w a' H'=>∃e,∃j:Nat,∃tv ts,w=ds.length-j/\j<=ds.length/\a'=act 162 e []/\e 0=.pointer (some ⟨b,0,none⟩)/\e 2=.bool honest/\e 6=.pointer (some ⟨rb,0,none⟩)/\e 10=.pointer (some ⟨xb,0,none⟩)/\e 13=.int .i64 (i:Nat)/\e 14=.int .i64 (hr:Nat)/\e 15=tv/\e 16=.int .i64 (j:Nat) /\
   Lex (some b) H13 H'/\TinI H' b (k+23+(ds.length-j))/\RowG 3 1 H' tv (int1 ts)/\Aqk (∀x,rowB tv=some x->H13 x=none)/\Aqk (ts.length=j)/\Aqk (∀(y:Nat) (d:Dr) (t:Int),ds[y]?=some d->ts[y]?=some t->d.mn<=t/\t<=d.mx)) (n:=ds.length) ?_ ?_
  ·exact ⟨_,0,_,[],by omega,by omega,rfl,e0,e2,e6,e10,rfl,rfl,rfl,rfl,Lex.refl,hS13.t.less (by have:(ds.length:Int)<=nd:=hn4;omega),RowG.nil,(fun _ h=>by cases h),rfl,(fun _ _ _ _ h=>by simp at h)⟩
  clear e0 e2 e6 e10
  rintro w a' H14 ⟨e,j,tv,ts,rfl,hj,rfl,e0,e2,e6,e10,e13,e14,e15,e16,x14,hT14,hR14,hN14,htl,htk⟩
  have hS14:=hS13.tin x14 hT14
  have vx14:=hS14.vx
  by_cases hlt:j<ds.length
  ·have hlt':(j:Int)<ds.length:=by omega
   have hkd:=List.getElem?_eq_getElem hlt
   have hdk:=(show Avx _ _ from hk4) _ (List.mem_of_getElem? hkd)
   have hD14:SlD H14 (.slice da ds.length dc) ds:=SlG.lexT hD13 hS13.t (by decide) x14
   obtain ⟨db,dof,down,dcl,dfr,rfl,hdb,hdsz,hdrl,hdext⟩:=SlG.get hD14 (i:=j) (r:=Bx4 ds[j]) (by rw [List.getElem?_map,hkd];rfl)
   have hx2:dcl[dof+j*4+2]?=some (.int .i64 ds[j].mn):=Bxk hdext hdsz rfl
   have hx3:dcl[dof+j*4+3]?=some (.int .i64 ds[j].mx):=Bxk hdext hdsz rfl
   have hx3b:dcl[dof+j*4+2+1]?=some (.int .i64 ds[j].mx):=hx3
   have hq1:∀o,Hp.cell H14 ⟨xb,o,none⟩=(#[.int .i64 pn,.slice (some ⟨db,dof,none⟩) ds.length dc,.slice ha q hc7,.slice none 0 0]:Array Value)[o]?:=fun o=>cell_of vx14
   have hq2:∀o,Hp.cell H14 ⟨db,o,none⟩=dcl[o]?:=fun o=>cell_of hdb
   have d0:=hdk.m0
   have d1:=hdk.m1
   have d2:=hdk.m2
   clear hdext hdsz hdrl hdk
   replace hkd:Aqk _:=hkd
   generalize ds[j]=d at *
   (refine @unH _ (zA Aqq ?_);(try clear hK K);intro K hK hc)
   refine Axm (fun HX=>HX=H14) [16,17,18] (.free 0 (.free 1 (.free 2 (.take 3 (.free 4 (.free 5 (.free 6 (.free 7 (.take 8 (.free 9 (.take 10 (.free 11 (.free 12 (.free 13 (.free 14 (.take 15 (.one 16 (.one 17 (.one 18 (.free 19 .nil)))))))))))))))))))) (by kernel_rfl) (by kernel_rfl) (by decide) (by kernel_rfl) ?_;intro K hK
   refine Ax6 fun ops hOz=>?_
   (iterate 3 (refine @unH _ ?_;refine zF Aqq ?_))
   (refine @unH _ ?_;refine zL (aN Aqq @exists_eq_left'.{1}) ?_)
   (iterate 4 (refine @unH _ ?_;refine zF Aqq ?_))
   (refine @unH _ ?_;refine zL (aN Aqq @exists_eq_left'.{1}) ?_)
   (refine @unH _ ?_;refine zF Aqq ?_)
   (refine @unH _ ?_;refine zL (aN Aqq @exists_eq_left'.{1}) ?_)
   (iterate 4 (refine @unH _ ?_;refine zF Aqq ?_))
   (refine @unH _ ?_;refine zL (aN Aqq @exists_eq_left'.{1}) ?_)
   (refine @unH _ ?_;refine zM Aqq ?_)
   refine (Bzy m H14 b (k+23+(ds.length-(j+1))) d.mn d.mx (by omega) (by omega) (by omega) (by omega) (hT14.less (by omega))).runs.mono ?_
   rintro _ H15 ⟨t,t0,t1,rfl,x15,hT15⟩
   have x15':=x14.trans x15
   have hR15:=hR14.lexT hT14 (by decide) x15
   clear hT14 hR14 x14 x15 vx14 hS14 hD14 hdb hx2 hx3 hx3b hq1 hq2
   simp -implicitDefEqProofs (disch:=omega) only [Azn,Aq3,Aql]
   refine ⟨.inl (by decide),?_⟩
   (refine @unH _ ?_;refine zM Aqq ?_)
   intro g hg
   refine ⟨.inl (by decide),?_⟩
   (refine @unH _ ?_;refine zM Aqq ?_)
   refine Aw8 underlying23 sizeOf3 zeroValue3 rfl typeInfo3 (by decide) (by decide) hR15 (ws:=[.int .i64 t]) rfl hg (by simp [one]) (by have:ts.length=j:=htl;simp only [int1,List.length_map];omega) _ _ _ _ (fun v16 H16 hR16 hk16 hn16=>?_)
   have hT16:=hT15.row hR15 (by decide) hk16
   have x16:=x15'.row hN14 hk16
   have hN16:Aqk (∀x,rowB v16=some x->H13 x=none):=fun x hx=>(hn16 x hx).elim (hN14 x) fun h=>x15'.gone h
   clear hN14 hn16 hk16 hR15 hg x15' hT15
   (refine @unH _ ?_;refine zX Aqq ?_)
   refine ⟨.inl (by decide),?_⟩
   (refine @unH _ ?_;refine zF Aqq ?_)
   (refine Az6 (hK _ _ ?_);clear hK K;(try simp only [nq,↓reduceIte,Nat.reduceEqDiff]))
   (refine @unH _ (zA Aqq ?_);(try clear hK K);intro K hK hc)
   refine ⟨ds.length-(j+1),by omega,_,j+1,v16,ts++[t],rfl,hlt,rfl,e0,e2,e6,e10,e13,e14,rfl,rfl,x16,hT16,?_,hN16,?_,?_⟩
   ·unfold int1 at hR16 ⊢
    rw [List.map_append]
    exact hR16
   ·have:ts.length=j:=htl
    show (ts++[t]).length=j+1
    rw [List.length_append,List.length_singleton,this]
   ·have hl:ts.length=j:=htl
    intro y d' t' hd' ht'
    by_cases hy:y<j
    ·rw [List.getElem?_append_left (by omega)] at ht'
     exact (show ∀(y:Nat) (d:Dr) (t:Int),ds[y]?=some d->ts[y]?=some t->d.mn<=t/\t<=d.mx from htk) y d' t' hd' ht'
    ·rw [List.getElem?_append_right (by omega)] at ht'
     have h0:y-ts.length=0:=by
      have:=(List.getElem?_eq_some_iff.1 ht').1
      simp only [List.length_singleton] at this
      omega
     obtain rfl:y=j:=by omega
     rw [show ds[y]?=some d from hkd] at hd'
     rw [h0] at ht'
     cases hd'
     cases ht'
     omega
  ·have hlt':¬(j:Int)<ds.length:=by omega
   obtain rfl:j=ds.length:=by omega
   have hol':os.length=pn:=hol
   have hob':∀x∈os,0<=x/\x<(pn:Int):=hob
   have ok0:SmOk ⟨pn,ds,os.take q,[]⟩:=⟨by simp only;omega,by simp only;omega,by simp only;omega,hk4,by simp only [List.length_take];omega,by simp only [List.length_take];omega,fun h hh=>hob' h (List.mem_of_mem_take hh),List.Sublist.nodup (List.take_sublist _ _) hon,by simp,fun n hn=>by cases hn⟩
   have tk0:ts∈Ax1 ds:=(Akd (pl:=(pn:Int)) hk4).2 ⟨htl,htk⟩
   have hD14:SlD H14 (.slice da ds.length dc) ds:=SlG.lexT hD13 hS13.t (by decide) x14
   have hh14:=hh13.lex x14 hS13.t
   have ht14:SlI H14 tv ts:=SlG.ints1 (hR14.slG (by decide))
   have hs14:SmIn H14 (.slice da ds.length dc) (.slice ha q hc7) (.slice none 0 0) ⟨pn,ds,os.take q,[]⟩:=⟨hD14,hh14,⟨none,0,rfl,Nat.le_refl _,fun i r hi=>by simp at hi⟩⟩
   have hql:(os.take q).length=q:=hlt_q
   have hkh:(os.take q)[i]?=some ((os.take q).getD i 0):=by rw [List.getD,List.getElem?_eq_getElem (by omega)];rfl
   obtain ⟨hbl,hof,hcc,hown,hcl,hfr,hae,_,hhb,hhix⟩:=hh14.cons (fun h=>by rw [h] at hql;simp only [List.length_nil] at hql;omega)
   simp only [Value.slice.injEq] at hae
   obtain ⟨rfl,hz1,hz2⟩:=hae
   clear hz1 hz2
   have hhx:=hhix i _ hkh
   clear hhix hD13 hh13 hR14 hT14 hlt
   replace hol:Aqk _:=hol'
   replace hob:Aqk _:=hob'
   clear hol' hob'
   replace hql:Aqk _:=hql
   replace hkh:Aqk _:=hkh
   replace tk0:Aqk _:=tk0
   generalize hfromE:(os.take q).getD i 0=from_ at *
   replace hfromE:Aqk _:=hfromE
   replace ok0:Aqk _:=ok0
   replace hs14:Aqk _:=hs14
   replace ht14:Aqk _:=ht14
   clear hh14 hD14 hj hon x14
   (refine @unH _ (zA Aqq ?_);(try clear hK K);intro K hK hc)
   have hq1:∀o,Hp.cell H14 ⟨xb,o,none⟩=(#[.int .i64 pn,.slice da ds.length dc,.slice (some ⟨hbl,hof,none⟩) q hc7,.slice none 0 0]:Array Value)[o]?:=fun o=>cell_of vx14
   have hq2:∀o,Hp.cell H14 ⟨hbl,o,none⟩=hcl[o]?:=fun o=>cell_of hhb
   refine Axm (fun HX=>HX=H14) [8] (.take 0 (.free 1 (.take 2 (.free 3 (.free 4 (.take 5 (.free 6 (.free 7 (.one 8 (.free 9 .nil)))))))))) (by kernel_rfl) (by kernel_rfl) (by decide) (by kernel_rfl) ?_;intro K hK
   refine Ax6 fun ops hOz=>?_
   (refine @unH _ ?_;refine zL (aN Aqq @exists_eq_left'.{1}) ?_)
   (refine @unH _ ?_;refine zF Aqq ?_)
   (refine @unH _ ?_;refine zL (aN Aqq @exists_eq_left'.{1}) ?_)
   (iterate 2 (refine @unH _ ?_;refine zF Aqq ?_))
   (refine @unH _ ?_;refine zL (aN Aqq @exists_eq_left'.{1}) ?_)
   (iterate 2 (refine @unH _ ?_;refine zF Aqq ?_))
   (refine @unH _ ?_;refine zM Aqq ?_)
   have hfr:0<=from_/\from_<(pn:Int):=(show ∀x∈os,0<=x/\x<(pn:Int) from hob) _ (List.mem_of_mem_take (List.mem_of_getElem? (show (os.take q)[i]?=some from_ from hkh)))
   refine (Bvx m H14 ⟨pn,ds,os.take q,[]⟩ _ _ _ hs14 ok0 from_ hr hfr.1 hfr.2 (by omega) hr12.2 tv ts ht14 tk0).runs.mono ?_
   rintro _ H15 ⟨cv,rfl,hcv15,l15⟩
   have hS15:=hS14.le l15
   have hs15:=(show SmIn _ _ _ _ _ from hs14).le l15
   clear hS14 vx14 hhb hhx hs14 ht14 l15 hN14 hq1 hq2
   obtain ⟨C,hC⟩:∃C,Aqk (C=Aw0 ⟨pn,ds,os.take q,[]⟩ from_ hr ts):=⟨_,rfl⟩
   rw [<-show C=_ from hC] at hcv15
   have hCl:C.length=pn:=by rw [show C=_ from hC,Bx3];simp
   obtain ⟨cbl,cof,cc,cown,ccl,cfr,rfl,_,hcb15,hcx⟩:=hcv15.cons (fun h=>by rw [h] at hCl;simp only [List.length_nil] at hCl;omega)
   rw [hCl] at hcv15 ⊢
   replace hCl:Aqk _:=hCl
   replace hcx:Aqk _:=hcx
   replace hs15:Aqk _:=hs15
   replace hcv15:Aqk _:=hcv15
   simp -implicitDefEqProofs (disch:=omega) only [Azn,Aq3,Aql]
   refine ⟨.inl (by decide),?_⟩
   (refine @unH _ ?_;refine zF Aqq ?_)
   (refine Az6 (hK _ _ ?_);clear hK K;(try simp only [nq,↓reduceIte,Nat.reduceEqDiff]))
   (refine @unH _ (zA Aqq ?_);(try clear hK K);intro K hK hc)
   refine (Bjd m H15 b (k+22) 3 (by omega) (hS15.t.less (by omega))).runs.mono ?_
   rintro _ H16 ⟨r3,r30,r31,rfl,x16,hT16⟩
   have hS16:=hS15.tin x16 hT16
   obtain ⟨r3,rfl⟩:=Int.eq_ofNat_of_zero_le r30
   have r33:r3<=3:=by omega
   clear r30 r31
   have hcb16:=x16.keeps hcb15 (hS15.t.off hcb15 (by decide))
   have hcv16:=SlI.lex (show SlI _ _ _ from hcv15) x16 hS15.t
   have hD16:SlD H16 (.slice da ds.length dc) ds:=SlG.lexT (show SmIn _ _ _ _ _ from hs15).dd hS15.t (by decide) x16
   have hh16:=SlI.lex (show SmIn _ _ _ _ _ from hs15).hh x16 hS15.t
   clear hS15 hcb15 hT16 hs15 hcv15 x16
   replace hcv16:Aqk _:=hcv16
   replace hD16:Aqk _:=hD16
   replace hh16:Aqk _:=hh16
   (refine @unH _ (zU Aqq ?_);(try clear hK K);intro K hK hc)
   refine Axg (fun w a' H'=>∃e,∃j:Nat,∃nv ns,j=w/\j<=r3/\a'=act 162 e []/\e 0=.pointer (some ⟨b,0,none⟩)/\e 2=.bool honest/\e 6=.pointer (some ⟨rb,0,none⟩)/\e 10=.pointer (some ⟨xb,0,none⟩)/\e 13=.int .i64 (i:Nat)/\e 14=.int .i64 (hr:Nat)/\e 17=.slice (some ⟨cbl,cof,none⟩) pn cc/\e 18=.int .i64 (j:Nat) /\
    NoSt H H16 H' b rb xb (k+5*j) pn (.slice da ds.length dc) (.slice (some ⟨hbl,hof,none⟩) q hc7) nv honest C ns/\Aqk (ns.length+j<=r3)) (n:=r3) ?_ ?_
   ·exact ⟨_,r3,_,[],rfl,Nat.le_refl _,rfl,e0,e2,e6,e10,e13,e14,rfl,rfl,⟨⟨hS16.lx,hS16.vr,hS16.vx,hS16.t.less (by omega),hS16.r0,hS16.x0,hS16.ne⟩,RowG.nil,(fun _ h=>by cases h),(fun _ h=>by cases h),LexX.refl _ _ _,(fun _ h=>by cases h)⟩,by show 0+r3<=r3;omega⟩
   clear e0 e2 e6 e10 e13 e14 e15 e16 hlt'
   have hcbb:cbl≠b:=hS16.t.off hcb16 (by decide)
   have hcbx:cbl≠xb:=fun e=>by rw [e,hS16.vx] at hcb16;simp at hcb16
   have hbnd:∀y,0<=y->y<(pn:Int)->0<=gI C y/\gI C y<=1000:=fun y y0 y1=>by
    rw [show C=_ from hC]
    exact Cye (s:=⟨pn,ds,os.take q,[]⟩) ok0 hfr.1 hfr.2 (by omega) hr12.2 tk0 y0 y1
   replace hbnd:Aqk _:=hbnd
   rintro w a' H17 ⟨e,j,nv,ns,rfl,hj,rfl,e0,e2,e6,e10,e13,e14,e17,e18,hN17,hl17⟩
   by_cases hgo:0<(j:Int)
   ·have vx17:=hN17.st.vx
    (refine @unH _ (zA Aqq ?_);(try clear hK K);intro K hK hc)
    refine (Bjd m H17 b (k+5*(j-1)+4) (pn-1) (by omega) (hN17.st.t.less (by omega))).runs.mono ?_
    rintro _ H18 ⟨p,p0,p1,rfl,x18,hT18⟩
    have hN18:=hN17.tin x18 hT18
    clear hN17 x18 hT18 vx17
    (refine @unH _ (zU Aqq ?_);intro _ _ hc)
    refine (Bjd m H18 b (k+5*(j-1)+3) 12 (by omega) hN18.st.t).runs.mono ?_
    rintro _ H19 ⟨h,h0',h1',rfl,x19,hT19⟩
    have hN19:=hN18.tin x19 hT19
    clear hN18 x19 hT19
    (refine @unH _ (zU Aqq ?_);intro _ _ hc)
    (intro nb hnb;generalize hG:Hp.set _ nb _=H20;have lH20:=Aqc hG hnb;have vnb:=Aqb hG;clear hG)
    have hnw:=hN19.new hnb
    have hN20:=hN19.le lH20
    clear hN19 lH20 hnb
    have hp:0<=p/\p<(pn:Int):=by omega
    have hh:0<=h/\h<=12:=by omega
    clear p0 p1 h0' h1'
    refine hK _ _ ?_
    clear hK K
    (try refine @unH _ (zQ ?_))
    have hx:ccl[cof+p.toNat]?=some (.int .i64 (gI C p)):=(show ∀(i:Nat) (x:Int),C[i]?=some x->ccl[cof+i]?=some (.int .i64 x) from hcx) _ _ (Av4 hp.1 (by rw [show C.length=pn from hCl];exact hp.2))
    have hxb:=(show ∀y,0<=y->y<(pn:Int)->0<=gI C y/\gI C y<=1000 from hbnd) p hp.1 hp.2
    generalize hX:gI C p=X at hx hxb
    replace hX:Aqk _:=hX
    refine Avt (fun a' H'=>∃e,∃h':Int,a'=act 162 e []/\e 0=.pointer (some ⟨b,0,none⟩)/\e 2=.bool honest/\e 6=.pointer (some ⟨rb,0,none⟩)/\e 10=.pointer (some ⟨xb,0,none⟩)/\e 13=.int .i64 (i:Nat)/\e 14=.int .i64 (hr:Nat)/\e 17=.slice (some ⟨cbl,cof,none⟩) pn cc/\e 18=.int .i64 (j:Nat)/\e 19=.pointer (some ⟨nb,0,none⟩)/\(0<=h'/\h'<=12) /\
     H' nb=some (true,.cells #[.int .i64 p,.int .i64 h',.bool false] 32 (0,0))/\NoSt H H16 H' b rb xb (k+5*(j-1)+1) pn (.slice da ds.length dc) (.slice (some ⟨hbl,hof,none⟩) q hc7) nv honest C ns) ?_ ?_
    ·(refine @unH _ (zA Aqq ?_);(try clear hK K);intro K hK hc)
     refine (Cvo m H20 b (k+5*(j-1)+2) 2 (by omega) (by omega) hN20.st.t).runs.mono ?_
     rintro _ H21 ⟨c,rfl,x21,hT21⟩
     have hN21:=hN20.tin x21 hT21
     have vn21:=x21.keeps vnb hnw.nn
     clear hN20 x21 hT21 vnb
     cases c with
     | false=>
      (refine @unH _ (zU Aqq ?_);(try clear hK K);intro K hK hc)
      exact ⟨_,h,rfl,e0,e2,e6,e10,e13,e14,e17,e18,rfl,hh,vn21,hN21.less (by omega)⟩
     | true=>
      (refine @unH _ (zU Aqq ?_);(try clear hK K);intro K hK hc)
      have hcb21:=hN21.lx _ _ hcb16 hcbb hcbx
      refine Axm (fun HX=>(∀o,Hp.cell HX ⟨nb,o,none⟩=(#[.int .i64 p,.int .i64 h,.bool false]:Array Value)[o]?)/\∀o,Hp.cell HX ⟨cbl,o,none⟩=ccl[o]?) [12] (.free 0 (.free 1 (.take 2 (.free 3 (.take 4 (.free 5 (.one 6 (.free 7 (.free 8 (.free 9 (.free 10 (.free 11 (.one 12 .nil))))))))))))) (by kernel_rfl) (by kernel_rfl) (by decide) (by kernel_rfl) ?_;intro K hK
      refine Ax6 fun ops hOz=>?_
      have hSS:=And.intro (fun o=>cell_of (o:=o) vn21) (fun o=>cell_of (o:=o) hcb21)
      (iterate 2 (refine @unH _ ?_;refine zF Aqq ?_))
      (refine @unH _ ?_;refine zK (aN Aqq @exists_eq_left'.{1}) ?_)
      (refine @unH _ ?_;refine zF Aqq ?_)
      (refine @unH _ ?_;refine zK (aN Aqq @exists_eq_left'.{1}) ?_)
      (refine @unH _ ?_;refine zF Aqq ?_)
      (refine @unH _ ?_;refine zM Aqq ?_)
      refine (Bjd m H21 b (k+5*(j-1)+1) 2 (by omega) hN21.st.t).runs.mono ?_
      rintro _ H22 ⟨y,y0,y1,rfl,x22,hT22⟩
      have hN22:=hN21.tin x22 hT22
      have vn22:=x22.keeps vn21 hnw.nn
      have hcb22:=x22.keeps hcb21 hcbb
      clear hN21 x22 hT22 vn21 hcb21 hSS
      simp -implicitDefEqProofs (disch:=omega) only [Azn,Aq3,Aql]
      refine ⟨.inr fun _=>(by first | trivial | exact ⟨fun o=>by rw [vn22];first | rfl | simp [Ckf],fun o=>by rw [hcb22];first | rfl | simp [Ckf]⟩),?_⟩
      (iterate 5 (refine @unH _ ?_;refine zF Aqq ?_))
      (refine Ay9 hOz rfl rfl ?_;simp -implicitDefEqProofs (disch:=first | omega | (simp only [qd]<;>omega)) only [xq,↓xp,qc,Nat.reduceAdd,List.range,List.range.loop,fine,Nat.reduceEqDiff,↓reduceIte,yielded,reduceCtorEq,Nat.reduceLT,Nat.reduceMul,Nat.reduceSub,one,Nat.reduceLeDiff,Aqg,Aqq,aq,↓ap,qe0,qe1,qe2, *,-hK,Ak2 vn22])
      refine ⟨.inl (by decide),?_⟩
      (refine Az6 (hK _ _ ?_);clear hK K;(try simp only [nq,↓reduceIte,Nat.reduceEqDiff]))
      refine ⟨_,_,rfl,e0,e2,e6,e10,e13,e14,e17,e18,rfl,?_,Axh,hN22.setN hnw vn22 _⟩
      (repeat' split)<;>omega
    ·clear e0 e2 e6 e10 e13 e14 e17 e18 hN20 vnb hh
     rintro a H24 ⟨e,h',rfl,e0,e2,e6,e10,e13,e14,e17,e18,e19,hh',vn24,hN24⟩
     have hcb24:=hN24.lx _ _ hcb16 hcbb hcbx
     have hq1:∀o,Hp.cell H24 ⟨nb,o,none⟩=(#[.int .i64 p,.int .i64 h',.bool false]:Array Value)[o]?:=fun o=>cell_of vn24
     have hq2:∀o,Hp.cell H24 ⟨cbl,o,none⟩=ccl[o]?:=fun o=>cell_of hcb24
     refine Bz4 (fun HX=>HX=H24) [9] (.free 0 (.free 1 (.take 2 (.free 3 (.take 4 (.free 5 (.take 6 (.free 7 (.free 8 (.one 9 .nil)))))))))) (by kernel_rfl) (by kernel_rfl) (by decide) (by kernel_rfl) ?_;intro K hK
     refine Ax6 fun ops hOz=>?_
     (iterate 2 (refine @unH _ ?_;refine zF Aqq ?_))
     (refine @unH _ ?_;refine zL (aN Aqq @exists_eq_left'.{1}) ?_)
     (refine @unH _ ?_;refine zF Aqq ?_)
     (refine @unH _ ?_;refine zL (aN Aqq @exists_eq_left'.{1}) ?_)
     (refine @unH _ ?_;refine zF Aqq ?_)
     (refine @unH _ ?_;refine zL (aN Aqq @exists_eq_left'.{1}) ?_)
     (iterate 2 (refine @unH _ ?_;refine zF Aqq ?_))
     (refine Ay9 hOz rfl rfl ?_;simp -implicitDefEqProofs (disch:=first | omega | (simp only [qd]<;>omega)) only [xq,↓xp,qc,Nat.reduceAdd,List.range,List.range.loop,fine,Nat.reduceEqDiff,↓reduceIte,yielded,reduceCtorEq,Nat.reduceLT,Nat.reduceMul,Nat.reduceSub,one,Nat.reduceLeDiff,Aqg,Aqq,aq,↓ap,qe0,qe1,qe2, *,-hK,Ak2 vn24])
     refine ⟨.inl (by decide),?_⟩
     (refine Az6 (hK _ _ ?_);clear hK K;(try simp only [nq,↓reduceIte,Nat.reduceEqDiff]))
     have hN25:=hN24.setN hnw vn24 (.cells #[.int .i64 p,.int .i64 h',.bool (decide (X<=h'))] 32 (0,0))
     have vn25:(H24.set nb (.cells #[.int .i64 p,.int .i64 h',.bool (decide (X<=h'))] 32 (0,0))) nb=_:=Axh
     generalize hG:Hp.set H24 nb _=H25 at *
     clear hG hN24 vn24 hcb24 hq1 hq2
     refine Avt (fun a' H'=>∃e,∃sm:Bool,a'=act 162 e []/\e 0=.pointer (some ⟨b,0,none⟩)/\e 2=.bool honest/\e 6=.pointer (some ⟨rb,0,none⟩)/\e 10=.pointer (some ⟨xb,0,none⟩)/\e 13=.int .i64 (i:Nat)/\e 14=.int .i64 (hr:Nat)/\e 17=.slice (some ⟨cbl,cof,none⟩) pn cc/\e 18=.int .i64 (j:Nat)/\e 19=.pointer (some ⟨nb,0,none⟩)/\Aqk (honest=true->sm=decide (X<=h')) /\
      H' nb=some (true,.cells #[.int .i64 p,.int .i64 h',.bool sm] 32 (0,0))/\NoSt H H16 H' b rb xb (k+5*(j-1)) pn (.slice da ds.length dc) (.slice (some ⟨hbl,hof,none⟩) q hc7) nv honest C ns) ?_ ?_
     ·obtain ⟨ho,hho⟩:∃ho:Bool,Aqk (ho=honest):=⟨_,rfl⟩
      have e2':=e2
      rw [<-show ho=honest from hho] at e2'
      clear e2
      cases ho with
      | true=>
       (refine @unH _ (zA Aqq ?_);(try clear hK K);intro K hK hc)
       exact ⟨_,_,rfl,e0,by rw [<-show true=honest from hho];exact e2',e6,e10,e13,e14,e17,e18,e19,fun _=>rfl,vn25,hN25.less (by omega)⟩
      | false=>
       (refine @unH _ (zA Aqq ?_);(try clear hK K);intro K hK hc)
       refine (Cvo m H25 b (k+5*(j-1)) 3 (by omega) (by omega) hN25.st.t).runs.mono ?_
       rintro _ H26 ⟨c,rfl,x26,hT26⟩
       have hN26:=hN25.tin x26 hT26
       have vn26:=x26.keeps vn25 hnw.nn
       clear hN25 vn25 x26 hT26
       cases c with
       | false=>
        (refine @unH _ (zU Aqq ?_);(try clear hK K);intro K hK hc)
        exact ⟨_,_,rfl,e0,by rw [<-show false=honest from hho];exact e2',e6,e10,e13,e14,e17,e18,e19,(fun h=>by have h2:false=true:=(show false=honest from hho).trans h;cases h2),vn26,hN26⟩
       | true=>
        generalize decide (X<=h')=smv at vn26
        (refine @unH _ (zU Aqq ?_);(try clear hK K);intro K hK hc)
        exact ⟨_,_,rfl,e0,by rw [<-show false=honest from hho];exact e2',e6,e10,e13,e14,e17,e18,e19,(fun h=>by have h2:false=true:=(show false=honest from hho).trans h;cases h2),Axh,hN26.setN hnw vn26 _⟩
     ·clear e0 e2 e6 e10 e13 e14 e17 e18 e19 hN25 vn25
      rintro a H26 ⟨e,sm,rfl,e0,e2,e6,e10,e13,e14,e17,e18,e19,hsm,vn26,hN26⟩
      have vx26:=hN26.st.vx
      (refine @unH _ (zA Aqq ?_);(try clear hK K);intro K hK hc)
      intro g hg
      refine Aw8 underlying24 sizeOf32 zeroValue32 rfl typeInfo32 (by decide) (by decide) hN26.rg (ws:=[.int .i64 p,.int .i64 h',.bool sm]) rfl hg (by simp [one]) (by have:ns.length+j<=r3:=hl17;rw [List.length_map];omega) _ _ _ _ (fun v27 H27 hR27 hk27 hn27=>?_)
      have hS27:=hN26.st.row hN26.rg (by decide) (by decide) hN26.nh hk27
      have vx27:=hS27.vx
      have ho27:one v27=true:=by obtain ⟨_,_,rfl⟩:=hR27.form;rfl
      have hN28:=hN26.more (fun x=>hN26.gone) (n:=⟨p,h',sm⟩) hR27 hk27 hn27 ⟨⟨hp.1,hp.2,hh'.1,hh'.2⟩,fun hz=>by
       have h1:=(show honest=true->sm=decide (X<=h') from hsm) hz
       rw [<-show gI C p=X from hX] at h1
       exact h1⟩
      clear hN26 vx26 vn26 hR27 hk27 hn27 hg hS27
      simp -implicitDefEqProofs (disch:=first | omega | (simp only [qd]<;>omega)) only [xq,↓xp,qc,Nat.reduceAdd,List.range,List.range.loop,fine,Nat.reduceEqDiff,↓reduceIte,yielded,reduceCtorEq,Nat.reduceLT,Nat.reduceMul,Nat.reduceSub,one,Nat.reduceLeDiff,Aqg,Aqq,aq,↓ap,qe0,qe1,qe2, *,-hK,Azj sizeOf24 ho27,Ak2 vx27,ho27]
      refine hK _ _ ?_
      clear hK K
      (try refine @unH _ (zQ ?_))
      (refine @unH _ (zA Aqq ?_);(try clear hK K);intro K hK hc)
      refine ⟨j-1,by omega,_,j-1,v27,ns++[⟨p,h',sm⟩],rfl,by omega,rfl,e0,e2,e6,e10,e13,e14,e17,?_,hN28,?_⟩
      ·rw [show ((j-1:Nat):Int)=(j:Int)-1 by omega];rfl
      ·have:ns.length+j<=r3:=hl17
       show (ns++[_]).length+(j-1)<=r3
       rw [List.length_append,List.length_singleton]
       omega
   ·obtain ⟨na,nc,rfl⟩:=hN17.rg.form
    rw [List.length_map] at hN17
    have vx17:=hN17.st.vx
    have vr17:=hN17.st.vr
    replace hN17:Aqk _:=hN17
    replace hS16:Aqk _:=hS16
    replace hcb16:Aqk _:=hcb16
    (refine @unH _ (zA Aqq ?_);(try clear hK K);intro K hK hc)
    (refine Axr ?_;(try simp only [nq,↓reduceIte,Nat.reduceEqDiff]);rw [Aq8,Bzm results47 (by decide) (by decide) (by decide) (by decide) (b:=rb) (o:=0) ?hcell underlying26 rfl sizeOf26];(case hcell=>exact e6);simp -implicitDefEqProofs (disch:=first | omega | (simp only [qd]<;>omega)) only [xq,↓xp,qc,Nat.reduceAdd,List.range,List.range.loop,fine,Nat.reduceEqDiff,↓reduceIte,yielded,reduceCtorEq,Nat.reduceLT,Nat.reduceMul,Nat.reduceSub,one,Nat.reduceLeDiff,Aqg,Aqq,Axl,List.extract_toArray])
    have hN:NoSt H H16 H17 b rb xb (k+5*j) pn (.slice da ds.length dc) (.slice (some ⟨hbl,hof,none⟩) q hc7) (.slice na ns.length nc) honest C ns:=hN17
    have hS:SoSt H H16 b rb xb (k+22) pn (.slice da ds.length dc) (.slice (some ⟨hbl,hof,none⟩) q hc7) (.slice none 0 0):=hS16
    have hD17:=SlG.lexX (show SlD H16 (.slice da ds.length dc) ds from hD16) hS.t (by decide) hS.vx (by decide) hN.lx
    have hh17:=SlI.lexX (show SlI H16 _ (os.take q) from hh16) hS.t hS.vx (by decide) hN.lx
    have hc17:=SlI.lexX (show SlI H16 _ C from hcv16) hS.t hS.vx (by decide) hN.lx
    have hn17:=hN.rg.slG (by decide)
    have hl:ns.length+j<=r3:=hl17
    have hq2:(os.take q).length=q:=hql
    have hf:(os.take q).getD i 0=from_:=hfromE
    have hCe:Aw0 ⟨pn,ds,os.take q,ns⟩ ((os.take q).getD i 0) hr ts=C:=by rw [hf,show C=_ from hC];rfl
    have okk:SmOk ⟨pn,ds,os.take q,[]⟩:=ok0
    have tk:ts∈Ax1 ds:=tk0
    refine ⟨⟨pn,ds,os.take q,ns⟩,_,_,_,_,i,hr,ts,rfl,⟨SlG.put hD17 vr17 (by decide) _,SlI.put hh17 vr17 (by decide) _,SlG.put hn17 vr17 (by decide) _⟩,⟨okk.p0,okk.p1,okk.dl,okk.dk,okk.h0,okk.h1,okk.hk,okk.hd,by simp only;omega,fun n hn=>(hN.ok n hn).1⟩,by simp only;omega,hn4,by simp only;omega,by simp only;omega,by omega,tk,?_,fun hz=>⟨by simp only;omega,by omega,tk,fun n hn=>?_⟩,hN.st.lx.own hN.st.r0,(hN.st.t.own vr17 (Ne.symm hN.st.rb_ne.1)).less (by omega),hN.rg.keep fun x u hx hu=>by
     rw [Aqv (hN.rg.bound hx vr17 (fun c hc=>by simp only [Obj.cells.injEq] at hc;exact absurd hc.2.1 (by decide)))]
     exact hu⟩
    ·show SlI _ _ (Aw0 ⟨pn,ds,os.take q,ns⟩ ((os.take q).getD i 0) hr ts)
     rw [hCe]
     exact SlI.put hc17 vr17 (by decide) _
    ·show n.sm=decide (gI (Aw0 ⟨pn,ds,os.take q,ns⟩ ((os.take q).getD i 0) hr ts) n.pl<=n.hr)
     rw [hCe]
     exact (hN.ok n hn).2 hz
 (refine @unH _ (zA Aqq ?_);(try clear hK K);intro K hK hc)
 refine (Bjd m H3 b (k+58) nd (by omega) hS3.t).runs.mono ?_
 rintro _ H4 ⟨r,r0,r1,rfl,x4,hT4⟩
 have hS4:=hS3.tin x4 hT4
 clear x4 hT4 hS3
 obtain ⟨r,rfl⟩:=Int.eq_ofNat_of_zero_le r0
 clear r0
 have r5:r<=5/\((r:Int)<=nd∨r=0):=by omega
 clear r1
 (refine @unH _ (zU Aqq ?_);(try clear hK K);intro K hK hc)
 refine Axg (fun w a' H'=>∃e,∃j:Nat,∃dv ds,j=w/\j<=r/\a'=act 162 e []/\e 0=.pointer (some ⟨b,0,none⟩)/\e 2=.bool honest/\e 6=.pointer (some ⟨rb,0,none⟩)/\e 10=.pointer (some ⟨xb,0,none⟩)/\e 11=.int .i64 (j:Nat) /\
  SoSt H H' b rb xb (k+38+4*j) pl dv (.slice none 0 0) (.slice none 0 0)/\RowG 30 4 H' dv (ds.map Bx4)/\Aqk (∀x,rowB dv=some x->H x=none)/\Avx pl ds/\Aqk (ds.length+j<=r)) (n:=r) ?_ ?_
 ·exact ⟨_,r,_,[],rfl,Nat.le_refl _,rfl,rfl,rfl,rfl,rfl,rfl,⟨hS4.lx,hS4.vr,hS4.vx,hS4.t.less (by omega),hS4.r0,hS4.x0,hS4.ne⟩,RowG.nil,(fun _ h=>by cases h),(fun _ h=>by cases h),by show 0+r<=r;omega⟩
 clear hS4
 rintro w a' H5 ⟨e,j,dv,ds,rfl,hj,rfl,e0,e2,e6,e10,e11,hS5,hR5,hN5,hD5,hl5⟩
 have vx5:=hS5.vx
 by_cases hgo:0<(j:Int)/\1<pl
 ·obtain ⟨hgo1,hgo2⟩:=hgo
  (refine @unH _ (zA Aqq ?_);(try clear hK K);intro K hK hc)
  refine Axm (fun HX=>HX xb=some (true,smO pl dv (.slice none 0 0) (.slice none 0 0))) [9] (.free 0 (.take 1 (.free 2 (.free 3 (.take 4 (.one 5 (.one 6 (.one 7 (.free 8 (.one 9 .nil)))))))))) (by kernel_rfl) (by kernel_rfl) (by decide) (by kernel_rfl) ?_;intro K hK
  refine Ax6 fun ops hOz=>?_
  (refine @unH _ ?_;refine zF Aqq ?_)
  (refine @unH _ ?_;refine zK Aqq ?_)
  (iterate 2 (refine @unH _ ?_;refine zF Aqq ?_))
  (refine @unH _ ?_;refine zK Aqq ?_)
  (refine @unH _ ?_;refine zM Aqq ?_)
  refine (Byp m H5 b (k+38+4*(j-1)) pl 1 (by omega) (by omega) (by omega) (by omega) (hS5.t.less (by omega))).runs.mono ?_
  rintro _ H6 ⟨d,rfl,hd,x6,hT6⟩
  have hS6:=hS5.tin x6 hT6
  have hR6:=hR5.lexT hS5.t (by decide) x6
  clear vx5 hS5 hR5 x6 hT6
  have vx6:=hS6.vx
  simp -implicitDefEqProofs (disch:=omega) only [Azn,Aq3,Aql]
  refine ⟨.inr fun _=>vx6,?_⟩
  (refine @unH _ ?_;refine zM Aqq ?_)
  intro g hg
  have hgx:=Aqr vx6 hg
  refine ⟨.inr fun _=>by rw [if_neg hgx],?_⟩
  (refine @unH _ ?_;refine zM Aqq ?_)
  refine Aw8 underlying22 sizeOf30 zeroValue30 rfl typeInfo30 (by decide) (by decide) hR6 (ws:=[.int .i64 d.a,.int .i64 d.b,.int .i64 d.mn,.int .i64 d.mx]) rfl hg (by simp [one]) (by have:ds.length+j<=r:=hl5;rw [List.length_map];omega) _ _ _ _ (fun v7 H7 hR7 hk7 hn7=>?_)
  have hS7:=hS6.row hR6 (by decide) (by decide) hN5 hk7
  have hN7:Aqk (∀x,rowB v7=some x->H x=none):=fun x hx=>(hn7 x hx).elim (hN5 x) fun h=>hS6.lx.gone h
  clear hN5 hn7 hk7 hR6 hg hgx vx6 hS6
  have ho7:one v7=true:=by obtain ⟨_,_,rfl⟩:=hR7.form;rfl
  have vx7:=hS7.vx
  (refine @unH _ ?_;refine zX Aqq ?_)
  refine ⟨.inr fun _=>by trivial,?_⟩
  (refine @unH _ ?_;refine zF Aqq ?_)
  (refine Ay9 hOz rfl rfl ?_;simp -implicitDefEqProofs (disch:=first | omega | (simp only [qd]<;>omega)) only [xq,↓xp,qc,Nat.reduceAdd,List.range,List.range.loop,fine,Nat.reduceEqDiff,↓reduceIte,yielded,reduceCtorEq,Nat.reduceLT,Nat.reduceMul,Nat.reduceSub,one,Nat.reduceLeDiff,Aqg,Aqq,aq,↓ap,qe0,qe1,qe2, *,-hK,Azj sizeOf22 ho7,Ak2 vx7,ho7])
  refine ⟨.inl (by decide),?_⟩
  (refine Az6 (hK _ _ ?_);clear hK K;(try simp only [nq,↓reduceIte,Nat.reduceEqDiff]))
  have hS8:=hS7.put (dv':=v7) (hv':=.slice none 0 0) (nv':=.slice none 0 0)
  have hR8:RowG 30 4 (H7.set xb (smO pl v7 (.slice none 0 0) (.slice none 0 0))) v7 ((ds++[d]).map Bx4):=by
   rw [List.map_append]
   exact hR7.keep fun x u hx hu=>by
    rw [Aqv (hR7.bound hx vx7 (fun c hc=>by simp only [Obj.cells.injEq] at hc;exact absurd hc.2.1 (by decide)))]
    exact hu
  generalize hG:Hp.set H7 xb _=H8 at *
  clear hG hS7 hR7 vx7
  clear ho7
  (refine @unH _ (zA Aqq ?_);(try clear hK K);intro K hK hc)
  refine ⟨j-1,by omega,_,j-1,v7,ds++[d],rfl,by omega,rfl,e0,e2,e6,e10,?_,hS8,hR8,hN7,?_,?_⟩
  ·rw [show ((j-1:Nat):Int)=(j:Int)-1 by omega];rfl
  ·intro x hx
   rcases List.mem_append.1 hx with hx | hx
   ·exact hD5 x hx
   ·simp only [List.mem_cons,List.not_mem_nil,or_false] at hx
    rw [hx];exact hd
  ·have:ds.length+j<=r:=hl5
   show (ds++[d]).length+(j-1)<=r
   rw [List.length_append,List.length_singleton]
   omega
 ·have hfin:∀e:Nat->Value,e 0=.pointer (some ⟨b,0,none⟩)->e 2=.bool honest->e 6=.pointer (some ⟨rb,0,none⟩)->e 10=.pointer (some ⟨xb,0,none⟩)->∃e' dv ds,act 162 e []=act 162 e' []/\e' 0=.pointer (some ⟨b,0,none⟩)/\e' 2=.bool honest/\e' 6=.pointer (some ⟨rb,0,none⟩)/\e' 10=.pointer (some ⟨xb,0,none⟩) /\
   SoSt H H5 b rb xb (k+38) pl dv (.slice none 0 0) (.slice none 0 0)/\SlD H5 dv ds/\Aqk (Avx pl ds)/\Aqk ((ds.length:Int)<=nd):=fun e e0 e2 e6 e10=>⟨e,dv,ds,rfl,e0,e2,e6,e10,⟨hS5.lx,hS5.vr,hS5.vx,hS5.t.less (by omega),hS5.r0,hS5.x0,hS5.ne⟩,hR5.slG (by decide),hD5,by have:ds.length+j<=r:=hl5;show (ds.length:Int)<=nd;omega⟩
  replace hfin:Aqk _:=hfin
  by_cases hj0:0<(j:Int)
  ·have hp1:¬1<pl:=fun h=>hgo ⟨hj0,h⟩
   clear hgo
   (refine @unH _ (zA Aqq ?_);(try clear hK K);intro K hK hc)
   exact hfin _ e0 e2 e6 e10
  ·clear hgo
   (refine @unH _ (zA Aqq ?_);(try clear hK K);intro K hK hc)
   exact hfin _ e0 e2 e6 e10
end Go.Proofs.YtaehjjbekjglkaaGreatDoor
end
section
namespace Go.X
open Go Go.RowKit
open Go.Conc (G base)
theorem Base.below {W w:World} (h:Base W w):Below W.heap.size W { w with tape:=W.tape }:=⟨h.os,rfl,h.output,h.size,h.block⟩
theorem Base.kept {W w:World} (h:Base W w) (may:MemPlace->Prop):W.keptBut w may:=by
 have:=World.keptBut_refl W may
 refine ⟨h.os,h.output,fun i hi=>?_⟩
 rw [h.block i hi]
 exact this.2.2 i hi
theorem leaving_of_change_and {H:Type} {enc:TypeId×Value->H} {a:Assume} {C:Checked} {os:Os} {f:FuncId} {fn:Func} {s:ChangeSpec} {conds:List PathCond} {apart fresh handsOn again:Bool} {X:World->Array Value->Prop}
  (hX:∀(w w':World) (args:Array Value),w.heap=w'.heap->X w args->X w' args)
  (own:ownKnob C.prog.godebug=none) (started:os.Started) (hfn:C.prog.funcs[f]?=some fn)
  (witness:∃(w:World) (tape:Tape) (i:Input),w.os=os/\(w.forCall tape i).Shaped C.prog/\i.vars=[]/\Input.okWide C.prog (w.forCall tape i) .any w.heap.size f i /\
   ((s.pre enc C.prog fn conds apart (w.forCall tape i).memory i.args/\X (w.forCall tape i).memory i.args)/\sizedMet enc C.prog fn (OpenSpec.ofChange s) apart (w.forCall tape i).memory i.args)/\a.holds C.prog (lone (Frame.enter C.prog f i.args .normal) [] (w.forCall tape i)))
  (runs:∀(W:World) (base:Nat) (args:Array Value) (ds gs:List (DataW H)) (before:List MemPlace),
   (∀(j:Nat) t v,fn.params[j]?=some t->args[j]?=some v->Value.okWide C.prog W .any base t v) ->
   DataW.Whole enc C.prog fn.params.toList s.vars apart W args.toList ds gs before->X W args ->
   Ends C.prog (fun v W'=>s.post enc C.prog fn apart fresh handsOn again W args v W') (Conc.solo (G (Frame.enter C.prog f args .normal) []) W) #[]) :
  ReturnsInLeavingWide a C os f .any (fun w args=>(s.pre enc C.prog fn conds apart w args/\X w args)/\sizedMet enc C.prog fn (OpenSpec.ofChange s) apart w args) (s.post enc C.prog fn apart fresh handsOn again):=by
 refine returnsInLeavingWide_of_good own started witness ?_
 intro w tape i _ _ _ hok hpre hholds
 obtain ⟨_,_,_,fn',hfn',_,_,_,_,hval⟩:=hok
 have e:fn'=fn:=Option.some.inj (hfn'.symm.trans hfn)
 subst e
 obtain ⟨⟨⟨ds,gs,before,hw,hc⟩,hx⟩,hz⟩:=hpre
 have hw':=DataW.Whole.of_heap (w':=w.forCall tape i) (by rfl) hw
 obtain ⟨M,last,o,w',t',h1,h2,h3,h4⟩:=runs (w.forCall tape i) w.heap.size i.args ds gs before hval hw' (hX _ _ _ (by rfl) hx)
 exact ⟨M,last,o,w',t',h1,h2,h3,h4.mono fun v hp=>ChangeSpec.post_blind hp⟩
end Go.X
end
section
namespace Go.Proofs.YtaehjjbekjglkaaGreatDoor
open Go Go.X Go.ChangeShapes Go.WideShapes Go.RowKit
theorem ownK:ownKnob Tryz.prog.godebug=none:=by kernel_rfl
theorem laidOutK:laidOutB Tryz.prog=true:=by kernel_rfl
theorem cellsK:Tryz.prog.cellsOf 3=1:=by kernel_rfl
noncomputable def laidWorld (os:Os):World:=
 let w0:=World.holding Tryz.prog os ⟨#[],#[],[]⟩
 {w0 with heap:=w0.heap.modify 0 fun
   | .cells _ t frozen=>.cells #[.iface 195 (.agg #[.pointer (some ⟨1,90,none⟩)])] t frozen
   | o=>o }
theorem laidWorld_met (os:Os) (args:Array Value):laidMetH Tryz.prog [("errors.errorType",Rows.laid_errors_errorType)] ((laidWorld os).forCall (fun _ _=>0) ⟨#[],args,[]⟩).memory:=
 laidMetH_of_parts (laidMet_nil _ _) (by kernel_rfl)
theorem results_tmp {fn:Func} {t:Tmp} (h:fn.results=#[.tmp t]) (P:Program) (tmps:Array Value) (w:World) (v:Value) (w':World) (hr:(results fn tmps).run P w=.ok v w'):w'=w:=by
 simp [results,h] at hr
 exact hr.2.symm
end Go.Proofs.YtaehjjbekjglkaaGreatDoor
end
section
namespace Go.X
open Go
section
variable {P:Program} {main:Md} {lp:Option Nat} {Q:Exit->Act->Hp->Prop} {a:Act} {H:Hp} {l ops:List Oper} {i n:Nat}
 {d:Option Tmp} {op:Op} {ty:TypeId} {pos:String} {af:Array Edge} {v:Value} {j:Nat} {b:Bool} {t:Tmp}
def RZ (P:Program) (main:Md) (lp:Option Nat) (ops:List Oper) (Q:Exit->Act->Hp->Prop) (i n:Nat) (a:Act) (H:Hp):Prop:=runX P main lp ops.toArray Q (List.range' i n) a H
@[congr] theorem RZ_congr {a a':Act} {H H':Hp} {i i' n:Nat} (ha:a=a') (hH:H=H') (hi:i=i'):RZ P main lp ops Q i n a H=RZ P main lp ops Q i' n a' H':=by subst ha hH hi;rfl
theorem wpX_rz {id:Nat} (n:Nat) (hn:l.length=n) (h:∀K:Act->Hp->Prop,(∀a' H',Q .normal a' H'->K a' H')->∀ops,Ayr l ops->RZ P main lp ops (only K) 0 n a H):wpX P main lp (.region id l.toArray false) Q a H:=
 Bqc fun K hK=>by
  have:=h K hK l ⟨fun _=>rfl⟩
  unfold RZ at this
  rw [List.size_toArray,hn,List.range_eq_range']
  exact this
theorem RZ_nil (h:Q .normal a H):RZ P main lp ops Q i 0 a H:=h
theorem Dxc (hO:Ayr l ops) (ho:l[i]?=some ⟨d,op,ty,pos,af,none⟩) (hf:fine lp ⟨d,op,ty,pos,af,none⟩=true)
  (h:opX P main lp ⟨d,op,ty,pos,af,none⟩ a H (RZ P main lp ops Q (i+1) n) Q):RZ P main lp ops Q i (n+1) a H:=by
 unfold RZ
 rw [List.range'_succ,Aqg,Av7]
 simp only [List.getElem?_toArray,hO.nth,ho,Region.wanted,if_true]
 exact ⟨hf,h⟩
theorem Cwq {oj:Oper} (hO:Ayr l ops) (ho:l[i]?=some ⟨d,op,ty,pos,af,some (j,b)⟩) (hf:fine lp ⟨d,op,ty,pos,af,some (j,b)⟩=true) (hj:l[j]?=some oj) (hd:oj.dst=some t) (hv:a.tmps[t]?=some (.bool b))
  (h:opX P main lp ⟨d,op,ty,pos,af,some (j,b)⟩ a H (RZ P main lp ops Q (i+1) n) Q):RZ P main lp ops Q i (n+1) a H:=by
 unfold RZ
 rw [List.range'_succ,Aqg,Av7]
 simp only [List.getElem?_toArray,hO.nth,ho,hO.guard (o:=⟨d,op,ty,pos,af,some (j,b)⟩) rfl hj hd hv,if_true]
 exact ⟨hf,h⟩
theorem Dxb {oj:Oper} {w:Value} (hO:Ayr l ops) (ho:l[i]?=some ⟨d,op,ty,pos,af,some (j,b)⟩) (hj:l[j]?=some oj) (hd:oj.dst=some t) (hv:a.tmps[t]?=some w) (hw:(ylK (some w)==some b)=false)
  (h:RZ P main lp ops Q (i+1) n (a.put d undef) H):RZ P main lp ops Q i (n+1) a H:=by
 unfold RZ
 rw [List.range'_succ,Aqg,Av7]
 have:Region.wanted (⟨d,op,ty,pos,af,some (j,b)⟩:Oper) (yielded ops.toArray a.tmps)=false:=by
  unfold Region.wanted
  simp only [Bxb,hO.nth,hj,Option.bind_some,hd,hv,hw]
 simp only [List.getElem?_toArray,hO.nth,ho,this,Bool.false_eq_true,if_false]
 exact h
end
end Go.X
end
