/- Texts SmW2 SmW3 SmH SmI SmJ SmL SmV. -/
import Derived.Test.YtaehjjbekjglkaaGreatDoorJ17
set_option linter.defProp false
set_option linter.unusedSimpArgs false
set_option linter.unusedVariables false
set_option maxRecDepth 100000
set_option maxHeartbeats 2000000
section
namespace Go.X
open Go
def sndS:Code->Code
 | .seq _ y=>y
 | c=>c
end Go.X
namespace Go.Proofs.YtaehjjbekjglkaaGreatDoor
open Go Go.X Go.Proofs.Tryz
def Ayp:=aN @Bx5 (aN (fun H=>Bq2 (H:=H) underlying152 typeInfo150 (by decide)) (aN @Dyu (aN (fun H=>Bq5 (H:=H) sizeOf152) (aN @Dyv (aN @Dwk (aN @Dw0 (aN @Dv5 (aN @Dyy (aN @Dy5 (aN @Dwy (aN @Dyt (aN @Dyg (aN @Dwg (aN @Dw2 (aN @Dw7 @Dyn)))))))))))))))
open Go.Conc (G baseD rcase scase)
theorem Djh {H:Hp} {b:Nat} {l:List Value} {c:Array Value} {e:TypeId} {K:Hp->Prop} (hl:l.length=326) (h1:l.all one=true) (hb:H b=some (true,.cells c e (0,0))) (hs:c.size=326):Akm H b 0 l K=K (H.set b (.cells l.toArray e (0,0))):=by
 rw [Aj9 (c:=c) (e:=e) (by intro h;rw [h] at hl;simp at hl) hb]
 have ho:over c 0 l=l.toArray:=by
  obtain ⟨l'⟩:=c
  exact Ay6 (by simp at hs;omega)
 rw [ho,h1]
 simp [hl,hs]
theorem Cqm (H H8 C H9:Hp) (c wg tb vx:Nat) (s:Sm) (ok:SmOk s) (n:Nat) (hn:n=s.hampers.length) (dv nv:Value) (ha:Option Addr) (kc:Nat) (e:Nat->Value)
  (e1:e 1=.pointer (some ⟨vx,0,none⟩)) (e3:e 3=.pointer (some ⟨tb,0,none⟩)) (e4:e 4=.pointer (some ⟨wg,0,none⟩))
  (lS9:C.leS H9) (hCle:H.le C) (l08:H.le H8) (vtbC:C tb=some (true,.cells #[.chan (some c)] 152 (0,0))) (vvxC:C vx=some (true,smO s.places dv (.slice ha n kc) nv)) (hCwg:C wg=none) :
  wpV Tryz.prog (sndS (sndS (sndS (sndS ((Tryz.f88).body.getD .skip))))) (fun γ e a H'=>γ=.idle/\Bvs Tryz.prog (.wg Tryz.prog) Tryz.f88 (fun e H'=>∃v,e=.returned v/\SlT H' v (Axw s)/\H.le H') e a H') (.busy c wg lk.tWg n 0 ((List.range n).reverse.map (trV s)) false (fun b=>∃o,H8 b=some (true,o))) (act 33 e []) H9:=by
 subst hn
 have ntw:tb≠wg:=fun e=>by rw [e,hCwg] at vtbC;cases vtbC
 have hcl:=fun (m:Nat)=>Bwi (H9.hand wg) c wg tb m (by obtain ⟨p',h1,_⟩:=lS9 _ _ _ vtbC;exact Hp.hand_some h1 ntw)
 show wpV _ (.seq (.region _ _ false) _) _ _ _ _
 refine Ajd (Avg (Bwc rfl rfl (Awr (K:=fun a' H'=>∃e',a'=act 33 e' []/\H9=H'/\e' 18=.func (.func 107) #[] #[.pointer (some ⟨wg,0,none⟩),.pointer (some ⟨tb,0,none⟩)] /\
   e' 1=.pointer (some ⟨vx,0,none⟩)/\e' 3=.pointer (some ⟨tb,0,none⟩)) ?_ ?_)))
 ·unfold opX
  change wpS _ (execOp _ ⟨some 18,.makeFunc (.func 107) #[] #[.tmp 4,.tmp 3],_,_,_,_⟩) _ _ _
  rw [Ayb]
  refine ⟨_,Aq3 (by decide),rfl,?_,e1,e3⟩
  simp only [Axf,↓reduceIte,List.map_toArray,List.map_cons,List.map_nil,Aq7,Nat.reduceLT,Nat.reduceEqDiff,e3,e4]
 ·clear e1 e3 e4
  rintro _ _ ⟨e',rfl,rfl,e18,e1,e3⟩
  refine Cvi rfl rfl (by simp) (fun w hw=>Ck0 (by rw [Aq7 (by decide)];exact e18) w) rfl Hp.hand_lend Hp.lend_own (hcl _) (Bkz ?_)
  have hle10:=lS9.trans (Hp.lend_leS (eb:=wg))
  generalize H9.lend wg=H11 at *
  clear hcl lS9 e18
  show wpV _ _ _ _ (act 33 e' []) _
  obtain ⟨pt,vtb11,_⟩:=hle10 _ _ _ vtbC
  obtain ⟨pv,vvx11,_⟩:=hle10 _ _ _ vvxC
  simp only [smO] at vvx11
  refine Ajd (Awh ?_)
  (refine @unH _ (zA Ayp ?_);(try clear hK K);intro K hK hc)
  refine Bjb underlying101 sizeOf150 zeroValue150 rfl typeInfo150 (by decide) (by decide) _ _ _ (by have:=ok.h0;omega) (by have:=ok.h1;omega) _ _ (fun ob c0 hob hc0=>?_)
  rw [Int.toNat_natCast] at hc0 ⊢
  have hCob:C ob=none:=Bku hle10 hob
  have nob:=Aqr vtb11 hob
  generalize hG:Hp.set H11 ob _=H12
  have vob:=Aqb hG
  have lS12:C.leS H12:=by rw [<-hG];exact hle10.set hCob
  have vtb12:=Aqi hG vtb11 nob
  have hout:OutR s s.hampers.length c0 []:=⟨hc0,fun i hi=>by simp at hi⟩
  clear hG hle10 hob vtb11 vvx11 hc0
  refine hK _ _ ?_
  clear hK K
  (try refine @unH _ (zQ ?_))
  refine Ajd (Ajd (Awh ?_))
  (refine @unH _ (zA Ayp ?_);(try clear hK K);intro K hK hc)
  have hLV0:((List.range s.hampers.length).reverse.map (trV s)).Perm ((List.range s.hampers.length).map (trV s)):=(List.reverse_perm _).map _
  have hlen:(List.range s.hampers.length).length=s.hampers.length:=List.length_range
  generalize hN:s.hampers.length=n at *
  generalize hR0:List.range n=l at *
  generalize (l.reverse.map (trV s))=LV0 at *
  replace hR0:Aqk _:=hR0
  replace hN:Aqk _:=hN
  refine Bz1 (Cx2 (fun w γ a' H'=>∃(e:Nat->Value) (L:List Nat) (LV:List Value) (R:List Nat) (cc:Array Value),w=L.length+1/\γ=.busy c wg lk.tWg n 0 LV true (fun b=>∃o,H8 b=some (true,o))/\LV.Perm (L.map (trV s))/\(R++L).Perm l/\a'=act 33 e []/\e 6=.slice (some ⟨ob,0,none⟩) n n/\e 23=.chan (some c) /\
   C.leS H'/\H' ob=some (true,.cells cc 150 (0,0))/\OutR s n cc R) (n:=n+1) ?_ ?_)
  ·exact ⟨_,l,LV0,[],c0,by rw [hlen],rfl,hLV0,.refl _,rfl,rfl,rfl,lS12,vob,hout⟩
  ·clear e1 e3 lS12 vob hout hLV0 vtb12 nob vtbC vvxC
   rename_i eold
   clear eold
   rintro w γ a' H13 ⟨e,L,LV,R,cc,rfl,rfl,hLV,hperm,rfl,e6,e23,lS13,vob13,hout⟩
   cases L with
   | nil=>
    obtain rfl:LV=[]:=by simpa using hLV
    refine Ajd (Avg (Cvk (z:=.agg (Tryz.zeroCells150)) (fun b=>(H13 b).map fun z=>(z.1 || @decide (∃o,H8 b=some (true,o)) (Classical.propDecidable _),z.2)) rfl rfl (fun w hw=>Bjz (by rw [Aq7 (by decide)];exact e23) underlying152 zeroValue150 w) (fun b p o hb=>?_) (Bjv ?_)))
    ·simp only [Option.map_eq_some_iff] at hb
     obtain ⟨⟨p',o'⟩,h1,h2⟩:=hb
     simp only [Prod.mk.injEq] at h2
     obtain ⟨h2,rfl⟩:=h2
     refine ⟨p',h1,fun hp=>?_⟩
     rw [hp] at h2
     rcases Bool.or_eq_true_iff.1 h2 with h2 | h2
     ·exact .inl h2
     ·exact .inr (@of_decide_eq_true _ (Classical.propDecidable _) h2)
    ·obtain ⟨G',hGe⟩:∃G':Hp,G'=fun b=>(H13 b).map fun z=>(z.1 || @decide (∃o,H8 b=some (true,o)) (Classical.propDecidable _),z.2):=⟨_,rfl⟩
     rw [<-hGe]
     have hback:Aqk (H.le G'):=fun x u hx=>by
      obtain ⟨p,o⟩:=u
      obtain ⟨p',h1,h2⟩:=lS13 _ _ _ (hCle _ _ hx)
      have h8:=l08 _ _ hx
      rw [hGe]
      simp only [h1,Option.map_some,Option.some.injEq,Prod.mk.injEq,and_true]
      cases p with
      | true=>rw [Bool.or_eq_true_iff];exact .inr (@decide_eq_true _ (Classical.propDecidable _) ⟨_,h8⟩)
      | false=>
       rw [Bool.or_eq_false_iff]
       refine ⟨by cases hp:p' with | false=>rfl | true=>exact absurd (h2 hp) (by simp),@decide_eq_false _ (Classical.propDecidable _) (fun ⟨o',h9⟩=>by rw [h8] at h9;cases h9)⟩
     have vobG:G' ob=some (true,.cells cc 150 (0,0)):=by rw [hGe];simp [vob13]
     have hres:SlT G' (.slice (some ⟨ob,0,none⟩) n n) (Axw s):=hout.all ok (show s.hampers.length=n from hN).symm (by rw [List.append_nil] at hperm;rw [show List.range n=l from hR0];exact hperm) vobG
     clear hGe vob13 lS13 hout hperm
     intro K hK
     change runX _ _ _ _ _ _ ((act 33 e []).put (some 24) (.tuple #[.agg (Tryz.zeroCells150),.bool false])) _
     rw [Aq3 (by decide)]
     (refine @unH _ ?_;refine zX Ayp ?_)
     refine hK _ _ ?_
     clear hK K
     (try refine @unH _ (zQ ?_))
     refine Ajd (Bqu (by simp only [Aq7,Axf,Nat.reduceEqDiff,Nat.reduceLT,↓reduceIte, *];rfl) ?_ ?_)<;>intro hc
     ·cases hc
     ·clear hc
      refine Cx1 ?_
      (try refine @unH _ (zQ ?_))
      refine Awh ?_
      (refine @unH _ (zA Ayp ?_);(try clear hK K);intro K hK hc)
      refine Axr ?_
      (try refine @unH _ (zQ ?_))
      refine ⟨by trivial,?_⟩
      rw [Aq8,Ayk results88 (by decide)]
      exact ⟨_,rfl,hres,hback⟩
   | cons q0 L0=>
    have hne:LV≠[]:=fun h=>by rw [h] at hLV;simp at hLV
    refine Ajd (Avg (Cvj (z:=.agg (Tryz.zeroCells150)) rfl rfl hne (fun w hw=>Bjz (by rw [Aq7 (by decide)];exact e23) underlying152 zeroValue150 w) fun v L' hpv=>Bjv ?_))
    obtain ⟨q,L1,rfl,hpq,hL1⟩:∃q L1,v=trV s q/\(q0::L0).Perm (q::L1)/\L'.Perm (L1.map (trV s)):=by
     have hmem:v∈(q0::L0).map (trV s):=(hLV.symm.trans hpv).mem_iff.2 (by simp)
     obtain ⟨q,hq,rfl⟩:=List.mem_map.1 hmem
     have h1:=List.perm_cons_erase hq
     exact ⟨q,_,rfl,h1,(List.perm_cons _).1 (hpv.symm.trans (hLV.trans (h1.map _)))⟩
    have hlen1:(q0::L0).length=L1.length+1:=by rw [hpq.length_eq];rfl
    have hperm':((R++[q])++L1).Perm l:=by
     rw [List.append_assoc]
     exact ((hpq.symm.append_left R)).trans hperm
    have hqn:q<n:=by
     have:q∈l:=hperm'.mem_iff.1 (by simp)
     rw [<-show List.range n=l from hR0] at this
     exact List.mem_range.1 this
    rw [hlen1]
    have hTo:=Awd ok q
    have hTl:=Axt hTo
    have hTx:=Bwt hTo
    have hTq:(Axc (Az0 s q))[0]?=some (.int .i64 (q:Nat)):=rfl
    have hput:=hout.put ok hqn
    have hcs:=hout.size
    have hTr:trV s q=.agg (Axc (Az0 s q)).toArray:=rfl
    rw [hTr]
    have hTone:(Axc (Az0 s q)).all one=true:=by rw [List.all_eq_true];exact Bqt _
    generalize Axc (Az0 s q)=TC at *
    clear hperm hLV hpq hpv hlen1 hTr
    replace hcs:Aqk _:=hcs
    replace hR0:Aqk _:=hR0
    intro K hK
    change runX _ _ _ _ _ _ ((act 33 e []).put (some 24) (.tuple #[.agg TC.toArray,.bool true])) _
    rw [Aq3 (by decide)]
    (refine @unH _ ?_;refine zX Ayp ?_)
    refine hK _ _ ?_
    clear hK K
    (try refine @unH _ (zQ ?_))
    refine Ajd (Bqu (by simp only [Aq7,Axf,Nat.reduceEqDiff,Nat.reduceLT,↓reduceIte, *];rfl) ?_ ?_)<;>intro hc
    ·clear hc
     refine Cx3 ?_
     (try refine @unH _ (zQ ?_))
     refine Awh ?_
     (refine @unH _ (zA Ayp ?_);(try clear hK K);intro K hK hc)
     intro xb hxb
     have nox:=Aqr vob13 hxb
     rw [Djh hTl hTone Axh rfl,Awb]
     generalize hG:Hp.set H13 xb _=H14
     have vxb:=Aqb hG
     have vob14:=Aqi hG vob13 nox
     have lS14:C.leS H14:=by rw [<-hG];exact lS13.set (Bku lS13 hxb)
     clear hG vob13 lS13 hxb
     refine hK _ _ ?_
     clear hK K
     (try refine @unH _ (zQ ?_))
     (refine @unH _ (zA Ayp ?_);(try clear hK K);intro K hK hc)
     rw [Aj9 (c:=cc) (e:=150) (by intro h;rw [h] at hTl;simp at hTl) vob14]
     refine ⟨hTone,by rw [hTl,show cc.size=n*326 from hcs];omega,?_⟩
     refine hK _ _ ?_
     clear hK K
     (try refine @unH _ (zQ ?_))
     refine ⟨L1.length+1,by omega,_,L1,L',R++[q],_,rfl,rfl,hL1,hperm',rfl,e6,e23,fun b p o hb=>?_,Axh,hput⟩
     rw [Aqv (fun h=>by rw [h,hCob] at hb;cases hb)]
     exact lS14 b p o hb
    ·cases hc
end Go.Proofs.YtaehjjbekjglkaaGreatDoor
end
section
namespace Go.Proofs.YtaehjjbekjglkaaGreatDoor
open Go Go.X Go.Proofs.Tryz
def Awj:=aN @Bx5 (aN (fun H=>Bq2 (H:=H) underlying152 typeInfo150 (by decide)) (aN @Dyu (aN (fun H=>Bq5 (H:=H) sizeOf152) (aN @Dyv (aN @Dwk (aN @Dw0 (aN @Dv5 (aN @Dyy (aN @Dy5 (aN @Dwy (aN @Dyt (aN @Dyg (aN @Dwg (aN @Dw2 (aN @Dw7 @Dyn)))))))))))))))
open Go.Conc (G baseD rcase scase)
def Bxf (H:Hp):Hp:=fun b=>(H b).map fun q=>(false,q.2)
theorem Awm {H:Hp} {b:Nat} {p:Bool} {o:Obj} (h:H b=some (p,o)):Bxf H b=some (false,o):=by simp [Bxf,h]
theorem Czw {H:Hp}:∀b p o,Bxf H b=some (p,o)->p=false/\Bxf H b=some (false,o):=fun b p o h=>by
 have h':=h
 unfold Bxf at h
 simp only [Option.map_eq_some_iff,Prod.mk.injEq] at h
 obtain ⟨q,h1,h2,h3⟩:=h
 exact ⟨h2.symm,by rw [h',<-h2]⟩
theorem Ck2 {H:Hp}:∀b p o,Bxf H b=some (p,o)->∃p',H b=some (p',o)/\(p=true->p'=true):=fun b p o h=>by
 unfold Bxf at h
 simp only [Option.map_eq_some_iff,Prod.mk.injEq] at h
 obtain ⟨⟨p',o'⟩,h1,h2,h3⟩:=h
 simp only at h2 h3
 subst h2 h3
 exact ⟨p',h1,fun h=>by cases h⟩
theorem Ck1 {H:Hp}:H.leS (Bxf H):=fun b p o h=>⟨false,Awm h,fun h=>by cases h⟩
theorem SmIn.cl {H H':Hp} {dv hv nv:Value} {s:Sm} (h:SmIn H dv hv nv s) (hl:Bw1 H H'):SmIn H' dv hv nv s:=
 ⟨h.dd.move fun x p c fr hx=>hl x p c _ fr hx,SlI.cl h.hh hl,h.nn.move fun x p c fr hx=>hl x p c _ fr hx⟩
theorem Ayn (H:Hp) (s:Sm) (dv hv nv:Value) (hs:SmIn H dv hv nv s) (ok:SmOk s) :
  FnX Tryz.prog (.wg Tryz.prog) 88 #[smV s.places dv hv nv] H fun e H'=>∃v,e=.returned v/\SlT H' v (Axw s)/\H.le H':=by
 obtain ⟨da,dc,ha,kc,na,nc,rfl,rfl,rfl,l1,l2,l3⟩:=hs.forms
 refine Aqn func88 rfl ntmps88 (by simp) ?_
 (refine @unH _ (zA Awj ?_);(try clear hK K);intro K hK hc)
 (intro vx hvx;generalize hG:Hp.set _ vx _=H4;have lH4:=Aqc hG hvx;have vvx:=Aqb hG;clear hG)
 have l04:=lH4
 clear hvx lH4
 (refine @unH _ (zU Awj ?_);(try clear hK K);intro K hK hc)
 intro c hc0 tb htb
 replace htb:(Hp.set H4 c _) tb=none:=htb
 generalize hG:Hp.set H4 c _=H5 at htb ⊢
 have lH5:=Aqc hG hc0
 have vc5:=Aqb hG
 clear hG
 (refine @unH _ (zU (aN Awj @cells_chan) ?_);(try clear hK K);intro K hK hc)
 intro wg hwg
 replace hwg:(Hp.set H5 tb (.cells #[.chan (some c)] 152 (0,0))) wg=none:=hwg
 generalize hG:Hp.set H5 tb _=H6 at hwg ⊢
 have lH6:=Aqc hG htb
 have vtb6:=Aqb hG
 clear hG
 have vc6:=lH6 _ _ vc5
 have nct:c≠tb:=Aqr vc5 htb
 have l46:=Hp.le_trans lH5 lH6
 have h4c:=hc0
 have h4tb:H4 tb=none:=Hp.le_none lH5 htb
 clear lH5 lH6 vc5 hc0 htb
 generalize hG:Hp.set H6 wg _=H8
 have lH8:=Aqc hG hwg
 have vwg:=Aqb hG
 clear hG
 have vwg8:H8 wg=some (true,wgO lk.tWg 0 0):=vwg
 have vc8:=lH8 _ _ vc6
 have vtb8:=lH8 _ _ vtb6
 have l48:=Hp.le_trans l46 lH8
 have l08:=Hp.le_trans l04 l48
 have ncw:c≠wg:=Aqr vc6 hwg
 have ntw:tb≠wg:=Aqr vtb6 hwg
 have n4:∀b x,H4 b=some x->b≠c/\b≠tb/\b≠wg:=fun b x hx=>⟨Aqr hx h4c,Aqr hx h4tb,Aqr (l46 _ _ hx) hwg⟩
 have vvx8:=l48 _ _ vvx
 obtain ⟨nvc,nvt,nvw⟩:=n4 _ _ vvx
 have n0:∀b x,H b=some x->b≠c/\b≠wg:=fun b x hx=>⟨(n4 _ _ (l04 _ _ hx)).1,(n4 _ _ (l04 _ _ hx)).2.2⟩
 clear vwg lH8 hwg vc6 vtb6 l46 vvx n4 h4c h4tb l48
 refine hK _ _ ?_
 clear hK K
 (try refine @unH _ (zQ ?_))
 refine Bwz ?_
 refine Cjt (fun e=>e 1=.pointer (some ⟨vx,0,none⟩)/\e 3=.pointer (some ⟨tb,0,none⟩)/\e 4=.pointer (some ⟨wg,0,none⟩)) ⟨rfl,rfl,rfl⟩ ?_
 rintro e ⟨e1,e3,e4⟩
 refine Djl (fun b=>∃o,H8 b=some (true,o)) vc8 vwg8 (fun _ h=>h) ?_
 have hdel:∀b,b≠c->b≠wg->((H8.del c).del wg) b=H8 b:=fun b hb hb2=>by unfold Hp.del;rw [if_neg hb2,if_neg hb]
 have hCwg:((H8.del c).del wg) wg=none:=Hp.del_same _ _
 have hCle:H.le ((H8.del c).del wg):=fun x u hx=>by rw [hdel x (n0 _ _ hx).1 (n0 _ _ hx).2];exact l08 _ _ hx
 have vvxC:=(hdel vx nvc nvw).trans vvx8
 have vtbC:=(hdel tb nct.symm ntw).trans vtb8
 generalize (H8.del c).del wg=C at *
 clear vvx8 vtb8 vc8 vwg8 hdel
 refine Ajd (Ajd (Awh ?_))
 (refine @unH _ (zA Awj ?_);(try clear hK K);intro K hK hc)
 refine Bz1 (Cx2 (fun w γ a' H'=>∃e i,w=s.hampers.length-i/\i<=s.hampers.length/\γ=.busy c wg lk.tWg i 0 ((List.range i).reverse.map (trV s)) false (fun b=>∃o,H8 b=some (true,o))/\a'=act 33 e [] /\
  e 1=.pointer (some ⟨vx,0,none⟩)/\e 3=.pointer (some ⟨tb,0,none⟩)/\e 4=.pointer (some ⟨wg,0,none⟩)/\e 11=.int .i64 s.hampers.length/\e 12=.int .i64 (i:Nat)/\C.leS H') (n:=s.hampers.length) ?_ ?_)
 ·exact ⟨_,0,by omega,by omega,rfl,rfl,e1,e3,e4,rfl,rfl,Hp.leS.refl⟩
 ·have hs0:=hs
  clear e1 e3 e4 hs
  rintro w γ a' H9 ⟨e,i,rfl,hi,rfl,rfl,e1,e3,e4,e11,e12,lS9⟩
  refine Ajd (Awh ?_)
  (refine @unH _ (zA Awj ?_);(try clear hK K);intro K hK hc)
  refine Ajd (Bqu (by simp only [Aq7,Axf,Nat.reduceEqDiff,Nat.reduceLT,↓reduceIte, *];rfl) ?_ ?_)<;>intro hc
  ·have hlt:i<s.hampers.length:=by simpa using hc
   clear hc
   refine Cx3 ?_
   (try refine @unH _ (zQ ?_))
   refine Ajd (Bz1 (Ajd (Awh ?_)))
   (refine @unH _ (zA Awj ?_);(try clear hK K);intro K hK hc)
   intro pb hpb
   (refine @unH _ (zU Awj ?_);(try clear hK K);intro K hK hc)
   obtain ⟨H10,hG⟩:∃H10,H10=H9.set pb (.cells #[.int .i64 i] 3 (0,0)):=⟨_,rfl⟩
   rw [<-hG]
   have vpb:=Aqb hG.symm
   have lS10:C.leS H10:=by rw [hG];exact lS9.set (Bku lS9 hpb)
   have hn3:=ok.h1
   clear hG lS9 hpb
   refine Ajd (Avg (Dqm wgLib rfl rfl rfl (by rw [Aq7 (by decide)];exact e4) rfl (by omega) (Bkz ?_)))
   show wpV _ _ _ _ ((act 33 _ []).put (some 15) _) _
   rw [Aq3 (by decide)]
   have hcl:Bw1 H (Bxf H10):=fun b p c t fr hb=>by
    obtain ⟨p',h1,_⟩:=lS10 _ _ _ (hCle _ _ hb)
    exact ⟨false,Awm h1⟩
   have hfix:∀b p c t fr,C b=some (p,.cells c t fr)->(Bxf H10) b=some (false,.cells c t fr):=fun b p c t fr hb=>by
    obtain ⟨p',h1,_⟩:=lS10 _ _ _ hb
    exact Awm h1
   have hch:=Bws (Bxf H10) c wg tb vx pb s _ _ _ i _ (hfix _ _ _ _ _ vvxC) (Awm vpb) (hfix _ _ _ _ _ vtbC) (hs0.cl hcl) ok (List.getElem?_eq_getElem hlt)
   refine Avg (Bwc rfl rfl (Awr (K:=fun a' H'=>∃e',a'=act 33 e' []/\H10=H'/\e' 16=.func (.func 104) #[] #[.pointer (some ⟨wg,0,none⟩),.pointer (some ⟨tb,0,none⟩),.pointer (some ⟨vx,0,none⟩),.pointer (some ⟨pb,0,none⟩)] /\
    e' 1=.pointer (some ⟨vx,0,none⟩)/\e' 3=.pointer (some ⟨tb,0,none⟩)/\e' 4=.pointer (some ⟨wg,0,none⟩)/\e' 11=.int .i64 s.hampers.length/\e' 12=.int .i64 (i:Nat)) ?_ ?_))
   ·unfold opX
    change wpS _ (execOp _ ⟨some 16,.makeFunc (.func 104) #[] #[.tmp 4,.tmp 3,.tmp 1,.tmp 5],_,_,_,_⟩) _ _ _
    rw [Ayb]
    refine ⟨_,Aq3 (by decide),rfl,?_,e1,e3,e4,e11,e12⟩
    simp only [Axf,↓reduceIte,List.map_toArray,List.map_cons,List.map_nil,Aq7,Nat.reduceLT,Nat.reduceEqDiff,e1,e3,e4]
   ·clear e1 e3 e4 e11 e12
    rintro _ _ ⟨e',rfl,rfl,e16,e1,e3,e4,e11,e12⟩
    refine Djd rfl rfl (fun w hw=>Ck0 (by rw [Aq7 (by decide)];exact e16) w) rfl Czw Ck2 hch (Bkz ?_)
    show blk 1 _ .normal (act 33 e' []) _
    (try refine @unH _ (zQ ?_))
    refine Awh ?_
    have hle10:=lS10.trans Ck1
    generalize Bxf H10=H11 at *
    clear hch hfix hcl vpb lS10
    (refine @unH _ (zA Awj ?_);(try clear hK K);intro K hK hc)
    refine ⟨_,by omega,_,i+1,rfl,hlt,?_,rfl,e1,e3,e4,e11,rfl,hle10⟩
    rw [List.range_succ,List.reverse_append]
    rfl
  ·have hge:¬i<s.hampers.length:=by simpa using hc
   obtain rfl:i=s.hampers.length:=by omega
   refine Cx1 ?_
   (try refine @unH _ (zQ ?_))
   exact Cqm H H8 C H9 c wg tb vx s ok _ rfl _ _ ha kc _ e1 e3 e4 lS9 hCle l08 vtbC vvxC hCwg
end Go.Proofs.YtaehjjbekjglkaaGreatDoor
end
section
namespace Go.X
open Go
theorem Cz0 {P:Program} {H:Hp} {t e:TypeId} {N:Nat} {d:TypeDesc} (hu:P.underlying t=some (.array N e)) (hue:P.underlying e=some d) (hd:aggB d=true) {n:Nat} (hs:∀w,(sizeOf e).run P w=.ok n w) (cs:Array Value) (k:IntKind) (i:Int) (K:Value->Hp->Prop) (E:Value->Hp->Prop) (h0:0<=i) (h1:i<N) :
  wpS P (Instr.index t (.agg cs) (.int k i)) H K E=K (.agg (cs.extract (i.toNat*n) (i.toNat*n+n))) H:=by
 unfold Instr.index
 rw [Aqa]
 simp only [asIntOf,Aqf]
 simp only [Aqa,Aqj hu,Aqf,h0,h1,and_self,if_true,Aq0 hs,Bxp hue hd hs]
theorem Cz1 {P:Program} {H:Hp} {t e:TypeId} {N:Nat} {d:TypeDesc} (hu:P.underlying t=some (.array N e)) (hue:P.underlying e=some d) (hd:aggB d=false) (hs:∀w,(sizeOf e).run P w=.ok 1 w) (cs:Array Value) (k:IntKind) (i:Int) (K:Value->Hp->Prop) (E:Value->Hp->Prop) (h0:0<=i) (h1:i<N) :
  wpS P (Instr.index t (.agg cs) (.int k i)) H K E=∃v,cs[i.toNat]?=some v/\K v H:=by
 unfold Instr.index
 rw [Aqa]
 simp only [asIntOf,Aqf]
 simp only [Aqa,Aqj hu,Aqf,h0,h1,and_self,if_true,Aq0 hs,Nat.mul_one]
 cases hc:cs[i.toNat]? with
 | some v=>rw [Aqm hue hd cs _ hc];simp
 | none=>
  unfold part
  rw [Aqa,Akp hue,hd]
  simp [hc]
  exact fun h=>h
end Go.X
namespace Go.Proofs.YtaehjjbekjglkaaGreatDoor
open Go Go.X Go.Proofs.Tryz
def Bvg:=aN @Dyy (aN @Dy5 (aN @Bx1 @Dw2))
def Avu:=aN (fun H=>Aq9 (H:=H) underlying101) (aN @Dyn (aN @Dw7 (aN @Dyt (aN @Dyg (aN @Dwh (aN (fun H=>Aqp (H:=H) underlying148 rfl sizeOf148) (aN (fun H=>Cz0 (H:=H) underlying148 underlying110 rfl sizeOf110) (aN (fun H=>Aqu (H:=H) (P:=Tryz.prog) (h:=zeroValue110)) (aN (fun H=>Aqs (H:=H) sizeOf110) (aN @Dwd (aN @Dw3 (aN @Dwg (aN @Dw2 @Dw6)))))))))))))
def Bxt:=aN @Dww (aN @Dw6 (aN @Dw2 @Dy5))
theorem Bwq {H:Hp} {b:Nat} {l:List Value} {c:Array Value} {e:TypeId} {K:Hp->Prop} (hl:l≠[]) (h1:l.all one=true) (hb:H b=some (true,.cells c e (0,0))) (hs:c.size=l.length):Akm H b 0 l K=K (H.set b (.cells l.toArray e (0,0))):=by
 rw [Aj9 (c:=c) (e:=e) hl hb]
 have ho:over c 0 l=l.toArray:=by
  obtain ⟨l'⟩:=c
  exact Ay6 (by simpa using hs.symm)
 rw [ho,h1]
 simp [hs]
theorem SlT.get {H:Hp} {a:Option Addr} {n cap:Nat} {l:List Trail} (h:SlT H (.slice a n cap) l) {i:Nat} {t:Trail} (hi:l[i]?=some t) :
  ∃b o p c fr,a=some ⟨b,o,none⟩/\H b=some (p,.cells c 150 fr)/\o+i*326+326<=c.size/\c.extract (o+i*326) (o+i*326+326)=(Axc t).toArray:=by
 obtain ⟨b,o,p,c,fr,h1,h2,h3,h4,h5⟩:=SlG.get h (i:=i) (r:=Axc t) (by simp [hi])
 exact ⟨b,o,p,c,fr,h1,h2,h3,h5⟩
theorem SlT.isSlice {H:Hp} {v:Value} {l:List Trail} (h:SlT H v l):∃a cap,v=.slice a l.length cap/\l.length<=cap:=by
 obtain ⟨a,cap,h1,h2,_⟩:=h
 exact ⟨a,cap,by simpa using h1,by simpa using h2⟩
theorem SlT.move {H H':Hp} {v:Value} {l:List Trail} (h:SlT H v l) (hl:∀x p c fr,H x=some (p,.cells c 150 fr)->∃p',H' x=some (p',.cells c 150 fr)):SlT H' v l:=SlG.move h hl
theorem SlT.le {H H':Hp} {v:Value} {l:List Trail} (h:SlT H v l) (hl:H.le H'):SlT H' v l:=SlG.le h hl
theorem Cy8 {t:Trail} (ht:Ax3 t) {h:Nat} {x:Hint} (hx:t.hs[h]?=some x):((Axc t).toArray.extract 1 326).extract (h*25) (h*25+25)=(Axv x).toArray:=by
 have hr:=HR.refl ht hx
 have hh:h<13:=by have:=(List.getElem?_eq_some_iff.1 hx).1;rw [ht.l] at this;exact this
 have hl:=Axt ht
 have hxl:=Ax0 (ht.k x (List.mem_of_getElem? hx))
 rw [Array.extract_extract]
 apply Array.ext_getElem?
 intro k
 by_cases hk:k<25
 ·rw [Array.getElem?_extract,if_pos (by simp [hl];omega),hr.inn k hk]
  simp
 ·rw [Array.getElem?_eq_none (by rw [Array.size_extract];simp [hl];omega),Array.getElem?_eq_none (by simp;omega)]
structure HCl (P:Program) (main:Md) (y:Value) (A:Int->Int->Hint->Prop) (S:Nat->Prop) (T:List (Int×Int×Hint)->Hp->Prop):Prop where
 keep:∀L H H',T L H->H.le H'->T L H'
 ex:∀L H b,T L H->S b->H b≠none
 call:∀L H ham hour x,T L H->Axo x->A ham hour x->Ajn P main y #[.int .i64 ham,.int .i64 hour,.agg (Axv x).toArray] H fun e H'=>e=.returned (.tuple #[])/\T (L++[(ham,hour,x)]) H'/\∀b x,¬S b->H b=some x->H' b=some x
def Avr (t:Trail) (n:Nat):List (Int×Int×Hint):=(((t.hs.take n).zipIdx).filter fun x=>x.1.some).map fun x=>(t.ham,(x.2:Int),x.1)
theorem Cjn {t:Trail} {n:Nat} {x:Hint} (hx:t.hs[n]?=some x):Avr t (n+1)=Avr t n++if x.some then [(t.ham,(n:Int),x)] else []:=by
 have hn:n<t.hs.length:=(List.getElem?_eq_some_iff.1 hx).1
 unfold Avr
 rw [List.take_add_one,hx,Option.toList_some,List.zipIdx_append,List.filter_append,List.map_append]
 congr 1
 have hl:(t.hs.take n).length=n:=by rw [List.length_take];omega
 rw [hl]
 cases hs:x.some with
 | true=>simp [hs]
 | false=>simp [hs]
theorem Cv7 {t:Trail} {n:Nat} (h:t.hs.length<=n):Avr t n=Bzw t:=by
 unfold Avr Bzw
 rw [List.take_of_length_le h]
theorem Cjm (l:List Trail) {k:Nat} {t:Trail} (h:l[k]?=some t):Az7 (l.take (k+1))=Az7 (l.take k)++Bzw t:=by
 unfold Az7
 rw [List.take_add_one,h,Option.toList_some,List.flatMap_append]
 simp
theorem Awo (main:Md) {A:Int->Int->Hint->Prop} {S:Nat->Prop} {T:List (Int×Int×Hint)->Hp->Prop} {yf:Fn} {yi yc:Array Value} (hC:HCl Tryz.prog main (.func yf yi yc) A S T) (H:Hp) (v:Value) (l:List Trail) (hrd:∀L H',T L H'->(∀b x,¬S b->H b=some x->H' b=some x)->SlT H' v l) (hok:∀t∈l,Ax3 t) (hA:∀t∈l,∀(h:Nat) x,t.hs[h]?=some x->x.some=true->A t.ham h x) (hl:l.length<=1000) (L0:List (Int×Int×Hint)) (hT:T L0 H) :
  FnX Tryz.prog main 77 #[v,.func yf yi yc] H fun e H'=>e=.returned (.tuple #[])/\T (L0++Az7 l) H'/\∀b x,¬S b->H b=some x->H' b=some x:=by
 have hv:=hrd _ _ hT fun _ _ _ hx=>hx
 obtain ⟨a,cap,rfl,hcap⟩:=hv.isSlice
 clear hv
 refine Aqn func77 rfl ntmps77 (by simp) ?_
 (refine @unH _ (zA Avu ?_);(try clear hK K);intro K hK hc)
 refine Axg (fun w a' H'=>∃e,∃k:Nat,w=l.length-k/\k<=l.length/\a'=act 30 e []/\e 1=.func yf yi yc/\e 8=.slice a l.length cap/\e 9=.int .i64 l.length/\e 10=.int .i64 (k:Nat)/\T (L0++Az7 (l.take k)) H'/\∀b x,¬S b->H b=some x->H' b=some x) (n:=l.length) ?_ ?_
 ·exact ⟨_,0,by omega,by omega,rfl,rfl,rfl,rfl,rfl,by simpa [Az7] using hT,fun _ _ _ hx=>hx⟩
 ·rintro w a' H1 ⟨e,k,rfl,hk,rfl,e1,e8,e9,e10,hT1,hfr1⟩
  by_cases hlt:k<l.length
  ·have hkt:=List.getElem?_eq_getElem hlt
   have htok:=hok _ (List.getElem_mem hlt)
   have htA:=hA _ (List.getElem_mem hlt)
   generalize l[k]=t at *
   obtain ⟨b,o,p,c,fr,rfl,hb1,hcs,hce⟩:=(hrd _ _ hT1 hfr1).get hkt
   have hsu:=Cjm l hkt
   have hTl:=Axt htok
   have hTone:(Axc t).all one=true:=by rw [List.all_eq_true];exact Bqt t
   have hTne:Axc t≠[]:=fun h=>by rw [h] at hTl;simp at hTl
   have hT0:(Axc t)[0]?=some (.int .i64 t.ham):=rfl
   have hho:=fun (i:Nat) (x:Hint) hx=>Cy8 htok (h:=i) (x:=x) hx
   have hTx:∀i,i<=13->((Axc t).toArray.extract 1 326).size=325:=fun i _=>by rw [Array.size_extract];simp [hTl]
   generalize Axc t=TC at *
   replace hsu:Aqk _:=hsu
   replace hT1:Aqk _:=hT1
   replace hfr1:Aqk _:=hfr1
   (refine @unH _ (zA Avu ?_);(try clear hK K);intro K hK hc)
   intro xb hxb
   rw [Bwq hTne hTone Axh (by rw [hTl];rfl),Awb]
   have nSx:¬S xb:=fun h=>hC.ex _ _ _ hT1 h hxb
   have h0xb:H xb=none:=by
    cases h:H xb with
    | none=>rfl
    | some z=>have:=(show ∀b x,¬S b->H b=some x->H1 b=some x from hfr1) _ _ nSx h;rw [hxb] at this;cases this
   generalize hG:Hp.set H1 xb _=H2
   have vxb:=Aqb hG
   have hT2:T (L0++Az7 (l.take k)) H2:=hC.keep _ _ _ hT1 (Aqc hG hxb)
   have hfr2:∀b x,¬S b->H b=some x->H2 b=some x:=fun b x hb hx=>Aqi hG ((show ∀b x,¬S b->H b=some x->H1 b=some x from hfr1) b x hb hx) (fun e=>by rw [e,h0xb] at hx;cases hx)
   clear hG hb1 hcs hce hxb hT1 hfr1
   refine hK _ _ ?_
   clear hK K
   (try refine @unH _ (zQ ?_))
   (refine @unH _ (zA Avu ?_);(try clear hK K);intro K hK hc)
   obtain ⟨AA,hAA⟩:∃AA,AA=TC.toArray.extract 1 326:=⟨_,rfl⟩
   have hAv:Value.agg (TC.toArray.extract 1 326)=.agg AA:=by rw [hAA]
   rw [<-hAA] at hho
   replace hAA:Aqk _:=hAA
   refine Axg (fun w a' H'=>∃e,∃h:Nat,w=13-h/\h<=13/\a'=act 30 e []/\e 1=.func yf yi yc/\e 5=.pointer (some ⟨xb,0,none⟩)/\e 8=.slice (some ⟨b,o,none⟩) l.length cap/\e 9=.int .i64 l.length/\e 10=.int .i64 (k:Nat)/\e 15=.agg AA/\e 16=.int .i64 (h:Nat)/\T (L0++(Az7 (l.take k)++Avr t h)) H'/\(∀b x,¬S b->H b=some x->H' b=some x)/\H' xb=some (true,.cells TC.toArray 150 (0,0))) (n:=13) ?_ ?_
   ·refine ⟨_,0,by omega,by omega,rfl,e1,rfl,e8,e9,e10,?_,rfl,by simpa [Avr] using hT2,hfr2,vxb⟩
    rw [<-hAv,List.extract_toArray,List.extract_eq_take_drop];rfl
   ·clear hAv hTx hT2 hfr2 vxb e1 e8 e9 e10
    rintro w a' H3 ⟨e,h,rfl,hh,rfl,e1,e5,e8,e9,e10,e15,e16,hT3,hfr3,vx3⟩
    by_cases hh13:h<13
    ·obtain ⟨x,hx⟩:∃x,t.hs[h]?=some x:=⟨_,List.getElem?_eq_getElem (by rw [htok.l];exact hh13)⟩
     have hxo:=htok.k x (List.mem_of_getElem? hx)
     have hxe:=hho h x hx
     have hsn:=Cjn hx
     have hHl:=Ax0 hxo
     have hHone:(Axv x).all one=true:=by rw [List.all_eq_true];exact Bza x
     have hHne:Axv x≠[]:=fun h=>by rw [h] at hHl;simp at hHl
     have hH24:=Cxm hxo
     have hcall:=fun H' hT' hs'=>hC.call (L0++(Az7 (l.take k)++Avr t h)) H' t.ham h x hT' hxo (htA h x hx hs')
     have hHx:(Axv x).toArray.extract 0 25=(Axv x).toArray:=by
      rw [List.extract_toArray,List.extract_eq_take_drop,List.drop_zero,List.take_of_length_le (by omega)]
     generalize Axv x=HC at *
     replace hsn:Aqk _:=hsn
     replace hT3:Aqk _:=hT3
     replace hfr3:Aqk _:=hfr3
     replace hcall:Aqk _:=hcall
     clear hho
     (refine @unH _ (zA Avu ?_);(try clear hK K);intro K hK hc)
     intro yb hyb
     have nxy:=Aqr vx3 hyb
     have nSy:¬S yb:=fun h=>hC.ex _ _ _ hT3 h hyb
     have h0yb:H yb=none:=by
      cases h:H yb with
      | none=>rfl
      | some z=>have:=(show ∀b x,¬S b->H b=some x->H3 b=some x from hfr3) _ _ nSy h;rw [hyb] at this;cases this
     rw [Bwq hHne hHone Axh (by rw [hHl];rfl),Awb]
     generalize hG:Hp.set H3 yb _=H4
     have vyb:=Aqb hG
     have vx4:=Aqi hG vx3 nxy
     have hT4:Aqk (T (L0++(Az7 (l.take k)++Avr t h)) H4):=hC.keep _ _ _ hT3 (Aqc hG hyb)
     have hfr4:Aqk (∀b x,¬S b->H b=some x->H4 b=some x):=fun b x hb hx=>Aqi hG ((show ∀b x,¬S b->H b=some x->H3 b=some x from hfr3) b x hb hx) (fun e=>by rw [e,h0yb] at hx;cases hx)
     clear hG hyb hT3 hfr3 hxe vx3
     refine hK _ _ ?_
     clear hK K
     (try refine @unH _ (zQ ?_))
     cases hxs:x.some with
     | false=>
      rw [hxs] at hH24 hsn
      replace hsn:Aqk (Avr t (h+1)=Avr t h):=show Avr t (h+1)=Avr t h from Eq.trans hsn (by simp)
      (refine @unH _ (zA Avu ?_);(try clear hK K);intro K hK hc)
      exact ⟨_,by omega,_,h+1,rfl,by omega,rfl,e1,e5,e8,e9,e10,e15,rfl,by rw [show Avr t (h+1)=_ from hsn];exact hT4,hfr4,vx4⟩
     | true=>
      rw [hxs] at hH24 hsn
      replace hsn:Aqk (Avr t (h+1)=Avr t h++[(t.ham,(h:Int),x)]):=show Avr t (h+1)=Avr t h++[(t.ham,(h:Int),x)] from Eq.trans hsn (by simp)
      (refine @unH _ (zA Avu ?_);(try clear hK K);intro K hK hc)
      refine Ajn.use ((show ∀H',T _ H'->x.some=true->_ from hcall) H4 hT4 hxs) ?_
      rintro _ H5 ⟨rfl,hT5,hfr5⟩
      have vx5:=hfr5 _ _ nSx vx4
      replace hT5:Aqk _:=hT5
      replace hfr5:Aqk _:=hfr5
      clear hcall vyb vx4
      (refine @unH _ (zU Avu ?_);(try clear hK K);intro K hK hc)
      refine ⟨_,by omega,_,h+1,rfl,by omega,rfl,e1,e5,e8,e9,e10,e15,rfl,?_,fun b x hb hx=>(show ∀b x,¬S b->H4 b=some x->H5 b=some x from hfr5) b x hb ((show ∀b x,¬S b->H b=some x->H4 b=some x from hfr4) b x hb hx),vx5⟩
      rw [show Avr t (h+1)=_ from hsn,<-List.append_assoc (Az7 _),<-List.append_assoc L0]
      exact hT5
    ·obtain rfl:h=13:=by omega
     rw [Cv7 (by rw [htok.l];exact Nat.le_refl _),<-show Az7 (l.take (k+1))=_ from hsu] at hT3
     replace hT3:Aqk _:=hT3
     replace hfr3:Aqk _:=hfr3
     (refine @unH _ (zA Avu ?_);(try clear hK K);intro K hK hc)
     exact ⟨_,by omega,_,k+1,rfl,by omega,rfl,e1,e8,e9,rfl,hT3,hfr3⟩
  ·obtain rfl:k=l.length:=by omega
   rw [List.take_length] at hT1
   replace hT1:Aqk _:=hT1
   replace hfr1:Aqk _:=hfr1
   (refine @unH _ (zA Avu ?_);(try clear hK K);intro K hK hc)
   (refine @unH _ ?_;refine zD results77 ?_)
   exact ⟨rfl,hT1,hfr1⟩
def IsF (P:Program) (main:Md) (H:Hp) (v:Value) (q:Hint->Bool):Prop:=∀(H':Hp) (x:Hint),H.le H'->Axo x->Ajn P main v #[.agg (Axv x).toArray] H' fun e H''=>e=.returned (.bool (q x))/\H'.le H''
def cntL (q:Hint->Bool) (L:List (Int×Int×Hint)):Nat:=(L.filter fun x=>q x.2.2).length
theorem Ckj (q:Hint->Bool) (L:List (Int×Int×Hint)) (x:Int×Int×Hint):cntL q (L++[x])=cntL q L+if q x.2.2 then 1 else 0:=by
 unfold cntL
 rw [List.filter_append,List.length_append]
 congr 1
 by_cases h:q x.2.2<;>simp [h]
theorem Dzv (q:Hint->Bool) (L:List (Int×Int×Hint)):cntL q L<=L.length:=List.length_filter_le _ _
theorem Bzx:∀(l:List Trail),(∀t∈l,Ax3 t)->(Az7 l).length<=13*l.length
 | [],_=>by simp [Az7]
 | t::l,h=>by
  have h1:=Bzx l (fun x hx=>h x (List.mem_cons_of_mem _ hx))
  have h2:(Bzw t).length<=13:=by
   unfold Bzw
   rw [List.length_map]
   refine Nat.le_trans (List.length_filter_le _ _) ?_
   rw [List.length_zipIdx,(h t List.mem_cons_self).l]
   exact Nat.le_refl _
  unfold Az7 at *
  rw [List.flatMap_cons,List.length_append,List.length_cons]
  omega
theorem Cj1 (main:Md) (H:Hp) (x:Hint) (hx:Axo x) :
  FnX Tryz.prog main 72 #[.agg (Axv x).toArray] H fun e H'=>e=.returned (.bool true)/\H.le H':=by
 refine Aqn func72 rfl ntmps72 (by simp) ?_
 (refine @unH _ (zA trivial ?_);(try clear hK K);intro K hK hc)
 (intro b hb;generalize hG:Hp.set _ b _=H1;have lH1:=Aqc hG hb;have vb:=Aqb hG;clear hG)
 (refine @unH _ (zU trivial ?_);(try clear hK K);intro K hK hc)
 (refine @unH _ ?_;refine z9 results72 ?_)
 exact ⟨trivial,lH1⟩
theorem Cy9 {main:Md} {H:Hp} {f:FuncId} {q:Hint->Bool} (hc:∀(args:Array Value) (H:Hp) (K:Next->Hp->Prop) (E:Value->Hp->Prop),wpS Tryz.prog (callFunc f args) H K E=K (.enter f args) H) (h:∀H' x,H.le H'->Axo x->FnX Tryz.prog main f #[.agg (Axv x).toArray] H' fun e H''=>e=.returned (.bool (q x))/\H'.le H'') :
  IsF Tryz.prog main H (.func (.func f) #[] #[]) q:=fun H' x hl hx K E h1 _=>by
 show wpS Tryz.prog (callFunc f (#[]++#[.agg (Axv x).toArray]++#[])) H' K E
 rw [hc]
 exact h1 _ _ _ (h H' x hl hx).runs
theorem Ajn.fn {P:Program} {main:Md} {f:FuncId} {fi cap args:Array Value} {H:Hp} {R:Ending->Hp->Prop} (hc:∀(args:Array Value) (H:Hp) (K:Next->Hp->Prop) (E:Value->Hp->Prop),wpS P (callFunc f args) H K E=K (.enter f args) H) (h:FnX P main f (fi++args++cap) H R):Ajn P main (.func (.func f) fi cap) args H R:=fun K E h1 _=>by
 rw [Bjl,hc]
 exact h1 _ _ _ h.runs
theorem Akx {x:Hint} (h:Axo x):(Axv x).toArray.extract 0 25=(Axv x).toArray:=by
 have:=Ax0 h
 rw [List.extract_toArray,List.extract_eq_take_drop,List.drop_zero,List.take_of_length_le (by omega)]
theorem Byn (main:Md) (H:Hp) (fb nb:Nat) (yf:Fn) (yi yc:Array Value) (z:Int) (x:Hint) (hx:Axo x) (ham hour:Int) (r:Bool) (vf:H fb=some (true,.cells #[.func yf yi yc] 105 (0,0))) (vn:H nb=some (true,.cells #[.int .i64 z] 3 (0,0)))
  (hq:∀H',H.le H'->Ajn Tryz.prog main (.func yf yi yc) #[.agg (Axv x).toArray] H' fun e H''=>e=.returned (.bool r)/\H'.le H'') :
  FnX Tryz.prog main 101 #[.int .i64 ham,.int .i64 hour,.agg (Axv x).toArray,.pointer (some ⟨fb,0,none⟩),.pointer (some ⟨nb,0,none⟩)] H fun e H'=>e=.returned (.tuple #[])/\H' nb=some (true,.cells #[.int .i64 (if r then IntKind.i64.wrap (z+1) else z)] 3 (0,0))/\∀b x,b≠nb->H b=some x->H' b=some x:=by
 have hl:=Ax0 hx
 have hex:=Akx hx
 generalize Axv x=HC at *
 refine Aqn func101 rfl ntmps101 (by simp) ?_
 (refine @unH _ (zA Bxt ?_);(try clear hK K);intro K hK hc)
 (intro b hb;generalize hG:Hp.set _ b _=H1;have lH1:=Aqc hG hb;have vb:=Aqb hG;clear hG)
 have vf1:=lH1 _ _ vf
 have vn1:=lH1 _ _ vn
 (refine @unH _ (zU Bxt ?_);(try clear hK K);intro K hK hc)
 refine Ajn.use (hq H1 lH1) ?_
 rintro _ H2 ⟨rfl,l2⟩
 have vn2:=l2 _ _ vn1
 have l02:=Hp.le_trans lH1 l2
 clear hq vf1 vn1 vb hex
 cases r with
 | true=>
  (refine @unH _ (zU Bxt ?_);(try clear hK K);intro K hK hc)
  (refine @unH _ ?_;refine zD results101 ?_)
  exact ⟨by trivial,Axh,fun b x hb hx=>by rw [Aqv hb];exact l02 _ _ hx⟩
 | false=>
  (refine @unH _ (zU Bxt ?_);(try clear hK K);intro K hK hc)
  (refine @unH _ ?_;refine zD results101 ?_)
  exact ⟨by trivial,vn2,fun b x hb hx=>l02 _ _ hx⟩
theorem Awc (main:Md) (H:Hp) (v:Value) (l:List Trail) (hv:SlT H v l) (hok:∀t∈l,Ax3 t) (hl:l.length<=1000) (yf:Fn) (yi yc:Array Value) (q:Hint->Bool) (hq:IsF Tryz.prog main H (.func yf yi yc) q) :
  FnX Tryz.prog main 71 #[v,.func yf yi yc] H fun e H'=>e=.returned (.int .i64 (cntL q (Az7 l):Nat))/\H.le H':=by
 refine Aqn func71 rfl ntmps71 (by simp) ?_
 (refine @unH _ (zA (aN Bvg @cells_func) ?_);(try clear hK K);intro K hK hc)
 (intro fb hfb;generalize hG:Hp.set _ fb _=H1;have lH1:=Aqc hG hfb;have vfb:=Aqb hG;clear hG)
 have h0fb:=hfb
 have l1:=lH1
 clear hfb lH1
 (refine @unH _ (zU Bvg ?_);(try clear hK K);intro K hK hc)
 intro nb hnb
 have nfn:=Aqr vfb hnb
 (refine @unH _ (zU Bvg ?_);(try clear hK K);intro K hK hc)
 generalize hG:Hp.set H1 nb _=H2
 have vnb:=Aqb hG
 have l2:=Hp.le_trans l1 (Aqc hG hnb)
 have vf2:=Aqi hG vfb nfn
 have h0nb:H nb=none:=Hp.le_none l1 hnb
 clear hG hnb vfb l1
 have hn:∀b x,H2 b=some x->H2 b≠none:=fun b x h=>by rw [h];simp
 have hC:HCl Tryz.prog main (.func (.func 101) #[] #[.pointer (some ⟨fb,0,none⟩),.pointer (some ⟨nb,0,none⟩)]) (fun _ _ _=>True) (fun b=>H2 b≠none) (fun L H'=>(∃z,H' nb=some (true,.cells #[.int .i64 z] 3 (0,0))/\(L.length<=100000->z=(cntL q L:Nat)))/\∀b x,b≠nb->H2 b=some x->H' b=some x):=by
  refine ⟨?_,?_,?_⟩
  ·rintro L H' H'' ⟨⟨z,h1,hz⟩,h2⟩ hk
   exact ⟨⟨z,hk _ _ h1,hz⟩,fun b x hb hx=>hk _ _ (h2 b x hb hx)⟩
  ·rintro L H' b ⟨⟨z,h1,hz⟩,h2⟩ hb
   by_cases e:b=nb
   ·subst e;rw [h1];simp
   ·cases hx:H2 b with
    | none=>exact absurd hx hb
    | some x=>rw [h2 b x e hx];simp
  ·rintro L H' ham hour x ⟨⟨z,h1,hz⟩,h2⟩ hxo _
   have hq':∀H'',H'.le H''->Ajn Tryz.prog main (.func yf yi yc) #[.agg (Axv x).toArray] H'' fun e H3=>e=.returned (.bool (q x))/\H''.le H3:=fun H'' l=>hq H'' x (fun b z hz=>l _ _ (h2 b z (fun e=>by rw [e,h0nb] at hz;cases hz) (l2 _ _ hz))) hxo
   refine Ajn.fn (fun _ _=>Cw2 _) ((Byn main H' fb nb yf yi yc z x hxo ham hour (q x) (h2 _ _ nfn vf2) h1 hq').mono ?_)
   rintro _ H3 ⟨rfl,h3,h4⟩
   refine ⟨rfl,⟨⟨_,h3,fun hL=>?_⟩,fun b x hb hx=>h4 b _ hb (h2 b x hb hx)⟩,fun b x hb hx=>h4 b x (fun e=>hb (by rw [e];exact hn _ _ vnb)) hx⟩
   rw [List.length_append,List.length_singleton] at hL
   have h5:=hz (by omega)
   have h6:=Dzv q L
   rw [Ckj]
   cases hqx:q x with
   | true=>
    simp only [hqx,if_true]
    rw [h5,w64 _ (by omega) (by omega)]
    simp
   | false=>
    simp only [hqx,Bool.false_eq_true,if_false]
    rw [h5]
    simp
 refine (Awo main hC H2 v l (fun L H' h _=>hv.move fun x p c fr hx=>⟨p,h.2 x _ (fun e=>by rw [e,h0nb] at hx;cases hx) (l2 _ _ hx)⟩) hok (fun _ _ _ _ _ _=>trivial) hl [] ⟨⟨0,vnb,fun _=>rfl⟩,fun _ _ _ hx=>hx⟩).runs.mono ?_
 rintro _ H3 ⟨rfl,⟨⟨z,h3,hz⟩,h4⟩,_⟩
 rw [List.nil_append] at hz
 obtain rfl:=hz (by have:=Bzx l hok;omega)
 clear hz
 have l3:Aqk (H.le H3):=fun b x hx=>h4 b x (fun e=>by rw [e,h0nb] at hx;cases hx) (l2 _ _ hx)
 clear hC h4 hq hn
 generalize cntL q (Az7 l)=z at *
 (refine @unH _ (zU Bvg ?_);(try clear hK K);intro K hK hc)
 (refine @unH _ ?_;refine z9 results71 ?_)
 exact ⟨trivial,l3⟩
theorem Ck5 {main:Md} {y:Value} {A:Int->Int->Hint->Prop} (H2:Hp) (ob:Nat) (O:List (Int×Int×Hint)->Obj) (vo:H2 ob=some (true,O []))
  (h:∀L H' ham hour x,H' ob=some (true,O L)->(∀b z,b≠ob->H2 b=some z->H' b=some z)->Axo x->A ham hour x->Ajn Tryz.prog main y #[.int .i64 ham,.int .i64 hour,.agg (Axv x).toArray] H' fun e H''=>e=.returned (.tuple #[])/\H'' ob=some (true,O (L++[(ham,hour,x)]))/\∀b z,b≠ob->H' b=some z->H'' b=some z) :
  HCl Tryz.prog main y A (fun b=>H2 b≠none) (fun L H'=>H' ob=some (true,O L)/\∀b x,b≠ob->H2 b=some x->H' b=some x):=by
 have hn:∀b x,H2 b=some x->H2 b≠none:=fun b x h=>by rw [h];simp
 refine ⟨?_,?_,?_⟩
 ·rintro L H' H'' ⟨h1,h2⟩ hk
  exact ⟨hk _ _ h1,fun b x hb hx=>hk _ _ (h2 b x hb hx)⟩
 ·rintro L H' b ⟨h1,h2⟩ hb
  by_cases e:b=ob
  ·subst e;rw [h1];simp
  ·cases hx:H2 b with
   | none=>exact absurd hx hb
   | some x=>rw [h2 b x e hx];simp
 ·rintro L H' ham hour x ⟨h1,h2⟩ hxo hA
  refine (h L H' ham hour x h1 h2 hxo hA).mono ?_
  rintro e H3 ⟨rfl,h3,h4⟩
  exact ⟨rfl,⟨h3,fun b x hb hx=>h4 b _ hb (h2 b x hb hx)⟩,fun b x hb hx=>h4 b x (fun e=>hb (by rw [e];exact hn _ _ vo)) hx⟩
theorem Bv6 (main:Md) {A:Int->Int->Hint->Prop} {yf:Fn} {yi yc:Array Value} (H H2:Hp) (v:Value) (l:List Trail) (hv:SlT H v l) (ob:Nat) (O:List (Int×Int×Hint)->Obj) (l2:H.le H2) (h0:H ob=none) (vo:H2 ob=some (true,O []))
  (h:∀L H' ham hour x,H' ob=some (true,O L)->(∀b z,b≠ob->H2 b=some z->H' b=some z)->Axo x->A ham hour x->Ajn Tryz.prog main (.func yf yi yc) #[.int .i64 ham,.int .i64 hour,.agg (Axv x).toArray] H' fun e H''=>e=.returned (.tuple #[])/\H'' ob=some (true,O (L++[(ham,hour,x)]))/\∀b z,b≠ob->H' b=some z->H'' b=some z)
  (hok:∀t∈l,Ax3 t) (hA:∀t∈l,∀(h:Nat) x,t.hs[h]?=some x->x.some=true->A t.ham h x) (hl:l.length<=1000) :
  FnX Tryz.prog main 77 #[v,.func yf yi yc] H2 fun e H'=>e=.returned (.tuple #[])/\H' ob=some (true,O (Az7 l))/\∀b x,b≠ob->H2 b=some x->H' b=some x:=
 (Awo main (Ck5 H2 ob O vo h) H2 v l (fun L H' h _=>hv.move fun x p c fr hx=>⟨p,h.2 x _ (fun e=>by rw [e,h0] at hx;cases hx) (l2 _ _ hx)⟩) hok hA hl [] ⟨vo,fun _ _ _ hx=>hx⟩).mono fun e H' ⟨h1,h2,_⟩=>⟨h1,by simpa using h2.1,h2.2⟩
end Go.Proofs.YtaehjjbekjglkaaGreatDoor
end
section
namespace Go.Proofs.YtaehjjbekjglkaaGreatDoor
open Go Go.X Go.Proofs.Tryz
def Aj1:=aN @Dw9 (aN @Bkg (aN @Dv5 (aN @Dyp (aN @Dw2 (aN @Dwi (aN @Aya (aN @Byh @Bkh)))))))
theorem Akf {s:Sm} (ok:SmOk s):∀t∈Axw s,Ax3 t:=fun t ht=>by
 simp only [Axw,List.mem_map] at ht
 obtain ⟨i,_,rfl⟩:=ht
 exact Awd ok i
theorem Ajc (s:Sm):(Axw s).length=s.hampers.length:=by simp [Axw]
def susp (s:Sm):List (Int×Int×Hint):=Az7 (Axw s)
def Azy (s:Sm):Nat:=cntL (fun _=>true) (susp s)
theorem Bze (s:Sm):Azy s=(susp s).length:=by
 unfold Azy cntL
 rw [List.filter_eq_self.2 (fun _ _=>rfl)]
def begE (s:Sm) (ps:List Int) (hour:Int):Int:=if ps.any (fun p=>decide (p<0)||decide (s.places-1<p)) then 3 else if hour<0∨12<hour then 1 else if Azy s=0 then 11 else 0
theorem Dxg (main:Md) (H:Hp):IsF Tryz.prog main H (.func (.func 72) #[] #[]) (fun _=>true):=Cy9 (fun _ _=>Dzi _) fun H' x _ hx=>Cj1 main H' x hx
theorem Awq (main:Md) (H:Hp) (s:Sm) (ok:SmOk s) (v:Value) (hv:SlT H v (Axw s)) :
  FnX Tryz.prog main 71 #[v,.func (.func 72) #[] #[]] H fun e H'=>e=.returned (.int .i64 (Azy s:Nat))/\H.le H':=
 Awc main H v _ hv (Akf ok) (by rw [Ajc];have:=ok.h1;omega) _ _ _ _ (Dxg main H)
theorem Akl (H:Hp) (s:Sm) (dv hv nv:Value) (hs:SmIn H dv hv nv s) (ok:SmOk s) (hour:Int) (pv:Value) (ps:List Int) (hp:SlI H pv ps) (hpl:ps.length<=1000) :
  FnX Tryz.prog (.wg Tryz.prog) 70 #[smV s.places dv hv nv,.int .i64 hour,pv] H fun e H'=>∃v,e=.returned (.tuple #[v,.int .i64 (begE s ps hour)])/\H.le H'/\(begE s ps hour=0∨begE s ps hour=11->SlT H' v (Axw s))/\(begE s ps hour=3∨begE s ps hour=1->v=.slice none 0 0):=by
 obtain ⟨da,dc,ha,kc,na,nc,rfl,rfl,rfl,l1,l2,l3⟩:=hs.forms
 obtain ⟨pa,pc,rfl,hpc,_⟩:=id hp
 refine Aqn func70 rfl ntmps70 (by simp) ?_
 (refine @unH _ (zA Aj1 ?_);(try clear hK K);intro K hK hc)
 (intro sb hsb;generalize hG:Hp.set _ sb _=H1;have lH1:=Aqc hG hsb;have vsb:=Aqb hG;clear hG)
 have hs1:=hs.le lH1
 have hp1:=hp.le lH1
 have q0:=ok.p0
 have q6:=ok.p1
 clear hsb
 (refine @unH _ (zU Aj1 ?_);(try clear hK K);intro K hK hc)
 refine (Avi _ H1 s _ _ _ hs1 ok).runs.mono ?_
 rintro _ H2 ⟨rfl,lH2⟩
 have l02:=Hp.le_trans lH1 lH2
 have hs2:=hs1.le lH2
 have hp2:=hp1.le lH2
 have vs2:=lH2 _ _ vsb
 clear vsb lH1 lH2 hs1 hp1 hs hp
 (refine @unH _ (zU Aj1 ?_);(try clear hK K);intro K hK hc)
 refine Axg (fun w a' H'=>∃e,∃k:Nat,w=ps.length-k/\k<=ps.length/\a'=act 38 e []/\e 1=.int .i64 hour/\e 3=.pointer (some ⟨sb,0,none⟩)/\e 17=.slice pa ps.length pc/\e 18=.int .i64 ps.length/\e 19=.int .i64 (k:Nat)/\(ps.take k).any (fun p=>decide (p<0)||decide (s.places-1<p))=false/\H'=H2) (n:=ps.length) ?_ ?_
 ·exact ⟨_,0,by omega,by omega,rfl,rfl,rfl,rfl,rfl,rfl,rfl,rfl⟩
 ·rintro w a' H3 ⟨e,k,rfl,hk,rfl,e1,e3,e17,e18,e19,hany,hHQ⟩
  rw [hHQ];clear hHQ H3
  by_cases hlt:k<ps.length
  ·obtain ⟨b,o,q,c,fr,rfl,hb,hc'⟩:=hp2.get (List.getElem?_eq_getElem hlt)
   have hstep:(ps.take (k+1)).any (fun p=>decide (p<0)||decide (s.places-1<p))=(decide (ps[k]<0)||decide (s.places-1<ps[k])):=by
    rw [List.take_add_one,List.getElem?_eq_getElem hlt,List.any_append,hany]
    simp
   have hall:(decide (ps[k]<0)||decide (s.places-1<ps[k]))=true->ps.any (fun p=>decide (p<0)||decide (s.places-1<p))=true:=fun h=>List.any_eq_true.2 ⟨_,List.getElem_mem hlt,h⟩
   generalize ps[k]=p at *
   replace hany:Aqk _:=hany
   replace hstep:Aqk _:=hstep
   replace hall:Aqk _:=hall
   (refine @unH _ (zA Aj1 ?_);(try clear hK K);intro K hK hc)
   refine (Axj _ H2 p 0 (s.places-1)).runs.mono ?_
   rintro _ _ ⟨rfl,hQ⟩
   rw [hQ]
   clear hQ
   cases hbad:(decide (p<0)||decide (s.places-1<p)) with
   | true=>
    have hE:Aqk (begE s ps hour=3):=show begE s ps hour=3 by
     unfold begE
     rw [(show _->_ from hall) hbad,if_pos rfl]
    (refine @unH _ (zU Aj1 ?_);(try clear hK K);intro K hK hc)
    (refine @unH _ ?_;refine zB results70 ?_)
    rw [show begE s ps hour=3 from hE]
    exact ⟨_,rfl,l02,by simp,fun _=>rfl⟩
   | false=>
    rw [hbad] at hstep
    (refine @unH _ (zU Aj1 ?_);(try clear hK K);intro K hK hc)
    exact ⟨_,by omega,_,k+1,rfl,by omega,rfl,e1,e3,e17,e18,rfl,hstep,by trivial⟩
  ·obtain rfl:k=ps.length:=by omega
   rw [List.take_length] at hany
   replace hany:Aqk _:=hany
   (refine @unH _ (zA Aj1 ?_);(try clear hK K);intro K hK hc)
   refine (Axj _ H2 hour 0 12).runs.mono ?_
   rintro _ _ ⟨rfl,hQ⟩
   rw [hQ]
   clear hQ
   by_cases hh:hour<0∨12<hour
   ·rw [show (decide (hour<0)||decide (12<hour))=true by simp;omega]
    have hE:Aqk (begE s ps hour=1):=show begE s ps hour=1 by
     unfold begE
     rw [show ps.any _=false from hany,if_neg (by simp),if_pos hh]
    (refine @unH _ (zU Aj1 ?_);(try clear hK K);intro K hK hc)
    (refine @unH _ ?_;refine zB results70 ?_)
    rw [show begE s ps hour=1 from hE]
    exact ⟨_,rfl,l02,by simp,fun _=>rfl⟩
   ·rw [show (decide (hour<0)||decide (12<hour))=false by simp;omega]
    have hE:Aqk (begE s ps hour=if Azy s=0 then 11 else 0):=show begE s ps hour=_ by
     unfold begE
     rw [show ps.any _=false from hany,if_neg (by simp),if_neg hh]
    (refine @unH _ (zU Aj1 ?_);(try clear hK K);intro K hK hc)
    refine (Ayn H2 s _ _ _ hs2 ok).runs.mono ?_
    rintro _ H4 ⟨v,rfl,hv,lH4⟩
    have l04:=Hp.le_trans l02 lH4
    clear lH4 hs2 hp2 vs2
    (refine @unH _ (zU Aj1 ?_);(try clear hK K);intro K hK hc)
    refine (Awq _ H4 s ok v hv).runs.mono ?_
    rintro _ H5 ⟨rfl,lH5⟩
    have hv5:=hv.le lH5
    have l05:=Hp.le_trans l04 lH5
    by_cases hz:Azy s=0
    ·rw [hz] at hE ⊢
     rw [if_pos rfl] at hE
     replace hE:Aqk _:=hE
     clear hz
     (refine @unH _ (zU Aj1 ?_);(try clear hK K);intro K hK hc)
     (refine @unH _ ?_;refine zB results70 ?_)
     rw [show begE s ps hour=11 from hE]
     exact ⟨_,rfl,l05,fun _=>hv5,by simp⟩
    ·rw [if_neg hz] at hE
     replace hE:Aqk _:=hE
     have hz':((Azy s:Nat):Int)≠0:=by omega
     (refine @unH _ (zU Aj1 ?_);(try clear hK K);intro K hK hc)
     (refine @unH _ ?_;refine zB results70 ?_)
     rw [show begE s ps hour=0 from hE]
     exact ⟨_,rfl,l05,fun _=>hv5,by simp⟩
def Bz5:=aN @Dw9 (aN @Bx0 @Bkh)
def Bvf:=aN @Dw9 (aN @Byh @Bkh)
theorem nilS (H:Hp):SlI H (.slice none 0 0) []:=⟨none,0,rfl,Nat.le_refl _,fun i x h=>by simp at h⟩
theorem Cq6 (s:Sm):begE s [] 0=if Azy s=0 then 11 else 0:=by
 unfold begE
 simp
theorem Cqa (H:Hp) (s:Sm) (dv hv nv:Value) (hs:SmIn H dv hv nv s) (ok:SmOk s) :
  FnX Tryz.prog (.wg Tryz.prog) 34 #[smV s.places dv hv nv] H fun e H'=>e=.returned (.tuple #[.int .i64 (Azy s:Nat),.int .i64 0])/\H.le H':=by
 obtain ⟨da,dc,ha,kc,na,nc,rfl,rfl,rfl,l1,l2,l3⟩:=hs.forms
 refine Aqn func34 rfl ntmps34 (by simp) ?_
 (refine @unH _ (zA Bz5 ?_);(try clear hK K);intro K hK hc)
 (intro sb hsb;generalize hG:Hp.set _ sb _=H1;have lH1:=Aqc hG hsb;have vsb:=Aqb hG;clear hG)
 (refine @unH _ (zU Bz5 ?_);(try clear hK K);intro K hK hc)
 refine (Akl H1 s _ _ _ (hs.le lH1) ok 0 _ [] (nilS H1) (by simp)).runs.mono ?_
 rw [Cq6]
 rintro _ H2 ⟨v,rfl,lH2,hv,_⟩
 have l02:=Hp.le_trans lH1 lH2
 clear lH1 lH2 vsb hs hsb
 by_cases hz:Azy s=0
 ·rw [if_pos hz]
  have hz':Aqk (Azy s=0):=hz
  replace hz':Aqk _:=hz'
  clear hz hv
  (refine @unH _ (zU Bz5 ?_);(try clear hK K);intro K hK hc)
  (refine @unH _ ?_;refine zB results34 ?_)
  exact ⟨by rw [show Azy s=0 from hz'];rfl,l02⟩
 ·rw [if_neg hz]
  rw [if_neg hz] at hv
  have hv2:=hv (.inl rfl)
  clear hv
  (refine @unH _ (zU Bz5 ?_);(try clear hK K);intro K hK hc)
  refine (Awq _ H2 s ok v hv2).runs.mono ?_
  rintro _ H3 ⟨rfl,lH3⟩
  have l03:=Hp.le_trans l02 lH3
  (refine @unH _ (zU Bz5 ?_);(try clear hK K);intro K hK hc)
  (refine @unH _ ?_;refine zB results34 ?_)
  exact ⟨trivial,l03⟩
theorem Cvs (H:Hp) (s:Sm) (dv hv nv:Value) (hs:SmIn H dv hv nv s) (ok:SmOk s) :
  FnX Tryz.prog (.wg Tryz.prog) 66 #[smV s.places dv hv nv] H fun e H'=>e=.returned (.bool (decide (0<Azy s)))/\H.le H':=by
 obtain ⟨da,dc,ha,kc,na,nc,rfl,rfl,rfl,l1,l2,l3⟩:=hs.forms
 refine Aqn func66 rfl ntmps66 (by simp) ?_
 (refine @unH _ (zA Bvf ?_);(try clear hK K);intro K hK hc)
 (intro sb hsb;generalize hG:Hp.set _ sb _=H1;have lH1:=Aqc hG hsb;have vsb:=Aqb hG;clear hG)
 (refine @unH _ (zU Bvf ?_);(try clear hK K);intro K hK hc)
 refine (Ayn H1 s _ _ _ (hs.le lH1) ok).runs.mono ?_
 rintro _ H2 ⟨v,rfl,hv,lH2⟩
 have l02:=Hp.le_trans lH1 lH2
 (refine @unH _ (zU Bvf ?_);intro _ _ hc)
 refine (Awq _ H2 s ok v hv).runs.mono ?_
 rintro _ H3 ⟨rfl,lH3⟩
 have l03:=Hp.le_trans l02 lH3
 (refine @unH _ (zU Bvf ?_);(try clear hK K);intro K hK hc)
 (refine @unH _ ?_;refine z9 results66 ?_)
 refine ⟨?_,l03⟩
 have:decide ((0:Int)<((Azy s:Nat):Int))=decide (0<Azy s):=by
  rw [Bool.eq_iff_iff]
  simp
 rw [<-this]
theorem Cjp {s:Sm} (ok:SmOk s):∀t∈Axw s,0<=t.ham/\t.ham<3:=fun t ht=>by
 simp only [Axw,List.mem_map,List.mem_range] at ht
 obtain ⟨i,hi,rfl⟩:=ht
 have:=ok.h1
 exact ⟨by show (0:Int)<=(i:Int);omega,by show (i:Int)<3;omega⟩
def Bqw:=aN @Dw9 (aN @Azx (aN @Bx0 (aN @Dzm @Dzp)))
def Bz6:=aN @Dys (aN @Bx1 (aN (fun H=>Aqp (H:=H) underlying107 rfl sizeOf107) (fun H=>Aqs (H:=H) sizeOf107)))
def Bqy:=aN @Dv8 (aN @Dw2 @Dv9)
def Bxu:=aN @Dw2 (aN @Dwb (aN @Dv0 (aN @Dv8 (aN @Bki @Dv9))))
def gB (x:Hint) (p:Int):Bd:=x.bs.getD p.toNat bd0
theorem Cxk {x:Hint} (h:Axo x) {p:Int} (h0:0<=p) (h1:p<6):x.bs[p.toNat]?=some (gB x p):=by
 unfold gB
 rw [List.getD,List.getElem?_eq_getElem (by rw [h.b];omega)]
 rfl
abbrev bdO (b:Bd):Obj:=.cells #[.int .i64 b.lo,.int .i64 b.hi,.bool b.some] 107 (0,0)
theorem Cwx (b:Bd):BdC #[.int .i64 b.lo,.int .i64 b.hi,.bool b.some] 0 b:=⟨rfl,rfl,rfl⟩
theorem Czb (b b':Bd):Bz7 #[.int .i64 b.lo,.int .i64 b.hi,.bool b.some] 0 b'=#[.int .i64 b'.lo,.int .i64 b'.hi,.bool b'.some]:=by simp [Bz7]
theorem Ave (main:Md) (H:Hp) (bb:Nat) (b:Bd) (x:Int) (vb:H bb=some (true,bdO b)) :
  FnX Tryz.prog main 79 #[.pointer (some ⟨bb,0,none⟩),.int .i64 x] H fun e' H'=>e'=.returned (.tuple #[])/\H' bb=some (true,bdO (Bqg b x))/\∀y,y≠bb->H' y=H y:=
 (Bwh main H bb 0 b x _ _ vb (Cwx b)).mono fun e H' ⟨h1,h2,h3⟩=>⟨h1,by rw [h2,Czb],h3⟩
def arrF (p:Int) (b:Bd) (x:Int×Int×Hint):Bd:=Bqg (Bqg b (gB x.2.2 p).lo) (gB x.2.2 p).hi
theorem Bj9 (main:Md) (H:Hp) (ob pb:Nat) (p:Int) (h0:0<=p) (h1:p<6) (ham hour:Int) (x:Hint) (hx:Axo x) (b:Bd) (vo:H ob=some (true,bdO b)) (vp:H pb=some (true,.cells #[.int .i64 p] 3 (0,0))) (hne:pb≠ob) :
  FnX Tryz.prog main 102 #[.int .i64 ham,.int .i64 hour,.agg (Axv x).toArray,.pointer (some ⟨ob,0,none⟩),.pointer (some ⟨pb,0,none⟩)] H fun e H'=>e=.returned (.tuple #[])/\H' ob=some (true,bdO (arrF p b (ham,hour,x)))/\∀b x,b≠ob->H b=some x->H' b=some x:=by
 have hl:=Ax0 hx
 have hex:=Akx hx
 have hbd:=Ay0 hx (Cxk hx h0 h1)
 obtain ⟨hb1,hb2,_⟩:=hbd
 unfold arrF
 simp only
 generalize gB x p=g at *
 generalize Axv x=HC at *
 refine Aqn func102 rfl ntmps102 (by simp) ?_
 (refine @unH _ (zA Bxu ?_);(try clear hK K);intro K hK hc)
 (intro b hb;generalize hG:Hp.set _ b _=H1;have lH1:=Aqc hG hb;have vb:=Aqb hG;clear hG)
 have vo1:=lH1 _ _ vo
 have vp1:=lH1 _ _ vp
 (refine @unH _ (zU Bxu ?_);(try clear hK K);intro K hK hc)
 refine (Ave main H1 ob _ g.lo vo1).runs.mono ?_
 rintro _ H2 ⟨rfl,h21,h22⟩
 have nob:b≠ob:=fun e=>by rw [e,vo] at hb;cases hb
 have vp2:=(h22 pb hne).trans vp1
 have vb2:=(h22 b nob).trans vb
 have hf2:∀c z,c≠ob->H c=some z->H2 c=some z:=fun c z hc hz=>(h22 c hc).trans (lH1 _ _ hz)
 clear vo1 vp1 vb h22 lH1
 (refine @unH _ (zU Bxu ?_);(try clear hK K);intro K hK hc)
 refine (Ave main H2 ob _ g.hi h21).runs.mono ?_
 rintro _ H3 ⟨rfl,h31,h32⟩
 (refine @unH _ (zU Bxu ?_);(try clear hK K);intro K hK hc)
 (refine @unH _ ?_;refine zD results102 ?_)
 exact ⟨rfl,h31,fun c z hc hz=>(h32 c hc).trans (hf2 c z hc hz)⟩
def arrL (L:List (Int×Int×Hint)) (p:Int):Bd:=L.foldl (arrF p) bd0
theorem Cj2 (L:List (Int×Int×Hint)) (p:Int) (x:Int×Int×Hint):arrL (L++[x]) p=arrF p (arrL L p) x:=by simp [arrL]
theorem Bvo (main:Md) (H:Hp) (v:Value) (l:List Trail) (hv:SlT H v l) (hok:∀t∈l,Ax3 t) (hl:l.length<=1000) (p:Int) (h0:0<=p) (h1:p<6) :
  FnX Tryz.prog main 81 #[v,.int .i64 p] H fun e H'=>e=.returned (.agg #[.int .i64 (arrL (Az7 l) p).lo,.int .i64 (arrL (Az7 l) p).hi,.bool (arrL (Az7 l) p).some])/\H.le H':=by
 obtain ⟨a,cap,rfl,hcap⟩:=hv.isSlice
 refine Aqn func81 rfl ntmps81 (by simp) ?_
 (refine @unH _ (zA Bz6 ?_);(try clear hK K);intro K hK hc)
 (intro pb hpb rb hrb;replace hrb:(Hp.set _ pb _) rb=none:=hrb;generalize hG:Hp.set _ pb _=H1 at hrb ⊢;have lH1:=Aqc hG hpb;have wpb:=Aqb hG;clear hG;generalize hG:Hp.set _ rb _=H2;have lH2:=Aqc hG hrb;have vrb:=Aqb hG;have vpb:=lH2 _ _ wpb;have npbrb:=Aqr wpb hrb;clear hG wpb)
 have l02:=Hp.le_trans lH1 lH2
 have hv2:=hv.le l02
 have h0rb:=Hp.le_none lH1 hrb
 clear lH1 lH2 hpb
 (refine @unH _ (zU Bz6 ?_);(try clear hK K);intro K hK hc)
 intro ob hob
 have nob:=Aqr vpb hob
 have nrb:=Aqr vrb hob
 generalize hG:Hp.set H2 ob _=H3
 have lH3:=Aqc hG hob
 have vo3:=Aqb hG
 have vp3:=Aqi hG vpb nob
 have vr3:=Aqi hG vrb nrb
 have h00:=Hp.le_none l02 hob
 clear hG vpb vrb
 have hone:=Bv6 main (A:=fun _ _ _=>True) (yf:=.func 102) (yi:=#[]) (yc:=#[.pointer (some ⟨ob,0,none⟩),.pointer (some ⟨pb,0,none⟩)]) H2 H3 _ _ hv2 ob (fun L=>bdO (arrL L p)) lH3 hob (by rw [vo3];rfl) (fun L H' ham hour x g1 g2 hxo _=>by
  refine Ajn.fn (fun _ _=>Cw3 _) ((Bj9 main H' ob pb p h0 h1 ham hour x hxo _ g1 (g2 _ _ nob vp3) nob).mono ?_)
  rintro _ H4 ⟨rfl,h3,h4⟩
  exact ⟨rfl,by rw [h3,Cj2],h4⟩) hok (fun _ _ _ _ _ _=>trivial) hl
 (refine @unH _ (zU Bz6 ?_);(try clear hK K);intro K hK hc)
 refine hone.runs.mono ?_
 clear hone
 rintro _ H4 ⟨rfl,h3,h4⟩
 have l04:H.le H4:=fun b x hx=>h4 b x (fun e=>by rw [e,h00] at hx;cases hx) (lH3 _ _ (l02 _ _ hx))
 have vr4:=h4 _ _ nrb vr3
 generalize arrL (Az7 l) p=w at *
 clear h4 vr3 vp3 vo3 l02 lH3 hv2
 (refine @unH _ (zU Bz6 ?_);(try clear hK K);intro K hK hc)
 (refine Axr ?_;(try simp only [nq,↓reduceIte,Nat.reduceEqDiff]);rw [Aq8,Ax4 results81 (by decide) (b:=rb) (o:=0) rfl underlying107 rfl sizeOf107];simp -implicitDefEqProofs (disch:=first | omega | (simp only [qd]<;>omega)) only [xq,↓xp,qc,Nat.reduceAdd,List.range,List.range.loop,fine,Nat.reduceEqDiff,↓reduceIte,yielded,reduceCtorEq,Nat.reduceLT,Nat.reduceMul,Nat.reduceSub,one,Nat.reduceLeDiff,Aqg,Bz6,Axl,List.extract_toArray])
 exact fun c z hc=>by rw [Aqv (fun e=>by rw [e,h0rb] at hc;cases hc)];exact l04 _ _ hc
def Cwc (b:Bd) (h:Int):Int:=if b.lo<=h/\h<b.hi then 3 else if h<b.lo then 2 else 1
theorem Bk9 (main:Md) (H:Hp) (b:Bd) (h:Int) :
  FnX Tryz.prog main 90 #[.agg #[.int .i64 b.lo,.int .i64 b.hi,.bool b.some],.int .i64 h] H fun e H'=>e=.returned (.int .i64 (Cwc b h))/\H.le H':=by
 unfold Cwc
 by_cases g1:b.lo<=h
 ·have d1:decide (b.lo<=h)=true:=by simpa using g1
  by_cases g2:h<b.hi
  ·have d2:decide (h<b.hi)=true:=by simpa using g2
   rw [if_pos ⟨g1,g2⟩]
   clear g1 g2
   refine Aqn func90 rfl ntmps90 (by simp) ?_
   (refine @unH _ (zA Bqy ?_);(try clear hK K);intro K hK hc)
   (intro bb hbb;generalize hG:Hp.set _ bb _=H1;have lH1:=Aqc hG hbb;have vbb:=Aqb hG;clear hG)
   (refine @unH _ (zU Bqy ?_);(try clear hK K);intro K hK hc)
   (refine @unH _ ?_;refine z9 results90 ?_)
   exact ⟨rfl,lH1⟩
  ·have d2:decide (h<b.hi)=false:=by simpa using g2
   have d3:decide (h<b.lo)=false:=by simp;omega
   rw [if_neg (fun g=>g2 g.2),if_neg (by omega:¬h<b.lo)]
   clear g1 g2
   refine Aqn func90 rfl ntmps90 (by simp) ?_
   (refine @unH _ (zA Bqy ?_);(try clear hK K);intro K hK hc)
   (intro bb hbb;generalize hG:Hp.set _ bb _=H1;have lH1:=Aqc hG hbb;have vbb:=Aqb hG;clear hG)
   (refine @unH _ (zU Bqy ?_);(try clear hK K);intro K hK hc)
   (refine @unH _ ?_;refine z9 results90 ?_)
   exact ⟨rfl,lH1⟩
 ·have d1:decide (b.lo<=h)=false:=by simpa using g1
  have d3:decide (h<b.lo)=true:=by simp;omega
  rw [if_neg (fun g=>g1 g.1),if_pos (by omega)]
  clear g1
  refine Aqn func90 rfl ntmps90 (by simp) ?_
  (refine @unH _ (zA Bqy ?_);(try clear hK K);intro K hK hc)
  (intro bb hbb;generalize hG:Hp.set _ bb _=H1;have lH1:=Aqc hG hbb;have vbb:=Aqb hG;clear hG)
  (refine @unH _ (zU Bqy ?_);(try clear hK K);intro K hK hc)
  (refine @unH _ ?_;refine z9 results90 ?_)
  exact ⟨rfl,lH1⟩
theorem Dks {H:Hp} {b:Nat} {x:Int} {p:Bool} {fr:Nat×Nat} (h:H b=some (p,.cells #[.int .i64 x] 3 fr)):SlI H (.slice (some ⟨b,0,none⟩) 1 1) [x]:=by
 refine ⟨some ⟨b,0,none⟩,1,rfl,Nat.le_refl _,fun i y hy=>?_⟩
 rcases i with _ | i
 ·simp only [List.getElem?_cons_zero,Option.some.injEq] at hy
  subst hy
  exact ⟨b,0,p,_,_,rfl,h,rfl⟩
 ·simp at hy
theorem Cj4 {s:Sm} (ok:SmOk s) {p h:Int} (hb:begE s [p] h=0):0<=p/\p<6:=by
 unfold begE at hb
 have h6:=ok.p1
 simp only [List.any_cons,List.any_nil,Bool.or_false,Bool.or_eq_true,decide_eq_true_eq] at hb
 split at hb
 ·cases hb
 ·omega
def Cwb (s:Sm) (p h:Int):Int:=if begE s [p] h=0 then Cwc (arrL (susp s) p) h else 0
theorem Bk5 (H:Hp) (s:Sm) (dv hv nv:Value) (hs:SmIn H dv hv nv s) (ok:SmOk s) (p h:Int) :
  FnX Tryz.prog (.wg Tryz.prog) 40 #[smV s.places dv hv nv,.int .i64 p,.int .i64 h] H fun e H'=>e=.returned (.tuple #[.int .i64 (Cwb s p h),.int .i64 (begE s [p] h)])/\H.le H':=by
 obtain ⟨da,dc,ha,kc,na,nc,rfl,rfl,rfl,l1,l2,l3⟩:=hs.forms
 have hpp:begE s [p] h=0->0<=p/\p<6:=Cj4 ok
 have hr0:begE s [p] h=0->Cwb s p h=Cwc (arrL (susp s) p) h:=fun e=>if_pos e
 have hr1:begE s [p] h≠0->Cwb s p h=0:=fun e=>if_neg e
 have hbeg:=fun H dv hv nv (hs:SmIn H dv hv nv s) pv (hp:SlI H pv [p])=>Akl H s dv hv nv hs ok h pv [p] hp (by simp)
 generalize begE s [p] h=z at *
 generalize Cwb s p h=r at *
 replace hpp:Aqk _:=hpp
 replace hr0:Aqk _:=hr0
 replace hr1:Aqk _:=hr1
 replace hbeg:Aqk _:=hbeg
 refine Aqn func40 rfl ntmps40 (by simp) ?_
 (refine @unH _ (zA Bqw ?_);(try clear hK K);intro K hK hc)
 (intro sb hsb;generalize hG:Hp.set _ sb _=H1;have lH1:=Aqc hG hsb;have vsb:=Aqb hG;clear hG)
 have hs1:=hs.le lH1
 have h0sb:=hsb
 clear hsb
 (refine @unH _ (zU Bqw ?_);(try clear hK K);intro K hK hc)
 (intro pb hpb;generalize hG:Hp.set _ pb _=H2;have lH2:=Aqc hG hpb;have vpb:=Aqb hG;clear hG)
 have hs2:=hs1.le lH2
 have l02:=Hp.le_trans lH1 lH2
 have hp2:SlI H2 (.slice (some ⟨pb,0,none⟩) 1 1) [p]:=Dks vpb
 clear hs hs1 vsb hpb lH1 lH2 vpb
 refine ((show ∀H dv hv nv (hs:SmIn H dv hv nv s) pv (hp:SlI H pv [p]),_ from hbeg) H2 _ _ _ hs2 _ hp2).runs.mono ?_
 clear hbeg
 rintro _ H3 ⟨v,rfl,lH3,hv,_⟩
 have l03:=Hp.le_trans l02 lH3
 clear hs2 hp2 lH3 l02 h0sb
 by_cases hz:z=0
 ·subst hz
  replace hv:=hv (.inl rfl)
  obtain ⟨p0,p1⟩:=hpp rfl
  replace hr0:Aqk (r=Cwc (arrL (susp s) p) h):=hr0 rfl
  clear hpp hr1
  (refine @unH _ (zU Bqw ?_);(try clear hK K);intro K hK hc)
  refine (Bvo _ H3 v _ hv (Akf ok) (by rw [Ajc];have:=ok.h1;omega) p p0 p1).runs.mono ?_
  rintro _ H4 ⟨rfl,lH4⟩
  have l04:=Hp.le_trans l03 lH4
  clear l03 lH4
  rw [show arrL (Az7 (Axw s)) p=arrL (susp s) p from rfl]
  generalize arrL (susp s) p=w at *
  (refine @unH _ (zU Bqw ?_);intro _ _ hc)
  refine (Bk9 _ H4 w h).runs.mono ?_
  rintro _ H5 ⟨rfl,lH5⟩
  (refine @unH _ (zU Bqw ?_);(try clear hK K);intro K hK hc)
  (refine @unH _ ?_;refine zB results40 ?_)
  exact ⟨by rw [show r=_ from hr0],Hp.le_trans l04 lH5⟩
 ·replace hr1:Aqk (r=0):=hr1 hz
  clear hv hpp hr0
  (refine @unH _ (zU Bqw ?_);(try clear hK K);intro K hK hc)
  (refine @unH _ ?_;refine zB results40 ?_)
  exact ⟨by rw [show r=_ from hr1],l03⟩
end Go.Proofs.YtaehjjbekjglkaaGreatDoor
end
section
namespace Go.Proofs.YtaehjjbekjglkaaGreatDoor
open Go Go.X
theorem Bko {s:Sm} (ok:SmOk s) {h:Int} (h0:0<=h) (h1:h<s.places) {t:List Int} (ht:t∈Ax1 s.doors):Aw2 (Edg s.doors (pad6 t)) h (Axk s.doors h (pad6 t)):=by
 have h6:=ok.p1
 exact Bj3 h6 h0 (by omega) ok.dk (Akn ok.dk ht)
end Go.Proofs.YtaehjjbekjglkaaGreatDoor
end
