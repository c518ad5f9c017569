/- Texts SrR SrP LSChecks PSmellChecks SSmellChecks. -/
import Derived.Test.YtaehjjbekjglkaaGreatDoorJ27
import Derived.Test.YtaehjjbekjglkaaGreatDoorAFactA
import Derived.Test.YtaehjjbekjglkaaGreatDoorAFactSB
import Derived.Test.YtaehjjbekjglkaaGreatDoorAFactSC
set_option linter.defProp false
set_option linter.unusedSimpArgs false
set_option linter.unusedVariables false
set_option maxRecDepth 100000
set_option maxHeartbeats 2000000
section
namespace Go.Proofs.YtaehjjbekjglkaaGreatDoor
open Go Go.X Go.Proofs.Tryz
def y16_183:=aN @Dyx (aN @Dw9 (aN @callF18 (aN @Bxy (aN @Dyi (aN @callF54 (aN @Dwj (aN @Dwz (aN @Dv4 (aN @Dyo (aN @Dwq (aN @Dwm (aN @Dw2 (aN @Azx (aN @Dwn (aN @callF55 (aN @Dyp (aN @Ajf @Dya)))))))))))))))))
def reaA (s:Sm) (a b:Int):Int×Int×Int:=if chkS s=0 then reaE s a b else (0,0,chkS s)
def rchT:Nat->List Nat:=fun k=>if k=8 then [45] else if k=18 then [55] else if k=9 then [46] else if k=19 then [46,56] else if k=20 then [9,46] else []
def rchΦ (H0:Hp) (v9 v10:Value) (m1 m2:List Int) (x1 x2:Int):Nat->(Nat->Value)->Hp->Prop:=fun k f H=>
 if k=8 then OneI H0 H (f 45) x1 else if k=18 then OneI H0 H (f 55) x2 else if k=9 then RowN H0 v9 H (f 46) (m1++[x1]) else if k=19 then RowN H0 v10 H (f 56) (m2++[x2])/\∀x,rowB (f 56)=some x->rowB (f 46)≠some x else if k=20 then f 9=f 46 else True
theorem rchΦ_le {H0:Hp} {v9 v10:Value} {m1 m2:List Int} {x1 x2:Int} (k:Nat) (f:Nat->Value) {H H':Hp} (h:rchΦ H0 v9 v10 m1 m2 x1 x2 k f H) (l:H.le H'):rchΦ H0 v9 v10 m1 m2 x1 x2 k f H':=by
 unfold rchΦ at h ⊢
 repeat' split at h
 all_goals simp only [*,Nat.reduceEqDiff,if_true,if_false]
 ·exact h.le l
 ·exact h.le l
 ·exact RowN.le h l
 ·exact ⟨h.1.le l,h.2⟩
theorem OneI.ot {H0 H H':Hp} {v v0:Value} {x:Int} (h:OneI H0 H v x) (h0:∀y,rowB v0=some y->∃u,H0 y=some u) (hk:∀y u,H y=some u->rowB v0≠some y->H' y=some u):OneI H0 H' v x:=by
 obtain ⟨g,h1,h2,h3⟩:=h
 exact ⟨g,h1,hk _ _ h2 (fun e=>by obtain ⟨u,hu⟩:=h0 g e;rw [h3] at hu;cases hu),h3⟩
theorem RowN.ot {H0 H H':Hp} {v v1 v0:Value} {xs:List Int} (h:RowN H0 v1 H v xs) (h0:∀y,rowB v0=some y->∃u,H0 y=some u) (hne:∀y,rowB v1=some y->rowB v0≠some y) (hk:∀y u,H y=some u->rowB v0≠some y->H' y=some u):RowN H0 v1 H' v xs:=
 ⟨h.1.keep fun x u hx hu=>hk x u hu fun e=>(h.2 x hx).elim (fun h=>hne x h e) fun h=>(by obtain ⟨w,hw⟩:=h0 x e;rw [h] at hw;cases hw),h.2⟩
def rchΨ (v9 v10:Value) (m1 m2:List Int):Nat->Hp->Prop:=fun j H=>if j=0 then RowG 3 1 H v9 (int1 m1) else if j=1 then RowG 3 1 H v10 (int1 m2) else True
theorem rchΨ_le {v9 v10:Value} {m1 m2:List Int} (j:Nat) {H H':Hp} (h:rchΨ v9 v10 m1 m2 j H) (l:H.le H'):rchΨ v9 v10 m1 m2 j H':=by
 unfold rchΨ at h ⊢
 repeat' split at h
 all_goals simp only [*,if_true,if_false]
 ·exact RowG.keep h fun x u _ hu=>l _ _ hu
 ·exact RowG.keep h fun x u _ hu=>l _ _ hu
abbrev rchR (H0:Hp) (v9 v10:Value) (m1 m2:List Int) (x1 x2:Int):RestK:=⟨rchT,rchΦ H0 v9 v10 m1 m2 x1 x2,[(9,8),(19,8),(19,18),(9,19)],rchΨ v9 v10 m1 m2,[(9,0),(19,0),(19,1)]⟩
theorem rch_le {H0 H H':Hp} {v9 v10:Value} {m1 m2:List Int} {x1 x2:Int} (i:Nat) (l:H.le H'):keepH (rchR H0 v9 v10 m1 m2 x1 x2) i H H':=⟨fun k f _ h=>rchΦ_le k f h l,fun j _ h=>rchΨ_le j h l⟩
theorem rch_keep9 {H0 H H':Hp} {v9 v10:Value} {m1 m2:List Int} {x1 x2:Int} (h0:∀y,rowB v9=some y->∃u,H0 y=some u) (hne:∀y,rowB v10=some y->rowB v9≠some y) (hk:∀y u,H y=some u->rowB v9≠some y->H' y=some u) :
  keepH (rchR H0 v9 v10 m1 m2 x1 x2) 9 H H':=by
 refine ⟨fun k f hkb h=>?_,fun j hj h=>?_⟩
 ·show rchΦ H0 v9 v10 m1 m2 x1 x2 k f H'
  replace h:rchΦ H0 v9 v10 m1 m2 x1 x2 k f H:=h
  unfold rchΦ at h ⊢
  by_cases h8:k=8
  ·subst h8;exact nomatch (show false=true from hkb)
  by_cases h18:k=18
  ·subst h18;exact OneI.ot h h0 hk
  by_cases h9:k=9
  ·subst h9;exact nomatch (show false=true from hkb)
  by_cases h19:k=19
  ·subst h19;exact nomatch (show false=true from hkb)
  rw [if_neg h8,if_neg h18,if_neg h9,if_neg h19] at h ⊢
  exact h
 ·show rchΨ v9 v10 m1 m2 j H'
  replace h:rchΨ v9 v10 m1 m2 j H:=h
  unfold rchΨ at h ⊢
  by_cases h0':j=0
  ·subst h0';exact nomatch (show true=false from hj)
  by_cases h1:j=1
  ·subst h1;exact RowG.keep h fun x u hx hu=>hk x u hu (hne x hx)
  rw [if_neg h0',if_neg h1]
  trivial
theorem rch_keep19 {H0 H H':Hp} {v9 v10:Value} {m1 m2:List Int} {x1 x2:Int} (h0:∀y,rowB v10=some y->∃u,H0 y=some u) (hne:∀y,rowB v9=some y->rowB v10≠some y) (hk:∀y u,H y=some u->rowB v10≠some y->H' y=some u) :
  keepH (rchR H0 v9 v10 m1 m2 x1 x2) 19 H H':=by
 refine ⟨fun k f hkb h=>?_,fun j hj h=>?_⟩
 ·show rchΦ H0 v9 v10 m1 m2 x1 x2 k f H'
  replace h:rchΦ H0 v9 v10 m1 m2 x1 x2 k f H:=h
  unfold rchΦ at h ⊢
  by_cases h8:k=8
  ·subst h8;exact nomatch (show false=true from hkb)
  by_cases h18:k=18
  ·subst h18;exact nomatch (show false=true from hkb)
  by_cases h9:k=9
  ·subst h9;exact RowN.ot h h0 hne hk
  by_cases h19:k=19
  ·subst h19;exact nomatch (show false=true from hkb)
  rw [if_neg h8,if_neg h18,if_neg h9,if_neg h19] at h ⊢
  exact h
 ·show rchΨ v9 v10 m1 m2 j H'
  replace h:rchΨ v9 v10 m1 m2 j H:=h
  unfold rchΨ at h ⊢
  by_cases h0':j=0
  ·subst h0';exact nomatch (show true=false from hj)
  by_cases h1:j=1
  ·subst h1;exact nomatch (show true=false from hj)
  rw [if_neg h0',if_neg h1]
  trivial
def AtI (H:Hp) (v:Value) (x:Int):Prop:=∃b o p c e fr,v=.pointer (some ⟨b,o,none⟩)/\H b=some (p,.cells c e fr)/\c[o]?=some (.int .i64 x)
theorem AtI.le {H H':Hp} {v:Value} {x:Int} (h:AtI H v x) (l:H.le H'):AtI H' v x:=by
 obtain ⟨b,o,p,c,e,fr,h1,h2,h3⟩:=h
 exact ⟨b,o,p,c,e,fr,h1,l _ _ h2,h3⟩
def rc2T:Nat->List Nat:=fun k=>if k=3 then [60] else if k=5 then [62] else if k=6 then [63] else if k=10 then [67] else if k=12 then [69] else if k=13 then [70] else if k=14 then [71] else if k=15 then [12] else []
def rc2Φ (H0:Hp) (f1 f2:List Int) (x1 x2:Int):Nat->(Nat->Value)->Hp->Prop:=fun k f H=>
 if k=3 then SlI H (f 60) f1 else if k=5 then AtI H (f 62) x1 else if k=6 then f 63=.int .i64 x1 else if k=10 then SlI H (f 67) f2 else if k=12 then AtI H (f 69) x2 else if k=13 then f 70=.int .i64 x2 else if k=14 then f 71=.agg #[.int .i64 x1,.int .i64 x2] else
 if k=15 then ∃g,f 12=.pointer (some ⟨g,0,none⟩)/\H g=some (true,.cells #[.int .i64 0,.int .i64 0] 28 (0,0))/\H0 g=none else True
abbrev rc2R (H0:Hp) (f1 f2:List Int) (x1 x2:Int):RestK:={ T:=rc2T,Φ:=rc2Φ H0 f1 f2 x1 x2 }
theorem rc2_le {H0 H H':Hp} {f1 f2:List Int} {x1 x2:Int} (i:Nat) (l:H.le H'):keepH (rc2R H0 f1 f2 x1 x2) i H H':=⟨fun k f _ h=>by
 show rc2Φ H0 f1 f2 x1 x2 k f H'
 replace h:rc2Φ H0 f1 f2 x1 x2 k f H:=h
 unfold rc2Φ at h ⊢
 repeat' split at h
 all_goals simp only [*,Nat.reduceEqDiff,if_true,if_false]
 ·exact SlI.le h l
 ·exact AtI.le h l
 ·exact SlI.le h l
 ·exact AtI.le h l
 ·obtain ⟨g,h1,h2,h3⟩:=h
  exact ⟨g,h1,l _ _ h2,h3⟩,fun _ _ h=>h⟩
theorem reach9_spec (m:Md) (H:Hp) (s:Sm) (dv hv nv:Value) (hs:RsS H dv hv nv s) (hl1:s.doors.length<=1000) (hl2:s.hampers.length<=1000) (hl3:s.noses.length<=1000) (a b:Int) :
  FnX Tryz.prog m 16 #[smV s.places dv hv nv,.int .i64 a,.int .i64 b] H fun e H'=>e=.returned (.tuple #[.agg #[.int .i64 (reaA s a b).1,.int .i64 (reaA s a b).2.1],.int .i64 (reaA s a b).2.2])/\H.le H':=by
 have hr:reaA s a b=if chkS s=0 then reaE s a b else (0,0,chkS s):=rfl
 generalize reaA s a b=r at *
 obtain ⟨da,dc,ha,kc,na,nc,rfl,rfl,rfl,l1,l2,l3⟩:=hs.forms
 refine Aqn func16 rfl ntmps16 (by simp) ?_
 (refine @unH _ (zA y16_183 ?_);(try clear hK K);intro K hK hc)
 (intro sb hsb rb hrb;replace hrb:(Hp.set _ sb _) rb=none:=hrb;generalize hG:Hp.set _ sb _=H1 at hrb ⊢;have lH1:=Aqc hG hsb;have wsb:=Aqb hG;clear hG;generalize hG:Hp.set _ rb _=H2;have lH2:=Aqc hG hrb;have vrb:=Aqb hG;have vsb:=lH2 _ _ wsb;have nsbrb:=Aqr wsb hrb;clear hG wsb)
 have l02:=Hp.le_trans lH1 lH2
 have hs2:=hs.le l02
 have h0rb:=Hp.le_none lH1 hrb
 clear lH1 lH2 hrb hs
 have hC:=check9_is m H2 s _ _ _ hs2 hl1 hl2 hl3
 by_cases hz:chkS s=0
 ·have ok:=chkS_ok.1 hz
  rw [if_pos hz] at hr
  rw [hz] at hC
  have k0:=ok.p0
  have k1:=ok.p1
  clear hz
  replace hr:Aqk _:=hr
  replace hC:Aqk _:=hC
  (refine @unH _ (zU y16_183 ?_);(try clear hK K);intro K hK hc)
  refine (FnX.calm (show FnX _ _ _ _ _ _ from hC)).mono ?_;rintro _ HQ ⟨rfl,hHQ⟩;rw [hHQ];clear hHQ HQ;(refine @unH _ (zU y16_183 ?_);(try clear hK K);intro K hK hc)
  clear hC
  by_cases hao:a<0∨s.places-1<a
  ·obtain rfl:r=(0,0,3):=by
    have h:=(show r=_ from hr)
    unfold reaE at h
    rwa [if_pos (.inl hao)] at h
   clear hr
   refine (FnX.calm (place9_is m H2 s.places _ _ _ a false (in_no hao) k0 k1 rfl rfl rfl)).mono ?_;rintro _ HQ ⟨rfl,hHQ⟩;rw [hHQ];clear hHQ HQ;(refine @unH _ (zU y16_183 ?_);(try clear hK K);intro K hK hc)
   (refine Axr ?_;(try simp only [nq,↓reduceIte,Nat.reduceEqDiff]);rw [Aq8,Go.X.results_cell_tmp results16 (by decide) (by decide) (b:=rb) (o:=0) rfl underlying28 rfl sizeOf28];simp -implicitDefEqProofs (disch:=first | omega | (simp only [qd]<;>omega)) only [xq,↓xp,qc,Nat.reduceAdd,List.range,List.range.loop,fine,Nat.reduceEqDiff,↓reduceIte,yielded,reduceCtorEq,Nat.reduceLT,Nat.reduceMul,Nat.reduceSub,one,Nat.reduceLeDiff,Aqg,y16_183,Axl,List.extract_toArray])
   exact Az4 l02 h0rb
  refine (FnX.calm (place9_is m H2 s.places _ _ _ a true (in_yes hao) k0 k1 rfl rfl rfl)).mono ?_;rintro _ HQ ⟨rfl,hHQ⟩;rw [hHQ];clear hHQ HQ;(refine @unH _ (zU y16_183 ?_);intro _ _ hc)
  by_cases hbo:b<0∨s.places-1<b
  ·obtain rfl:r=(0,0,3):=by
    have h:=(show r=_ from hr)
    unfold reaE at h
    rwa [if_pos (.inr hbo)] at h
   clear hr
   refine (FnX.calm (place9_is m H2 s.places _ _ _ b false (in_no hbo) k0 k1 rfl rfl rfl)).mono ?_;rintro _ HQ ⟨rfl,hHQ⟩;rw [hHQ];clear hHQ HQ;((try (refine @unH _ ?_;refine zX y16_183 ?_));(try (refine hK _ _ ?_;clear hK K;try refine @unH _ (zQ ?_)));refine @unH _ (zA y16_183 ?_);(try clear hK K);intro K hK hc)
   (refine Axr ?_;(try simp only [nq,↓reduceIte,Nat.reduceEqDiff]);rw [Aq8,Go.X.results_cell_tmp results16 (by decide) (by decide) (b:=rb) (o:=0) rfl underlying28 rfl sizeOf28];simp -implicitDefEqProofs (disch:=first | omega | (simp only [qd]<;>omega)) only [xq,↓xp,qc,Nat.reduceAdd,List.range,List.range.loop,fine,Nat.reduceEqDiff,↓reduceIte,yielded,reduceCtorEq,Nat.reduceLT,Nat.reduceMul,Nat.reduceSub,one,Nat.reduceLeDiff,Aqg,y16_183,Axl,List.extract_toArray])
   exact Az4 l02 h0rb
  have a0:0<=a:=by omega
  have a1:a<s.places:=by omega
  have b0:0<=b:=by omega
  have b1:b<s.places:=by omega
  refine (FnX.calm (place9_is m H2 s.places _ _ _ b true (in_yes hbo) k0 k1 rfl rfl rfl)).mono ?_;rintro _ HQ ⟨rfl,hHQ⟩;rw [hHQ];clear hHQ HQ;((try (refine @unH _ ?_;refine zX y16_183 ?_));(try (refine hK _ _ ?_;clear hK K;try refine @unH _ (zQ ?_)));refine @unH _ (zA y16_183 ?_);(try clear hK K);intro K hK hc)
  clear hao hbo
  have hR:=rea_ref ok a0 a1 b0 b1
  rw [<-show r=_ from hr] at hR
  clear hr
  replace hR:Aqk _:=hR
  refine Axg (fun w a' H'=>∃e v9 v10,∃k:Nat,w=s.doors.length-k/\k<=s.doors.length/\a'=act 77 e []/\e 1=.int .i64 a/\e 2=.int .i64 b/\e 3=.pointer (some ⟨sb,0,none⟩)/\e 6=.pointer (some ⟨rb,0,none⟩)/\e 9=v9/\e 10=v10/\e 11=.int .i64 (k:Nat)/\H2.le H'/\RowG 3 1 H' v9 (int1 ((s.doors.take k).map Dr.mn))/\RowG 3 1 H' v10 (int1 ((s.doors.take k).map Dr.mx))/\Aqk (∀x,rowB v9=some x->H2 x=none)/\Aqk (∀x,rowB v10=some x->H2 x=none/\rowB v9≠some x)) (n:=s.doors.length) ?_ ?_
  ·exact ⟨_,_,_,0,by omega,by omega,rfl,rfl,rfl,rfl,rfl,rfl,rfl,rfl,Hp.le_refl _,RowG.nil,RowG.nil,(fun x h=>by cases h),(fun x h=>by cases h)⟩
  rename_i eold
  clear eold
  rintro w a' H3 ⟨e,v9,v10,k,rfl,hk,rfl,e1,e2,e3,e6,e9,e10,e11,l23,r9,r10,n9,n10⟩
  have vsb3:=l23 _ _ vsb
  have vrb3:=l23 _ _ vrb
  by_cases hlt:k<s.doors.length
  ·have hlt':(k:Int)<s.doors.length:=by omega
   have hkd:=List.getElem?_eq_getElem hlt
   obtain ⟨db,dof,dp,dcl,dee,dfr,rfl,hdb,-,-,hdm,hdx⟩:=RdD.get1 (show RdD H2 _ s.doors from hs2.dd) hkd
   have ht1:(s.doors.take (k+1)).map Dr.mn=(s.doors.take k).map Dr.mn++[s.doors[k].mn]:=by rw [List.take_add_one,hkd,List.map_append];rfl
   have ht2:(s.doors.take (k+1)).map Dr.mx=(s.doors.take k).map Dr.mx++[s.doors[k].mx]:=by rw [List.take_add_one,hkd,List.map_append];rfl
   have hm1:((s.doors.take k).map Dr.mn).length<=100000:=by rw [List.length_map,List.length_take];omega
   have hm2:((s.doors.take k).map Dr.mx).length<=100000:=by rw [List.length_map,List.length_take];omega
   clear hkd
   generalize s.doors[k]=d at *
   generalize (s.doors.take k).map Dr.mn=m1 at *
   generalize (s.doors.take k).map Dr.mx=m2 at *
   have hdb3:=l23 _ _ hdb
   have N9:∀x u,H2 x=some u->rowB v9≠some x:=fun x u hu h=>by rw [(show ∀x,rowB v9=some x->H2 x=none from n9) x h] at hu;cases hu
   have N10:∀x u,H2 x=some u->rowB v10≠some x:=fun x u hu h=>by rw [((show ∀x,rowB v10=some x->H2 x=none/\rowB v9≠some x from n10) x h).1] at hu;cases hu
   have mkS:∀HX,Kp2 (rowB v9) (rowB v10) H3 HX->(∀x,HX x=none->H3 x=none)->(fun HX=>Kp2 (rowB v9) (rowB v10) H3 HX/\(∀x,HX x=none->H3 x=none)/\HX sb=some (true,.cells #[.int .i64 s.places,.slice (some ⟨db,dof,none⟩) s.doors.length dc,.slice ha s.hampers.length kc,.slice na s.noses.length nc] 26 (0,0))/\HX db=some (dp,.cells dcl dee dfr)) HX:=fun HX kp dm=>⟨kp,dm,kp _ _ vsb3 (N9 _ _ vsb) (N10 _ _ vsb),kp _ _ hdb3 (N9 _ _ hdb) (N10 _ _ hdb)⟩
   have h9:∀y,rowB v9=some y->∃u,H3 y=some u:=fun y hy=>(r9.cell hy).imp' _ fun c hc=>hc
   have h10:∀y,rowB v10=some y->∃u,H3 y=some u:=fun y hy=>(r10.cell hy).imp' _ fun c hc=>hc
   have hne:∀y,rowB v10=some y->rowB v9≠some y:=fun y hy=>((show ∀x,rowB v10=some x->H2 x=none/\rowB v9≠some x from n10) y hy).2
   have hne':∀y,rowB v9=some y->rowB v10≠some y:=fun y hy h=>hne y h hy
   have hΨ:∀j,rchΨ v9 v10 m1 m2 j H3:=fun j=>by
    unfold rchΨ
    split
    ·exact r9
    ·split
     ·exact r10
     ·trivial
   have hnw:∀v,(∀x,rowB v=some x->rowB v9=some x∨H3 x=none)->∀x,rowB v=some x->H2 x=none:=fun v hv x hx=>(hv x hx).elim ((show ∀x,rowB v9=some x->H2 x=none from n9) x) fun h=>Hp.le_none l23 h
   have hnw2:∀v,(∀x,rowB v=some x->rowB v10=some x∨H3 x=none)->∀x,rowB v=some x->H2 x=none:=fun v hv x hx=>(hv x hx).elim (fun h=>((show ∀x,rowB v10=some x->H2 x=none/\rowB v9≠some x from n10) x h).1) fun h=>Hp.le_none l23 h
   replace N9:Aqk _:=N9
   replace N10:Aqk _:=N10
   replace mkS:Aqk _:=mkS
   replace h9:Aqk _:=h9
   replace h10:Aqk _:=h10
   replace hne:Aqk _:=hne
   replace hne':Aqk _:=hne'
   replace hΨ:Aqk _:=hΨ
   replace hnw:Aqk _:=hnw
   replace hnw2:Aqk _:=hnw2
   replace ht1:Aqk _:=ht1
   replace ht2:Aqk _:=ht2
   replace hm1:Aqk _:=hm1
   replace hm2:Aqk _:=hm2
   replace r9:Aqk _:=r9
   replace r10:Aqk _:=r10
   (refine @unH _ (zA y16_183 ?_);(try clear hK K);intro K hK hc)
   have hS0:=(show ∀HX,_->_->_ from mkS) H3 (Kp2.refl _ _ _) (fun _ h=>h)
   have hS1:=hS0
   replace hS0:Kp2 (rowB v9) (rowB v10) H3 H3/\(∀x,H3 x=none->H3 x=none)/\H3 sb=some (true,.cells #[.int .i64 s.places,.slice (some ⟨db,dof,none⟩) s.doors.length dc,.slice ha s.hampers.length kc,.slice na s.noses.length nc] 26 (0,0))/\H3 db=some (dp,.cells dcl dee dfr):=hS0
   refine Axm (fun HX=>Kp2 (rowB v9) (rowB v10) H3 HX/\(∀x,HX x=none->H3 x=none)/\HX sb=some (true,.cells #[.int .i64 s.places,.slice (some ⟨db,dof,none⟩) s.doors.length dc,.slice ha s.hampers.length kc,.slice na s.noses.length nc] 26 (0,0))/\HX db=some (dp,.cells dcl dee dfr)) [21] (.free 0 (.free 1 (.take 2 (.free 3 (.free 4 (.free 5 (.free 6 (.take 7 (.free 10 (.free 11 (.take 12 (.free 13 (.free 14 (.free 15 (.free 16 (.take 17 (.rest #[true,true,true,true,true,true,true,true,false,false,true,true,true,true,true,true,true,true,false,false,false,false]))))))))))))))))) (by kernel_rfl) (by kernel_rfl) (by decide) (by kernel_rfl) ?_;intro K hK
   refine Ax6 fun ops hOz=>?_
   (iterate 2 (refine @unH _ ?_;refine zF y16_183 ?_))
   (refine @unH _ ?_;refine zK (aN y16_183 @exists_eq_left'.{1}) ?_)
   (iterate 4 (refine @unH _ ?_;refine zF y16_183 ?_))
   (refine @unH _ ?_;refine zK (aN y16_183 @exists_eq_left'.{1}) ?_)
   (iterate 2 (refine @unH _ ?_;refine zF y16_183 ?_))
   (refine @unH _ ?_;refine zK (aN y16_183 @exists_eq_left'.{1}) ?_)
   (iterate 4 (refine @unH _ ?_;refine zF y16_183 ?_))
   (refine @unH _ ?_;refine zK (aN y16_183 @exists_eq_left'.{1}) ?_)
   clear hS0
   refine planZ_rest hOz (rchR H3 v9 v10 m1 m2 d.mn d.mx) (by kernel_rfl) (by decide) hS1 hΨ ?_
   (iterate 8 refine restAll_skip (by rfl) ?_)
   refine restAll_cons ?_ ?_
   ·intro e' HX hS he hd hp
    obtain ⟨kp,dm,-,-⟩:=hS
    have e44:e' 44=.int .i64 d.mn:=he 44 (by kernel_rfl)
    clear he hd hp
    refine ⟨by rfl,?_⟩
    (refine @unH _ ?_;refine zX y16_183 ?_)
    intro g hg
    exact ⟨(show ∀HX,_->_->_ from mkS) _ (kp.le (Hp.le_set hg)) (fun x hx=>dm x (Az8 hx).2),⟨_,rfl,g,rfl,Axh,dm g hg⟩,rch_le _ (Hp.le_set hg)⟩
   refine restAll_cons ?_ ?_
   ·intro e' HX hS he hd hp
    obtain ⟨kp,dm,-,-⟩:=hS
    have e37:e' 37=v9:=he 37 (by kernel_rfl)
    obtain ⟨g,e45,hg,hg0⟩:OneI H3 HX (e' 45) d.mn:=hd 8 (by kernel_rfl)
    have hr9:RowG 3 1 HX v9 (int1 m1):=hp 0 (by kernel_rfl)
    clear he hd hp
    refine ⟨by rfl,?_⟩
    (refine @unH _ ?_;refine zX y16_183 ?_)
    refine append_I1 hr9 ⟨g,rfl,hg,hg0⟩ (show ∀y,_->_ from h9) (show _<=_ from hm1) dm _ _ _ _ (fun v' H' hn hk hdm hnx=>?_)
    (refine @unH _ ?_;refine zX y16_183 ?_)
    exact ⟨(show ∀HX,_->_->_ from mkS) _ (fun x u hx h1 h2=>hk x u (kp x u hx h1 h2) h1) (fun x hx=>dm x (hdm x hx)),⟨_,rfl,hn⟩,rch_keep9 (show ∀y,_->_ from h9) (show ∀y,_->_ from hne) hk⟩
   (iterate 8 refine restAll_skip (by rfl) ?_)
   refine restAll_cons ?_ ?_
   ·intro e' HX hS he hd hp
    obtain ⟨kp,dm,-,-⟩:=hS
    have e54:e' 54=.int .i64 d.mx:=he 54 (by kernel_rfl)
    clear he hd hp
    refine ⟨by rfl,?_⟩
    (refine @unH _ ?_;refine zX y16_183 ?_)
    intro g hg
    exact ⟨(show ∀HX,_->_->_ from mkS) _ (kp.le (Hp.le_set hg)) (fun x hx=>dm x (Az8 hx).2),⟨_,rfl,g,rfl,Axh,dm g hg⟩,rch_le _ (Hp.le_set hg)⟩
   refine restAll_cons ?_ ?_
   ·intro e' HX hS he hd hp
    obtain ⟨kp,dm,-,-⟩:=hS
    have e47:e' 47=v10:=he 47 (by kernel_rfl)
    obtain ⟨g,e55,hg,hg0⟩:OneI H3 HX (e' 55) d.mx:=hd 18 (by kernel_rfl)
    have hr10:RowG 3 1 HX v10 (int1 m2):=hp 1 (by kernel_rfl)
    have h46:RowN H3 v9 HX (e' 46) (m1++[d.mn]):=hd 9 (by kernel_rfl)
    clear he hd hp
    refine ⟨by rfl,?_⟩
    (refine @unH _ ?_;refine zX y16_183 ?_)
    refine append_I1 hr10 ⟨g,rfl,hg,hg0⟩ (show ∀y,_->_ from h10) (show _<=_ from hm2) dm _ _ _ _ (fun v' H' hn hk hdm hnx=>?_)
    (refine @unH _ ?_;refine zX y16_183 ?_)
    exact ⟨(show ∀HX,_->_->_ from mkS) _ (fun x u hx h1 h2=>hk x u (kp x u hx h1 h2) h2) (fun x hx=>dm x (hdm x hx)),⟨_,rfl,hn,fun x hx h=>(hnx x hx).elim (fun h1=>(h46.2 x h).elim (fun h2=>(show ∀y,_->_ from hne') x h2 h1) fun h2=>by obtain ⟨u,hu⟩:=(show ∀y,_->_ from h10) x h1;rw [h2] at hu;cases hu) fun h1=>by obtain ⟨c,hcc⟩:=h46.1.cell h;rw [h1] at hcc;cases hcc⟩,rch_keep19 (show ∀y,_->_ from h10) (show ∀y,_->_ from hne') hk⟩
   refine restAll_cons ?_ ?_
   ·intro e' HX hS he hd hp
    obtain ⟨kp,dm,-,-⟩:=hS
    replace kp:Aqk _:=kp
    clear he hd hp
    refine ⟨by rfl,?_⟩
    (refine @unH _ ?_;refine zX y16_183 ?_)
    exact ⟨(show ∀HX,_->_->_ from mkS) _ kp dm,⟨_,rfl,rfl⟩,keepH.refl _ _ _⟩
   refine restAll_one ?_
   intro e' HX hS he hd hp
   obtain ⟨kp,dm,-,-⟩:=hS
   have h20:e' 9=e' 46:=hd 20 (by kernel_rfl)
   have h9':RowN H3 v9 HX (e' 46) (m1++[d.mn]):=hd 9 (by kernel_rfl)
   obtain ⟨h10',hsep⟩:RowN H3 v10 HX (e' 56) (m2++[d.mx])/\∀x,rowB (e' 56)=some x->rowB (e' 46)≠some x:=hd 19 (by kernel_rfl)
   rw [<-h20] at h9' hsep
   have q1:e' 1=.int .i64 a:=(he 1 (by kernel_rfl)).trans e1
   have q2:e' 2=.int .i64 b:=(he 2 (by kernel_rfl)).trans e2
   have q3:e' 3=.pointer (some ⟨sb,0,none⟩):=(he 3 (by kernel_rfl)).trans e3
   have q6:e' 6=.pointer (some ⟨rb,0,none⟩):=(he 6 (by kernel_rfl)).trans e6
   have q11:e' 11=.int .i64 (k:Nat):=(he 11 (by kernel_rfl)).trans e11
   clear he hd hp e1 e2 e3 e6 e9 e10 e11 hS1 vsb3 hdb3 hdb hdm hdx
   refine ⟨by rfl,?_⟩
   (refine @unH _ ?_;refine zX y16_183 ?_)
   refine hK _ _ ?_
   clear hK K
   (try refine @unH _ (zQ ?_))
   have vsbX:HX sb=_:=kp _ _ (l23 _ _ vsb) ((show ∀x u,_->_ from N9) _ _ vsb) ((show ∀x u,_->_ from N10) _ _ vsb)
   have l2X:H2.le HX:=fun x u hx=>kp _ _ (l23 _ _ hx) ((show ∀x u,_->_ from N9) _ _ hx) ((show ∀x u,_->_ from N10) _ _ hx)
   have fin9:=(show ∀v,_->_ from hnw) _ h9'.2
   have fin10:=(show ∀v,_->_ from hnw2) _ h10'.2
   have f9:=h9'.1
   have f10:=h10'.1
   rw [<-show (s.doors.take (k+1)).map Dr.mn=_ from ht1] at f9
   rw [<-show (s.doors.take (k+1)).map Dr.mx=_ from ht2] at f10
   clear h9' h10' h20 kp dm
   replace f9:Aqk _:=f9
   replace f10:Aqk _:=f10
   replace fin9:Aqk _:=fin9
   replace fin10:Aqk _:=fin10
   replace hsep:Aqk _:=hsep
   (refine @unH _ (zA y16_183 ?_);(try clear hK K);intro K hK hc)
   exact ⟨s.doors.length-(k+1),by omega,_,_,_,k+1,rfl,by omega,rfl,q1,q2,q3,q6,rfl,rfl,rfl,l2X,f9,f10,fin9,fun x hx=>⟨(show ∀x,_->_ from fin10) x hx,(show ∀x,_->_ from hsep) x hx⟩⟩
  obtain rfl:k=s.doors.length:=by omega
  rw [List.take_length] at r9 r10
  have hf1:=SlI.rd (SlG.ints1 (r9.slG (by decide)))
  have hf2:=SlI.rd (SlG.ints1 (r10.slG (by decide)))
  clear r9 r10 n9 n10
  have hF1:=fun HX (l:H3.le HX)=>far9_spec m HX s _ _ _ (hs2.le (Hp.le_trans l23 l)) ok a a0 a1 v9 _ (hf1.le l) (Dja (pl:=s.places) ok.dk)
  have hF2:=fun HX (l:H3.le HX)=>far9_spec m HX s _ _ _ (hs2.le (Hp.le_trans l23 l)) ok a a0 a1 v10 _ (hf2.le l) (Djb (pl:=s.places) ok.dk)
  have hn1:=farR_len s.places s.doors a (s.doors.map Dr.mn)
  have hn2:=farR_len s.places s.doors a (s.doors.map Dr.mx)
  generalize farR s.places s.doors a (s.doors.map Dr.mn)=f1 at *
  generalize farR s.places s.doors a (s.doors.map Dr.mx)=f2 at *
  have hg1:=Av4 (c:=f1) b0 (by omega)
  have hg2:=Av4 (c:=f2) b0 (by omega)
  have hz1:f1≠[]:=fun e=>by rw [e] at hn1;simp at hn1;omega
  have hz2:f2≠[]:=fun e=>by rw [e] at hn2;simp at hn2;omega
  have hb1:b<f1.length:=by omega
  have hb2:b<f2.length:=by omega
  generalize hx1:gI f1 b=x1 at *
  generalize hx2:gI f2 b=x2 at *
  clear hx1 hx2 hn1 hn2 hf1 hf2
  replace hF1:Aqk _:=hF1
  replace hF2:Aqk _:=hF2
  replace hg1:Aqk _:=hg1
  replace hg2:Aqk _:=hg2
  replace hz1:Aqk _:=hz1
  replace hz2:Aqk _:=hz2
  have hlt':¬(s.doors.length:Int)<s.doors.length:=by omega
  (refine @unH _ (zA y16_183 ?_);(try clear hK K);intro K hK hc)
  clear e11
  have mkS:∀HX,H3.le HX->(fun HX=>H3.le HX/\HX sb=some (true,.cells #[.int .i64 s.places,.slice da s.doors.length dc,.slice ha s.hampers.length kc,.slice na s.noses.length nc] 26 (0,0))) HX:=fun HX l=>⟨l,l _ _ vsb3⟩
  have hS0:=mkS H3 (Hp.le_refl _)
  have hS1:=hS0
  replace hS0:H3.le H3/\H3 sb=some (true,.cells #[.int .i64 s.places,.slice da s.doors.length dc,.slice ha s.hampers.length kc,.slice na s.noses.length nc] 26 (0,0)):=hS0
  replace mkS:Aqk _:=mkS
  refine Axm (fun HX=>H3.le HX/\HX sb=some (true,.cells #[.int .i64 s.places,.slice da s.doors.length dc,.slice ha s.hampers.length kc,.slice na s.noses.length nc] 26 (0,0))) [16] (.take 0 (.free 1 (.free 2 (.free 4 (.take 7 (.free 8 (.free 9 (.free 11 (.rest #[true,true,true,false,true,false,false,true,true,true,false,true,false,false,false,false,false]))))))))) (by kernel_rfl) (by kernel_rfl) (by decide) (by kernel_rfl) ?_;intro K hK
  refine Ax6 fun ops hOz=>?_
  (refine @unH _ ?_;refine zK (aN y16_183 @exists_eq_left'.{1}) ?_)
  (iterate 3 (refine @unH _ ?_;refine zF y16_183 ?_))
  (refine @unH _ ?_;refine zK (aN y16_183 @exists_eq_left'.{1}) ?_)
  (iterate 3 (refine @unH _ ?_;refine zF y16_183 ?_))
  clear hS0
  refine planZ_rest hOz (rc2R H3 f1 f2 x1 x2) (by kernel_rfl) (by decide) hS1 (fun _=>trivial) ?_
  (iterate 3 refine restAll_skip (by rfl) ?_)
  refine restAll_cons ?_ ?_
  ·intro e' HX hS he hd hp
   obtain ⟨l,-⟩:=hS
   have e57:e' 57=smV s.places (.slice da s.doors.length dc) (.slice ha s.hampers.length kc) (.slice na s.noses.length nc):=he 57 (by kernel_rfl)
   have e58:e' 58=.int .i64 a:=he 58 (by kernel_rfl)
   have e59:e' 59=v9:=he 59 (by kernel_rfl)
   clear he hd hp
   refine ⟨by rfl,?_⟩
   (refine @unH _ ?_;refine zX y16_183 ?_)
   refine ((show ∀HX,_->FnX _ _ _ _ _ _ from hF1) HX l).runs.mono ?_
   rintro _ H4 ⟨w,rfl,hw,l4⟩
   simp -implicitDefEqProofs (disch:=omega) only [Azn,Aq3,Aql]
   exact ⟨(show ∀HX,_->_ from mkS) _ (Hp.le_trans l l4),⟨_,rfl,hw⟩,rc2_le _ l4⟩
  (iterate 1 refine restAll_skip (by rfl) ?_)
  refine restAll_cons ?_ ?_
  ·intro e' HX hS he hd hp
   obtain ⟨l,-⟩:=hS
   have hw:SlI HX (e' 60) f1:=hd 3 (by kernel_rfl)
   obtain ⟨bb,bo,bc,bp,bcl,bfr,e60,-,hbb,hbx⟩:=hw.cons (show f1≠[] from hz1)
   have hbx':=hbx _ _ (show f1[b.toNat]?=some x1 from hg1)
   have e61:e' 61=.int .i64 b:=he 61 (by kernel_rfl)
   replace l:Aqk _:=l
   clear he hd hp hw hbx
   refine ⟨by rfl,?_⟩
   (refine @unH _ ?_;refine zX y16_183 ?_)
   exact ⟨(show ∀HX,_->_ from mkS) _ l,⟨_,rfl,_,_,_,_,_,_,rfl,hbb,by simpa using hbx'⟩,keepH.refl _ _ _⟩
  refine restAll_cons ?_ ?_
  ·intro e' HX hS he hd hp
   obtain ⟨l,-⟩:=hS
   obtain ⟨bb,bo,bp,bcl,be,bfr,e62,hbb,hbx⟩:AtI HX (e' 62) x1:=hd 5 (by kernel_rfl)
   replace l:Aqk _:=l
   clear he hd hp
   refine ⟨by rfl,?_⟩
   (refine @unH _ ?_;refine zX y16_183 ?_)
   exact ⟨(show ∀HX,_->_ from mkS) _ l,⟨_,rfl,rfl⟩,keepH.refl _ _ _⟩
  (iterate 3 refine restAll_skip (by rfl) ?_)
  refine restAll_cons ?_ ?_
  ·intro e' HX hS he hd hp
   obtain ⟨l,-⟩:=hS
   have e64:e' 64=smV s.places (.slice da s.doors.length dc) (.slice ha s.hampers.length kc) (.slice na s.noses.length nc):=he 64 (by kernel_rfl)
   have e65:e' 65=.int .i64 a:=he 65 (by kernel_rfl)
   have e66:e' 66=v10:=he 66 (by kernel_rfl)
   clear he hd hp
   refine ⟨by rfl,?_⟩
   (refine @unH _ ?_;refine zX y16_183 ?_)
   refine ((show ∀HX,_->FnX _ _ _ _ _ _ from hF2) HX l).runs.mono ?_
   rintro _ H4 ⟨w,rfl,hw,l4⟩
   simp -implicitDefEqProofs (disch:=omega) only [Azn,Aq3,Aql]
   exact ⟨(show ∀HX,_->_ from mkS) _ (Hp.le_trans l l4),⟨_,rfl,hw⟩,rc2_le _ l4⟩
  (iterate 1 refine restAll_skip (by rfl) ?_)
  refine restAll_cons ?_ ?_
  ·intro e' HX hS he hd hp
   obtain ⟨l,-⟩:=hS
   have hw:SlI HX (e' 67) f2:=hd 10 (by kernel_rfl)
   obtain ⟨bb,bo,bc,bp,bcl,bfr,e67,-,hbb,hbx⟩:=hw.cons (show f2≠[] from hz2)
   have hbx':=hbx _ _ (show f2[b.toNat]?=some x2 from hg2)
   have e68:e' 68=.int .i64 b:=he 68 (by kernel_rfl)
   replace l:Aqk _:=l
   clear he hd hp hw hbx
   refine ⟨by rfl,?_⟩
   (refine @unH _ ?_;refine zX y16_183 ?_)
   exact ⟨(show ∀HX,_->_ from mkS) _ l,⟨_,rfl,_,_,_,_,_,_,rfl,hbb,by simpa using hbx'⟩,keepH.refl _ _ _⟩
  refine restAll_cons ?_ ?_
  ·intro e' HX hS he hd hp
   obtain ⟨l,-⟩:=hS
   obtain ⟨bb,bo,bp,bcl,be,bfr,e69,hbb,hbx⟩:AtI HX (e' 69) x2:=hd 12 (by kernel_rfl)
   replace l:Aqk _:=l
   clear he hd hp
   refine ⟨by rfl,?_⟩
   (refine @unH _ ?_;refine zX y16_183 ?_)
   exact ⟨(show ∀HX,_->_ from mkS) _ l,⟨_,rfl,rfl⟩,keepH.refl _ _ _⟩
  refine restAll_cons ?_ ?_
  ·intro e' HX hS he hd hp
   obtain ⟨l,-⟩:=hS
   have e63:e' 63=.int .i64 x1:=hd 6 (by kernel_rfl)
   have e70:e' 70=.int .i64 x2:=hd 13 (by kernel_rfl)
   replace l:Aqk _:=l
   clear he hd hp
   refine ⟨by rfl,?_⟩
   (refine @unH _ ?_;refine zX y16_183 ?_)
   exact ⟨(show ∀HX,_->_ from mkS) _ l,⟨_,rfl,rfl⟩,keepH.refl _ _ _⟩
  refine restAll_cons ?_ ?_
  ·intro e' HX hS he hd hp
   obtain ⟨l,-⟩:=hS
   clear he hd hp
   refine ⟨by rfl,?_⟩
   (refine @unH _ ?_;refine zX y16_183 ?_)
   intro g hg
   exact ⟨(show ∀HX,_->_ from mkS) _ (Hp.le_trans l (Hp.le_set hg)),⟨_,rfl,g,rfl,Axh,Hp.le_none l hg⟩,rc2_le _ (Hp.le_set hg)⟩
  refine restAll_one ?_
  intro e' HX hS he hd hp
  obtain ⟨l,-⟩:=hS
  obtain ⟨g,e12,vg,hg⟩:∃g,e' 12=.pointer (some ⟨g,0,none⟩)/\HX g=some (true,.cells #[.int .i64 0,.int .i64 0] 28 (0,0))/\H3 g=none:=hd 15 (by kernel_rfl)
  have e71:e' 71=.agg #[.int .i64 x1,.int .i64 x2]:=hd 14 (by kernel_rfl)
  have q6:e' 6=.pointer (some ⟨rb,0,none⟩):=(he 6 (by kernel_rfl)).trans e6
  have vrbX:=l _ _ vrb3
  have hgr:g≠rb:=fun e=>by rw [e,vrb3] at hg;cases hg
  have hgr':rb≠g:=Ne.symm hgr
  have l3:H.le HX:=Hp.le_trans l02 (Hp.le_trans l23 l)
  have h0g:H g=none:=Hp.le_none (Hp.le_trans l02 l23) hg
  clear he hd hp e1 e2 e3 e6 e9 e10 hS1 vsb3 vrb3 l hg mkS hF1 hF2
  refine ⟨by rfl,?_⟩
  (refine @unH _ ?_;refine zX y16_183 ?_)
  refine hK _ _ ?_
  clear hK K
  (try refine @unH _ (zQ ?_))
  have hR':=(show r=_ from hR)
  clear hR
  by_cases hx:x1=1000
  ·rw [if_pos hx] at hR'
   subst hx
   (refine @unH _ (zA y16_183 ?_);(try clear hK K);intro K hK hc)
   subst hR'
   (refine Axr ?_;(try simp only [nq,↓reduceIte,Nat.reduceEqDiff]);rw [Aq8,Go.X.results_cell_tmp results16 (by decide) (by decide) (b:=rb) (o:=0) ?hcell underlying28 rfl sizeOf28];(case hcell=>exact q6);simp -implicitDefEqProofs (disch:=first | omega | (simp only [qd]<;>omega)) only [xq,↓xp,qc,Nat.reduceAdd,List.range,List.range.loop,fine,Nat.reduceEqDiff,↓reduceIte,yielded,reduceCtorEq,Nat.reduceLT,Nat.reduceMul,Nat.reduceSub,one,Nat.reduceLeDiff,Aqg,y16_183,Axl,List.extract_toArray])
   exact Az4 (Az4 l3 h0g) h0rb
  ·rw [if_neg hx] at hR'
   (refine @unH _ (zA y16_183 ?_);(try clear hK K);intro K hK hc)
   subst hR'
   (refine Axr ?_;(try simp only [nq,↓reduceIte,Nat.reduceEqDiff]);rw [Aq8,Go.X.results_cell_tmp results16 (by decide) (by decide) (b:=rb) (o:=0) ?hcell underlying28 rfl sizeOf28];(case hcell=>exact q6);simp -implicitDefEqProofs (disch:=first | omega | (simp only [qd]<;>omega)) only [xq,↓xp,qc,Nat.reduceAdd,List.range,List.range.loop,fine,Nat.reduceEqDiff,↓reduceIte,yielded,reduceCtorEq,Nat.reduceLT,Nat.reduceMul,Nat.reduceSub,one,Nat.reduceLeDiff,Aqg,y16_183,Axl,List.extract_toArray])
   exact Az4 (Az4 l3 h0g) h0rb
 ·rw [if_neg hz] at hr
  generalize chkS s=y at *
  subst hr
  (refine @unH _ (zU y16_183 ?_);(try clear hK K);intro K hK hc)
  refine (FnX.calm (hC)).mono ?_;rintro _ HQ ⟨rfl,hHQ⟩;rw [hHQ];clear hHQ HQ;(refine @unH _ (zU y16_183 ?_);(try clear hK K);intro K hK hc)
  (refine Axr ?_;(try simp only [nq,↓reduceIte,Nat.reduceEqDiff]);rw [Aq8,Go.X.results_cell_tmp results16 (by decide) (by decide) (b:=rb) (o:=0) rfl underlying28 rfl sizeOf28];simp -implicitDefEqProofs (disch:=first | omega | (simp only [qd]<;>omega)) only [xq,↓xp,qc,Nat.reduceAdd,List.range,List.range.loop,fine,Nat.reduceEqDiff,↓reduceIte,yielded,reduceCtorEq,Nat.reduceLT,Nat.reduceMul,Nat.reduceSub,one,Nat.reduceLeDiff,Aqg,y16_183,Axl,List.extract_toArray])
  exact Az4 l02 h0rb
def y15_184:=aN @Dyx (aN @Dw9 (aN @Bkg (aN @Bxy (aN @Dyi (aN @Dwi (aN @Dw2 (aN @Aya (aN @Dy1 (aN @Dwj (aN @Dwz (aN @Dv4 (aN @Dyo (aN @Dyb (aN @Dyz (aN @Dyj (aN @Dwq (aN @Dwm (aN @Dwn (aN @Dv2 (aN @Dy5 (aN @Byf (aN @Dyd (aN @Akw (aN @Byg (aN (fun H=>Cz1 (H:=H) underlying80 underlying3 rfl sizeOf3) (aN @Ajf @Dya))))))))))))))))))))))))))
theorem sReach_any (m:Md) (H:Hp) (s:Sm) (dv hv nv:Value) (hs:SmIn H dv hv nv s) (he:ErrS H) (hl1:s.doors.length<=1000) (hl2:s.hampers.length<=1000) (hl3:s.noses.length<=1000) (a b:Int) :
  FnX Tryz.prog m 15 #[smV s.places dv hv nv,.int .i64 a,.int .i64 b] H fun e H'=>e=.returned (.tuple #[.agg #[.int .i64 (reaA s a b).1,.int .i64 (reaA s a b).2.1],.int .i64 (reaA s a b).2.2])/\H.le H':=by
 have hr:reaA s a b=if chkS s=0 then reaE s a b else (0,0,chkS s):=rfl
 by_cases hz:chkS s=0
 ·rw [if_pos hz] at hr
  rw [hr]
  exact Cqd H s _ _ _ hs (chkS_ok.1 hz) a b m
 rw [if_neg hz] at hr
 rw [hr]
 have hC:=fun H' (l:H.le H')=>smCheck_rd m H' s _ _ _ (hs.rd.le l) (he.le l) hl1 hl2 hl3
 clear hr
 generalize chkS s=y at *
 obtain ⟨da,dc,ha,kc,na,nc,rfl,rfl,rfl,-,-,-⟩:=hs.forms
 clear hs he
 refine Aqn func15 rfl ntmps15 (by simp) ?_
 (refine @unH _ (zA y15_184 ?_);(try clear hK K);intro K hK hc)
 (intro sb hsb rb hrb;replace hrb:(Hp.set _ sb _) rb=none:=hrb;generalize hG:Hp.set _ sb _=H1 at hrb ⊢;have lH1:=Aqc hG hsb;have wsb:=Aqb hG;clear hG;generalize hG:Hp.set _ rb _=H2;have lH2:=Aqc hG hrb;have vrb:=Aqb hG;have vsb:=lH2 _ _ wsb;have nsbrb:=Aqr wsb hrb;clear hG wsb)
 have l02:=Hp.le_trans lH1 lH2
 have hC2:=hC H2 l02
 have h0rb:=Hp.le_none lH1 hrb
 clear lH1 lH2 hrb hC
 replace hC2:Aqk _:=hC2
 (refine @unH _ (zU y15_184 ?_);(try clear hK K);intro K hK hc)
 refine (FnX.calm (show FnX _ _ _ _ _ _ from hC2)).mono ?_;rintro _ HQ ⟨rfl,hHQ⟩;rw [hHQ];clear hHQ HQ;(refine @unH _ (zU y15_184 ?_);(try clear hK K);intro K hK hc)
 (refine Axr ?_;(try simp only [nq,↓reduceIte,Nat.reduceEqDiff]);rw [Aq8,Go.X.results_cell_tmp results15 (by decide) (by decide) (b:=rb) (o:=0) rfl underlying28 rfl sizeOf28];simp -implicitDefEqProofs (disch:=first | omega | (simp only [qd]<;>omega)) only [xq,↓xp,qc,Nat.reduceAdd,List.range,List.range.loop,fine,Nat.reduceEqDiff,↓reduceIte,yielded,reduceCtorEq,Nat.reduceLT,Nat.reduceMul,Nat.reduceSub,one,Nat.reduceLeDiff,Aqg,y15_184,Axl,List.extract_toArray])
 exact Az4 l02 h0rb
def y3_185:=aN @Dw9 (aN @callF9 (aN @callF10 (aN @callF11 (aN @Dyb (aN @Dyc (aN @callF12 (aN (fun H=>Aq9 (H:=H) underlying37) (aN (fun H=>Aqt (H:=H) underlying37 sizeOf26) (aN @callF13 (aN @Dyw (aN @Dyh (aN @Bqh (aN @Avw (aN @Dv5 (aN @Dyp (aN @Dw2 (aN @Dxx (aN @Dyx (aN @Dyi (aN @callF16 (aN @Dya (aN @Bkg (aN @callF18 @callF19)))))))))))))))))))))))
theorem lschecks_spec (H:Hp) (s0:Sm) (dv hv nv:Value) (hr:RsS H dv hv nv s0) (he:ErrS H) (d:Dr) (n:Ns) (a b:Int) (sa:Option Addr) (sl sc:Nat) (hs:∀i:Nat,i<sl->∃sb so c e fr x,sa=some ⟨sb,so,none⟩/\H sb=some (false,.cells c e fr)/\c[so+i]?=some (.int .i64 x)) :
  FnX Tryz.prog (.wg Tryz.prog) 3 #[smV s0.places dv hv nv,.agg #[.int .i64 d.a,.int .i64 d.b,.int .i64 d.mn,.int .i64 d.mx],.agg #[.int .i64 n.pl,.int .i64 n.hr,.bool n.sm],.int .i64 a,.int .i64 b,.slice sa sl sc] H fun e _=>e=.returned (.bool true):=by
 obtain ⟨d0,c0,d1,c1,d2,c2,rfl,rfl,rfl,-,-,-⟩:=hr.forms
 refine Aqn func3 rfl ntmps3 (by simp) ?_
 (refine @unH _ (zA y3_185 ?_);(try clear hK K);intro K hK hc)
 (intro sb hsb db hdb nb hnb;replace hnb:(Hp.set (Hp.set _ sb _) db _) nb=none:=hnb;replace hdb:(Hp.set _ sb _) db=none:=hdb;generalize hG:Hp.set _ sb _=H1 at hdb hnb ⊢;have lH1:=Aqc hG hsb;have wsb:=Aqb hG;clear hG;generalize hG:Hp.set _ db _=H2 at hnb ⊢;have lH2:=Aqc hG hdb;have wdb:=Aqb hG;have nsbdb:=Aqr wsb hdb;replace wsb:=lH2 _ _ wsb;clear hG;generalize hG:Hp.set _ nb _=H3;have lH3:=Aqc hG hnb;have vnb:=Aqb hG;have vsb:=lH3 _ _ wsb;have vdb:=lH3 _ _ wdb;have nsbnb:=Aqr wsb hnb;have ndbnb:=Aqr wdb hnb;clear hG wsb wdb)
 have l3:=Hp.le_trans lH1 (Hp.le_trans lH2 lH3)
 have hr3:=hr.le l3
 have he3:=he.le l3
 have hs3:∀i:Nat,i<sl->∃sb so c e fr x,sa=some ⟨sb,so,none⟩/\H3 sb=some (false,.cells c e fr)/\c[so+i]?=some (.int .i64 x):=fun i hi=>by
  obtain ⟨sb,so,c,e,fr,x,h1,h2,h3⟩:=hs i hi
  exact ⟨sb,so,c,e,fr,x,h1,l3 _ _ h2,h3⟩
 clear hr he hs lH1 lH2 lH3 hsb hdb hnb l3
 replace hs3:Aqk _:=hs3
 (refine @unH _ (zU y3_185 ?_);(try clear hK K);intro K hK hc)
 have hL:=large9_is (.wg Tryz.prog) H3 s0 _ _ _ hr3
 cases hB:bigS s0 with
 | true=>
  rw [hB] at hL
  clear hB
  refine (FnX.calm (hL)).mono ?_;rintro _ HQ ⟨rfl,hHQ⟩;rw [hHQ];clear hHQ HQ;(refine @unH _ (zU y3_185 ?_);(try clear hK K);intro K hK hc)
  refine (smelled_spec H3).runs.mono ?_
  rintro _ H4 ⟨rfl,lH4⟩
  (refine @unH _ (zU y3_185 ?_);(try clear hK K);intro K hK hc)
  (refine Axr ?_;(try simp only [nq,↓reduceIte,Nat.reduceEqDiff]);rw [Aq8,Ayk results3 (by decide)];simp only [Axf,Nat.reduceEqDiff,↓reduceIte])
 | false=>
  rw [hB] at hL
  obtain ⟨g1,g2,g3,-⟩:=bigS_no hB
  clear hB
  refine (FnX.calm (hL)).mono ?_;rintro _ HQ ⟨rfl,hHQ⟩;rw [hHQ];clear hHQ HQ;(refine @unH _ (zU y3_185 ?_);(try clear hK K);intro K hK hc)
  clear hL
  refine (newTinN_spec _ H3 sa sl sc (show ∀i:Nat,_->_ from hs3) 240 (by omega)).runs.mono ?_
  rintro _ H4 ⟨tb,rfl,l34,hT4,h3t⟩
  have vsb4:=l34 _ _ vsb
  have vdb4:=l34 _ _ vdb
  have vnb4:=l34 _ _ vnb
  clear hs3 vsb vdb vnb
  (refine @unH _ (zU y3_185 ?_);(try clear hK K);intro K hK hc)
  refine (several9_spec _ H4 s0.places d0 _ c0 d1 _ c1 d2 _ c2 d n tb 100 (hT4.less (by omega))).runs.mono ?_
  rintro _ H5 ⟨v,qb,s1,s2,dv1,hv1,nv1,dv2,hv2,nv2,rfl,hS,x45,hT5⟩
  obtain ⟨qar,hqar⟩:∃qar:Array Value,qar=#[.int .i64 s0.places,.slice d0 s0.doors.length c0,.slice d1 s0.hampers.length c1,.slice d2 s0.noses.length c2,.int .i64 s1.places,dv1,hv1,nv1,.int .i64 s2.places,dv2,hv2,nv2]:=⟨_,rfl⟩
  have hrow:=fun i (hi:i<3)=>hS.row hr3 l34 h3t x45 hT5 ⟨g1,g2,g3⟩ hqar hi
  have hEr:=fun H' (lx:Lex (some tb) H5 H')=>he3.lx l34 h3t x45 lx
  have vq:=hS.q
  rw [<-hqar] at vq
  obtain rfl:=hS.v
  clear hS hqar x45 hT4 l34 h3t vsb4 vdb4 vnb4 hr3 he3 g1 g2 g3
  replace hrow:Aqk _:=hrow
  replace hEr:Aqk _:=hEr
  (refine @unH _ (zU y3_185 ?_);(try clear hK K);intro K hK hc)
  refine Axg (fun w a' H'=>∃e,∃i:Nat,w=3-i/\i<=3/\a'=act 116 e []/\e 3=.int .i64 a/\e 4=.int .i64 b/\e 13=.pointer (some ⟨tb,0,none⟩)/\e 14=.slice (some ⟨qb,0,none⟩) 3 3/\e 15=.int .i64 (i:Nat)/\Lex (some tb) H5 H'/\TinI H' tb (10*(3-i))) (n:=3) ?_ ?_
  ·exact ⟨_,0,by omega,by omega,rfl,rfl,rfl,rfl,rfl,rfl,Lex.refl,hT5.less (by omega)⟩
  rename_i eold
  clear eold
  rintro w a' H6 ⟨e,i,rfl,hi,rfl,e3,e4,e13,e14,e15,x56,hT6⟩
  by_cases hlt:i<3
  ·have hlt':(i:Int)<3:=by omega
   obtain ⟨s,dv,hv,nv,hqe,hqs,⟨g1,g2,g3⟩,hrs⟩:=(show ∀i,i<3->_ from hrow) i hlt
   have vq6:=x56.keeps vq (hT5.off vq (by decide))
   obtain ⟨da,dc,ha,kc,na,nc,rfl,rfl,rfl,-,-,-⟩:=(hrs H6 x56).forms
   have hKs:=keepSmell_rd (.wg Tryz.prog) H6 s _ _ _ (hrs H6 x56) (by omega) (by omega) (by omega)
   replace hrs:Aqk _:=hrs
   replace hKs:Aqk _:=hKs
   (refine @unH _ (zA y3_185 ?_);(try clear hK K);intro K hK hc)
   refine (show FnX _ _ _ _ _ _ from hKs).runs.mono ?_
   rintro _ H7 ⟨xdv,xhv,xnv,rfl,hx7,l67⟩
   replace hx7:=hx7.smIn
   obtain ⟨xa,xc,ya,yc,za,zc,rfl,rfl,rfl,-,-,-⟩:=hx7.forms
   have vq7:=l67 _ _ vq6
   have hT7:=hT6.le l67
   have x57:=x56.le l67
   clear hKs l67 hT6 x56 vq6
   (refine @unH _ (zU y3_185 ?_);intro _ _ hc)
   (intro xb hxb;generalize hG:Hp.set _ xb _=H8;have lH8:=Aqc hG hxb;have vxb:=Aqb hG;clear hG)
   have hx8:=hx7.le lH8
   have vq8:=lH8 _ _ vq7
   have hT8:=hT7.le lH8
   have x58:=x57.le lH8
   clear hx7 vq7 hT7 x57 lH8 hxb
   (refine @unH _ (zU y3_185 ?_);(try clear hK K);intro K hK hc)
   obtain ⟨q,hq⟩:∃q,10*(3-i)=q+3+10*(3-(i+1)):=⟨7,by omega⟩
   rw [hq] at hT8
   refine (Bjd _ H8 tb (q+2+10*(3-(i+1))) 4 (by omega) (hT8.less (by omega))).runs.mono ?_
   rintro _ H9 ⟨r1,-,-,rfl,x89,hT9⟩
   have hx9:=hx8.lexT hT8 x89
   have vq9:=x89.keeps vq8 (hT8.off vq8 (by decide))
   have vxb9:=x89.keeps vxb (hT8.off vxb (by decide))
   have x59:=x58.trans x89
   clear hx8 vq8 vxb x58 x89 hT8
   (refine @unH _ (zU y3_185 ?_);intro _ _ hc)
   (intro ab hab;generalize hG:Hp.set _ ab _=H10;have lH10:=Aqc hG hab;have vab:=Aqb hG;clear hG)
   have hx10:=hx9.le lH10
   have vq10:=lH10 _ _ vq9
   have vxb10:=lH10 _ _ vxb9
   have hT10:=hT9.le lH10
   have x510:=x59.le lH10
   clear hx9 vq9 vxb9 hT9 x59 lH10 hab
   (refine @unH _ (zU y3_185 ?_);intro _ _ hc)
   refine (Bjd _ H10 tb (q+1+10*(3-(i+1))) 4 (by omega) (hT10.less (by omega))).runs.mono ?_
   rintro _ H11 ⟨r2,-,-,rfl,x1011,hT11⟩
   have hx11:=hx10.lexT hT10 x1011
   have vq11:=x1011.keeps vq10 (hT10.off vq10 (by decide))
   have vxb11:=x1011.keeps vxb10 (hT10.off vxb10 (by decide))
   have vab11:=x1011.keeps vab (hT10.off vab (by decide))
   have x511:=x510.trans x1011
   clear hx10 vq10 vxb10 vab x510 x1011 hT10
   (refine @unH _ (zU y3_185 ?_);intro _ _ hc)
   refine (Bjd _ H11 tb (q+10*(3-(i+1))) 4 (by omega) (hT11.less (by omega))).runs.mono ?_
   rintro _ H12 ⟨r3,-,-,rfl,x1112,hT12⟩
   have hx12:=hx11.lexT hT11 x1112
   have vq12:=x1112.keeps vq11 (hT11.off vq11 (by decide))
   have vxb12:=x1112.keeps vxb11 (hT11.off vxb11 (by decide))
   have vab12:=x1112.keeps vab11 (hT11.off vab11 (by decide))
   have x512:=x511.trans x1112
   clear hx11 vq11 vxb11 vab11 x511 x1112 hT11
   (refine @unH _ (zU y3_185 ?_);intro _ _ hc)
   (intro bb hbb;generalize hG:Hp.set _ bb _=HB;have lHB:=Aqc hG hbb;have vbb:=Aqb hG;clear hG)
   have hxB:=hx12.le lHB
   have vqB:=lHB _ _ vq12
   have vxbB:=lHB _ _ vxb12
   have vabB:=lHB _ _ vab12
   have hTB:=(hT12.le lHB).less (k':=10*(3-(i+1))) (by omega)
   have x5B:=x512.le lHB
   clear hx12 vq12 vxb12 vab12 hT12 x512 lHB hbb hq
   obtain ⟨aar,haa⟩:∃aar:Array Value,aar=#[.int .i64 a,.int .i64 0,.int .i64 r1]:=⟨_,rfl⟩
   obtain ⟨bar,hbb⟩:∃bar:Array Value,bar=#[.int .i64 b,.int .i64 r2,.int .i64 r3]:=⟨_,rfl⟩
   have hak:∀k,k<3->∃x:Int,aar[k]?=some (.int .i64 x):=fun k hk=>haa▸three_at hk
   have hbk:∀k,k<3->∃x:Int,bar[k]?=some (.int .i64 x):=fun k hk=>hbb▸three_at hk
   rw [<-haa] at vabB
   rw [<-hbb] at vbb
   clear haa hbb
   replace hak:Aqk _:=hak
   replace hbk:Aqk _:=hbk
   (refine @unH _ (zU y3_185 ?_);(try clear hK K);intro K hK hc)
   refine Axg (fun w a' H'=>∃e,∃k:Nat,w=3-k/\k<=3/\a'=act 116 e []/\e 3=.int .i64 a/\e 4=.int .i64 b/\e 13=.pointer (some ⟨tb,0,none⟩)/\e 14=.slice (some ⟨qb,0,none⟩) 3 3/\e 15=.int .i64 (i:Nat)/\e 16=.pointer (some ⟨xb,0,none⟩)/\e 17=.slice (some ⟨ab,0,none⟩) 3 3/\e 18=.slice (some ⟨bb,0,none⟩) 3 3/\e 19=.int .i64 (k:Nat)/\HB.le H') (n:=3) ?_ ?_
   ·exact ⟨_,0,by omega,by omega,rfl,e3,e4,e13,e14,e15,rfl,rfl,rfl,rfl,Hp.le_refl _⟩
   clear e3 e4 e13 e14 e15 e
   rintro w a' H13 ⟨e,k,rfl,hk,rfl,e3,e4,e13,e14,e15,e16,e17,e18,e19,lB⟩
   have vq13:=lB _ _ vqB
   have vxb13:=lB _ _ vxbB
   have vab13:=lB _ _ vabB
   have vbb13:=lB _ _ vbb
   by_cases hkl:k<3
   ·have hkl':(k:Int)<3:=by omega
    obtain ⟨x,hax⟩:=(show ∀k,k<3->_ from hak) k hkl
    obtain ⟨y,hby⟩:=(show ∀k,k<3->_ from hbk) k hkl
    have hP:=fun HX (l:H13.le HX)=>sReach_any (.wg Tryz.prog) HX s _ _ _ (hxB.le (Hp.le_trans lB l)) ((show ∀H',_->ErrS H' from hEr) HX (x5B.le (Hp.le_trans lB l))) (by omega) (by omega) (by omega) x y
    have hQ:=fun HX (l:H13.le HX)=>reach9_spec (.wg Tryz.prog) HX s _ _ _ ((show ∀H',_->RsS H' _ _ _ s from hrs) HX (x5B.le (Hp.le_trans lB l))) (by omega) (by omega) (by omega) x y
    generalize reaA s x y=r at *
    obtain ⟨u1,u2,u3⟩:=r
    replace hP:Aqk _:=hP
    replace hQ:Aqk _:=hQ
    (refine @unH _ (zA y3_185 ?_);(try clear hK K);intro K hK hc)
    have mkS:∀HX,H13.le HX->(fun HX=>H13.le HX/\HX xb=some (true,.cells #[.int .i64 s.places,.slice xa s.doors.length xc,.slice ya s.hampers.length yc,.slice za s.noses.length zc] 26 (0,0))/\HX ab=some (true,.cells aar 3 (0,0))/\HX bb=some (true,.cells bar 3 (0,0))/\HX qb=some (true,.cells qar 26 (0,0))) HX:=fun HX l=>⟨l,l _ _ vxb13,l _ _ vab13,l _ _ vbb13,l _ _ vq13⟩
    have hS0:H13.le H13/\H13 xb=some (true,.cells #[.int .i64 s.places,.slice xa s.doors.length xc,.slice ya s.hampers.length yc,.slice za s.noses.length zc] 26 (0,0))/\H13 ab=some (true,.cells aar 3 (0,0))/\H13 bb=some (true,.cells bar 3 (0,0))/\H13 qb=some (true,.cells qar 26 (0,0)):=mkS H13 (Hp.le_refl _)
    replace mkS:Aqk _:=mkS
    refine Axm (fun HX=>H13.le HX/\HX xb=some (true,.cells #[.int .i64 s.places,.slice xa s.doors.length xc,.slice ya s.hampers.length yc,.slice za s.noses.length zc] 26 (0,0))/\HX ab=some (true,.cells aar 3 (0,0))/\HX bb=some (true,.cells bar 3 (0,0))/\HX qb=some (true,.cells qar 26 (0,0))) [14] (.take 0 (.free 1 (.free 2 (.free 3 (.take 4 (.free 5 (.free 6 (.free 7 (.take 8 (.take 9 (.free 10 (.free 11 (.free 12 (.one 13 (.one 14 (.free 15 .nil)))))))))))))))) (by kernel_rfl) (by kernel_rfl) (by decide) (by kernel_rfl) ?_;intro K hK
    refine Ax6 fun ops hOz=>?_
    (refine @unH _ ?_;refine zK (aN y3_185 @exists_eq_left'.{1}) ?_)
    (iterate 3 (refine @unH _ ?_;refine zF y3_185 ?_))
    (refine @unH _ ?_;refine zK (aN y3_185 @exists_eq_left'.{1}) ?_)
    (iterate 3 (refine @unH _ ?_;refine zF y3_185 ?_))
    (refine @unH _ ?_;refine zK (aN y3_185 @exists_eq_left'.{1}) ?_)
    (apply Bjy hOz rfl rfl ‹_›;(focus (intro HX hHX;simp -implicitDefEqProofs (disch:=first | omega | (simp only [qd]<;>omega)) only [xq,↓xp,qc,Nat.reduceAdd,List.range,List.range.loop,fine,Nat.reduceEqDiff,↓reduceIte,yielded,reduceCtorEq,Nat.reduceLT,Nat.reduceMul,Nat.reduceSub,one,Nat.reduceLeDiff,Aqg,y3_185,aq,↓ap,qe0,qe1,qe2, *,-hK,Cwr];exact Cxw ((show ∀HX,_->FnX _ _ _ _ _ _ from hP) HX hHX.1)));simp -implicitDefEqProofs (disch:=first | omega | (simp only [qd]<;>omega)) only [Aq3,Aql])
    (iterate 3 (refine @unH _ ?_;refine zF y3_185 ?_))
    (refine @unH _ ?_;refine zM (aN y3_185 @exists_eq_left'.{1}) ?_)
    intro rb1 hrb1
    generalize hG:Hp.set H13 rb1 _=H14
    have l14:=Aqc hG hrb1
    have vrb1:=Aqb hG
    clear hG hS0
    refine ⟨.inr fun _=>⟨l14,if_neg (Aqr vxb13 hrb1),if_neg (Aqr vab13 hrb1),if_neg (Aqr vbb13 hrb1),if_neg (Aqr vq13 hrb1)⟩,?_⟩
    (refine @unH _ ?_;refine zM (aN y3_185 @exists_eq_left'.{1}) ?_)
    refine ⟨.inl (by decide),?_⟩
    (refine @unH _ ?_;refine zF y3_185 ?_)
    (refine Az6 (hK _ _ ?_);clear hK K;(try simp only [nq,↓reduceIte,Nat.reduceEqDiff]))
    have h13r:H13 rb1=none:=hrb1
    have l15:H13.le (H14.set rb1 (.cells #[.int .i64 u1,.int .i64 u2] 28 (0,0))):=Az4 l14 h13r
    have vrb1':(H14.set rb1 (.cells #[.int .i64 u1,.int .i64 u2] 28 (0,0))) rb1=_:=Axh
    generalize Hp.set H14 rb1 _=H15 at *
    clear vrb1 l14 mkS hP hrb1 h13r hOz
    have vrb1:=vrb1'
    clear vrb1'
    have vxb15:=l15 _ _ vxb13
    have vab15:=l15 _ _ vab13
    have vbb15:=l15 _ _ vbb13
    have vq15:=l15 _ _ vq13
    (refine @unH _ (zA y3_185 ?_);(try clear hK K);intro K hK hc)
    have hS0:H15.le H15/\H15 xb=some (true,.cells #[.int .i64 s.places,.slice xa s.doors.length xc,.slice ya s.hampers.length yc,.slice za s.noses.length zc] 26 (0,0))/\H15 ab=some (true,.cells aar 3 (0,0))/\H15 bb=some (true,.cells bar 3 (0,0))/\H15 qb=some (true,.cells qar 26 (0,0)):=⟨Hp.le_refl _,vxb15,vab15,vbb15,vq15⟩
    refine Axm (fun HX=>H15.le HX/\HX xb=some (true,.cells #[.int .i64 s.places,.slice xa s.doors.length xc,.slice ya s.hampers.length yc,.slice za s.noses.length zc] 26 (0,0))/\HX ab=some (true,.cells aar 3 (0,0))/\HX bb=some (true,.cells bar 3 (0,0))/\HX qb=some (true,.cells qar 26 (0,0))) [17] (.free 0 (.free 1 (.free 2 (.take 3 (.free 4 (.free 5 (.free 6 (.take 7 (.free 8 (.free 9 (.free 10 (.take 11 (.take 12 (.free 13 (.free 14 (.free 15 (.one 16 (.one 17 (.free 18 .nil))))))))))))))))))) (by kernel_rfl) (by kernel_rfl) (by decide) (by kernel_rfl) ?_;intro K hK
    refine Ax6 fun ops hOz=>?_
    (iterate 3 (refine @unH _ ?_;refine zF y3_185 ?_))
    (refine @unH _ ?_;refine zK (aN y3_185 @exists_eq_left'.{1}) ?_)
    (iterate 3 (refine @unH _ ?_;refine zF y3_185 ?_))
    (refine @unH _ ?_;refine zK (aN y3_185 @exists_eq_left'.{1}) ?_)
    (iterate 3 (refine @unH _ ?_;refine zF y3_185 ?_))
    (refine @unH _ ?_;refine zK (aN y3_185 @exists_eq_left'.{1}) ?_)
    (apply Bjy hOz rfl rfl ‹_›;(focus (intro HX hHX;simp -implicitDefEqProofs (disch:=first | omega | (simp only [qd]<;>omega)) only [xq,↓xp,qc,Nat.reduceAdd,List.range,List.range.loop,fine,Nat.reduceEqDiff,↓reduceIte,yielded,reduceCtorEq,Nat.reduceLT,Nat.reduceMul,Nat.reduceSub,one,Nat.reduceLeDiff,Aqg,y3_185,aq,↓ap,qe0,qe1,qe2, *,-hK,Cwr];exact Cxw ((show ∀HX,_->FnX _ _ _ _ _ _ from hQ) HX (Hp.le_trans l15 hHX.1))));simp -implicitDefEqProofs (disch:=first | omega | (simp only [qd]<;>omega)) only [Aq3,Aql])
    (iterate 3 (refine @unH _ ?_;refine zF y3_185 ?_))
    (refine @unH _ ?_;refine zM (aN y3_185 @exists_eq_left'.{1}) ?_)
    intro rb2 hrb2
    have nr12:=Aqr vrb1 hrb2
    generalize hG:Hp.set H15 rb2 _=H16
    have l16:=Aqc hG hrb2
    have vrb2:=Aqb hG
    have vrb1':=l16 _ _ vrb1
    clear hG hS0
    refine ⟨.inr fun _=>⟨l16,if_neg (Aqr vxb15 hrb2),if_neg (Aqr vab15 hrb2),if_neg (Aqr vbb15 hrb2),if_neg (Aqr vq15 hrb2)⟩,?_⟩
    (refine @unH _ ?_;refine zM (aN y3_185 @exists_eq_left'.{1}) ?_)
    refine ⟨.inl (by decide),?_⟩
    (refine @unH _ ?_;refine zF y3_185 ?_)
    (refine Az6 (hK _ _ ?_);clear hK K;(try simp only [nq,↓reduceIte,Nat.reduceEqDiff]))
    have h15r:H15 rb2=none:=hrb2
    have l17:H15.le (H16.set rb2 (.cells #[.int .i64 u1,.int .i64 u2] 28 (0,0))):=Az4 l16 h15r
    have vrb2':(H16.set rb2 (.cells #[.int .i64 u1,.int .i64 u2] 28 (0,0))) rb2=_:=Axh
    generalize Hp.set H16 rb2 _=H17 at *
    have vrb17:=l17 _ _ vrb1
    have lB17:=Hp.le_trans lB (Hp.le_trans l15 l17)
    clear vrb2 l16 hQ hrb2 h15r hOz vrb1 vrb1' l15 l17 lB vxb15 vab15 vbb15 vq15 vxb13 vab13 vbb13 vq13 hax hby
    (refine @unH _ (zA (aN y3_185 (aN @Aq2 @sbBandS)) ?_);(try clear hK K);intro K hK hc)
    exact ⟨3-(k+1),by omega,_,k+1,rfl,by omega,rfl,e3,e4,e13,e14,e15,e16,e17,e18,rfl,lB17⟩
   ·have hkl':¬(k:Int)<3:=by omega
    (refine @unH _ (zA y3_185 ?_);(try clear hK K);intro K hK hc)
    have hC1:=fun HX (l:H13.le HX)=>smCheck_rd (.wg Tryz.prog) HX s _ _ _ (hxB.rd.le (Hp.le_trans lB l)) ((show ∀H',_->ErrS H' from hEr) HX (x5B.le (Hp.le_trans lB l))) (by omega) (by omega) (by omega)
    have hC2:=fun HX (l:H13.le HX)=>check9_is (.wg Tryz.prog) HX s _ _ _ ((show ∀H',_->RsS H' _ _ _ s from hrs) HX (x5B.le (Hp.le_trans lB l))) (by omega) (by omega) (by omega)
    have hC3:=fun HX (l:H13.le HX)=>likeSmells_rd (.wg Tryz.prog) HX s _ _ _ _ _ _ (hxB.rd.le (Hp.le_trans lB l)) ((show ∀H',_->RsS H' _ _ _ s from hrs) HX (x5B.le (Hp.le_trans lB l))) (by omega) (by omega) (by omega)
    generalize chkS s=z at *
    have hS0:H13.le H13/\H13 xb=some (true,.cells #[.int .i64 s.places,.slice xa s.doors.length xc,.slice ya s.hampers.length yc,.slice za s.noses.length zc] 26 (0,0))/\H13 qb=some (true,.cells qar 26 (0,0)):=⟨Hp.le_refl _,vxb13,vq13⟩
    clear vab13 vbb13
    replace hC1:Aqk _:=hC1
    replace hC2:Aqk _:=hC2
    replace hC3:Aqk _:=hC3
    refine Axm (fun HX=>H13.le HX/\HX xb=some (true,.cells #[.int .i64 s.places,.slice xa s.doors.length xc,.slice ya s.hampers.length yc,.slice za s.noses.length zc] 26 (0,0))/\HX qb=some (true,.cells qar 26 (0,0))) [] (.take 0 (.take 1 (.free 2 (.free 3 (.free 4 (.take 5 (.take 6 (.free 7 (.free 8 (.take 9 (.free 10 (.free 11 (.free 12 (.take 13 (.take 14 (.free 15 (.free 16 .nil))))))))))))))))) (by kernel_rfl) (by kernel_rfl) (by decide) (by kernel_rfl) ?_;intro K hK
    refine Ax6 fun ops hOz=>?_
    (refine @unH _ ?_;refine zK (aN y3_185 @exists_eq_left'.{1}) ?_)
    (apply Bjy hOz rfl rfl ‹_›;(focus (intro HX hHX;simp -implicitDefEqProofs (disch:=first | omega | (simp only [qd]<;>omega)) only [xq,↓xp,qc,Nat.reduceAdd,List.range,List.range.loop,fine,Nat.reduceEqDiff,↓reduceIte,yielded,reduceCtorEq,Nat.reduceLT,Nat.reduceMul,Nat.reduceSub,one,Nat.reduceLeDiff,Aqg,y3_185,aq,↓ap,qe0,qe1,qe2, *,-hK,Cwr];exact Cxw ((show ∀HX,_->FnX _ _ _ _ _ _ from hC1) HX hHX.1)));simp -implicitDefEqProofs (disch:=first | omega | (simp only [qd]<;>omega)) only [Aq3,Aql])
    (iterate 3 (refine @unH _ ?_;refine zF y3_185 ?_))
    (refine @unH _ ?_;refine zK (aN y3_185 @exists_eq_left'.{1}) ?_)
    (apply Bjy hOz rfl rfl ‹_›;(focus (intro HX hHX;simp -implicitDefEqProofs (disch:=first | omega | (simp only [qd]<;>omega)) only [xq,↓xp,qc,Nat.reduceAdd,List.range,List.range.loop,fine,Nat.reduceEqDiff,↓reduceIte,yielded,reduceCtorEq,Nat.reduceLT,Nat.reduceMul,Nat.reduceSub,one,Nat.reduceLeDiff,Aqg,y3_185,aq,↓ap,qe0,qe1,qe2, *,-hK,Cwr];exact Cxw ((show ∀HX,_->FnX _ _ _ _ _ _ from hC2) HX hHX.1)));simp -implicitDefEqProofs (disch:=first | omega | (simp only [qd]<;>omega)) only [Aq3,Aql])
    (iterate 2 (refine @unH _ ?_;refine zF y3_185 ?_))
    (apply Ayj hOz rfl rfl rfl rfl (by simp -implicitDefEqProofs (disch:=omega) only [act_get?,Axf,Nat.reduceEqDiff,↓reduceIte,beq_self_eq_true,Bool.and_self, *]) ‹_›;(focus (intro HX hHX;simp -implicitDefEqProofs (disch:=first | omega | (simp only [qd]<;>omega)) only [xq,↓xp,qc,Nat.reduceAdd,List.range,List.range.loop,fine,Nat.reduceEqDiff,↓reduceIte,yielded,reduceCtorEq,Nat.reduceLT,Nat.reduceMul,Nat.reduceSub,one,Nat.reduceLeDiff,Aqg,y3_185,aq,↓ap,qe0,qe1,qe2, *,-hK,Axa,exists_eq_left']<;>(first | exact rfl | exact ⟨rfl,rfl⟩ | exact ⟨rfl,trivial⟩)));simp -implicitDefEqProofs (disch:=first | omega | (simp only [qd]<;>omega)) only [Aq3,Aql])
    (refine @unH _ ?_;refine zG y3_185 ?_)
    (refine @unH _ ?_;refine zG y3_185 ?_)
    (refine @unH _ ?_;refine zG y3_185 ?_)
    (apply Ayj hOz rfl rfl rfl rfl (by simp -implicitDefEqProofs (disch:=omega) only [act_get?,Axf,Nat.reduceEqDiff,↓reduceIte,beq_self_eq_true,Bool.and_self, *]) ‹_›;(focus (intro HX hHX;simp -implicitDefEqProofs (disch:=first | omega | (simp only [qd]<;>omega)) only [xq,↓xp,qc,Nat.reduceAdd,List.range,List.range.loop,fine,Nat.reduceEqDiff,↓reduceIte,yielded,reduceCtorEq,Nat.reduceLT,Nat.reduceMul,Nat.reduceSub,one,Nat.reduceLeDiff,Aqg,y3_185,aq,↓ap,qe0,qe1,qe2, *,-hK,Axa,exists_eq_left']<;>(first | exact rfl | exact ⟨rfl,rfl⟩ | exact ⟨rfl,trivial⟩)));simp -implicitDefEqProofs (disch:=first | omega | (simp only [qd]<;>omega)) only [Aq3,Aql])
    (apply Ayj hOz rfl rfl rfl rfl (by simp -implicitDefEqProofs (disch:=omega) only [act_get?,Axf,Nat.reduceEqDiff,↓reduceIte,beq_self_eq_true,Bool.and_self, *]) ‹_›;(focus (intro HX hHX;simp -implicitDefEqProofs (disch:=first | omega | (simp only [qd]<;>omega)) only [xq,↓xp,qc,Nat.reduceAdd,List.range,List.range.loop,fine,Nat.reduceEqDiff,↓reduceIte,yielded,reduceCtorEq,Nat.reduceLT,Nat.reduceMul,Nat.reduceSub,one,Nat.reduceLeDiff,Aqg,y3_185,aq,↓ap,qe0,qe1,qe2, *,-hK,Cwr];exact Cxw ((show ∀HX,_->FnX _ _ _ _ _ _ from hC3) HX hHX.1)));simp -implicitDefEqProofs (disch:=first | omega | (simp only [qd]<;>omega)) only [Aq3,Aql])
    (refine @unH _ ?_;refine zG y3_185 ?_)
    (refine @unH _ ?_;refine zF y3_185 ?_)
    (refine Az6 (hK _ _ ?_);clear hK K;(try simp only [nq,↓reduceIte,Nat.reduceEqDiff]))
    have hT:=hTB.le lB
    have x5:=x5B.le lB
    clear hC1 hC2 hC3 hS0 hTB x5B lB vxb13 vq13 hOz vxbB vabB vbb vqB
    (refine @unH _ (zA y3_185 ?_);(try clear hK K);intro K hK hc)
    exact ⟨3-(i+1),by omega,_,i+1,rfl,by omega,rfl,e3,e4,e13,e14,rfl,x5,hT⟩
  ·have hlt':¬(i:Int)<3:=by omega
   (refine @unH _ (zA y3_185 ?_);(try clear hK K);intro K hK hc)
   refine (smelled_spec H6).runs.mono ?_
   rintro _ H7 ⟨rfl,lH7⟩
   (refine @unH _ (zU y3_185 ?_);(try clear hK K);intro K hK hc)
   (refine Axr ?_;(try simp only [nq,↓reduceIte,Nat.reduceEqDiff]);rw [Aq8,Ayk results3 (by decide)];simp only [Axf,Nat.reduceEqDiff,↓reduceIte])
end Go.Proofs.YtaehjjbekjglkaaGreatDoor
end
section
namespace Go.Proofs.YtaehjjbekjglkaaGreatDoor
open Go Go.X Go.ChangeShapes Go.WideShapes Go.RowKit Go.Deep Go.Proofs.Tryz
set_option maxHeartbeats 2000000 in
set_option maxRecDepth 100000 in
theorem law_lifted (os:Os) (started:os.Started) (H:Type) (enc:TypeId×Value->H) :
  ReturnsInLeavingWide {} Tryz.checked os 3 .any (fun w args=>(Rows.smellChecksSpec.pre enc Tryz.prog Tryz.f3 [] false w args/\laidMetH Tryz.prog [("errors.errorType",Rows.laid_errors_errorType)] w)/\sizedMet enc Tryz.prog Tryz.f3 (OpenSpec.ofChange Rows.smellChecksSpec) false w args)
   (Rows.smellChecksSpec.post enc Tryz.prog Tryz.f3 false true false false):=by
 refine leaving_of_change_and (C:=Tryz.checked) (X:=fun w _=>laidMetH Tryz.prog [("errors.errorType",Rows.laid_errors_errorType)] w) (fun _ _ _ hh h=>h.of_heap hh) ownK started func3
  (ChangeSpec.witness_at (enc:=enc) (C:=Tryz.checked) (os:=os) (X:=fun w _=>laidMetH Tryz.prog [("errors.errorType",Rows.laid_errors_errorType)] w) false (laidWorld os) #[.agg #[.int .i64 0,.slice none 0 0,.slice none 0 0,.slice none 0 0],.agg #[.int .i64 0,.int .i64 0,.int .i64 0,.int .i64 0],.agg #[.int .i64 0,.int .i64 0,.bool false],.int .i64 0,.int .i64 0,.slice none 0 0] 8 rfl (by kernel_rfl) (by kernel_rfl) (by kernel_rfl) (by kernel_rfl) (by kernel_rfl) (laidWorld_met os _)) ?_
 intro W base args ds gs before hval0 hW hL
 have hval:∀(j:Nat) t v,Tryz.f3.params[j]?=some t->args[j]?=some v->Value.okWide Tryz.prog W .any base t v:=hval0
 have hW':=hW
 obtain ⟨p,q,hA0,hV0,rfl,hfz,hnd⟩:=hW
 have hA:DataW.TrodAll enc Tryz.prog W 0 (fun _=>true) true Tryz.f3.params.toList args.toList ds p:=hA0
 have hV:DataW.TrodVars enc Tryz.prog W (fun _=>true) [] gs q:=hV0
 rw [params3] at hA hval
 obtain ⟨v0,vs0,d0,ds0,p0,q0,ea0,rfl,rfl,h0,hA⟩:=trodAll_cons hA
 obtain ⟨v1,vs1,d1,ds1,p1,q1,ea1,rfl,rfl,h1,hA⟩:=trodAll_cons hA
 obtain ⟨v2,vs2,d2,ds2,p2,q2,ea2,rfl,rfl,h2,hA⟩:=trodAll_cons hA
 obtain ⟨v3,vs3,d3,ds3,p3,q3,ea3,rfl,rfl,h3,hA⟩:=trodAll_cons hA
 obtain ⟨v4,vs4,d4,ds4,p4,q4,ea4,rfl,rfl,h4,hA⟩:=trodAll_cons hA
 obtain ⟨v5,vs5,d5,ds5,p5,q5,ea5,rfl,rfl,h5,hA⟩:=trodAll_cons hA
 obtain ⟨ea6,rfl,rfl⟩:=trodAll_nil hA
 have eas:args=#[v0,v1,v2,v3,v4,v5]:=by
  apply Array.toList_inj.1
  rw [ea0,ea1,ea2,ea3,ea4,ea5,ea6]
 subst eas
 clear ea0
 obtain ⟨cs0,rfl,-⟩:=okWide_struct underlying26 (hval 0 26 v0 rfl rfl)
 obtain ⟨s0,dv0,hv0,nv0,hes0,hr0⟩:=open_sm h0 ⟨_,rfl⟩
 rw [hes0] at h0
 obtain ⟨⟨cs1⟩,rfl,-⟩:=okWide_struct underlying30 (hval 1 30 v1 rfl rfl)
 have h1k:=h1
 obtain ⟨f1,hf1⟩:=h1
 simp only [Value.cells] at hf1
 obtain ⟨el1,rfl⟩:=open_dr hf1
 obtain ⟨⟨cs2⟩,rfl,-⟩:=okWide_struct underlying32 (hval 2 32 v2 rfl rfl)
 have h2k:=h2
 obtain ⟨f2,hf2⟩:=h2
 simp only [Value.cells] at hf2
 obtain ⟨el2,rfl⟩:=open_ns hf2
 obtain ⟨k3,rfl⟩:=okWide_int underlying3 (hval 3 3 v3 rfl rfl)
 obtain ⟨k4,rfl⟩:=okWide_int underlying3 (hval 4 3 v4 rfl rfl)
 obtain ⟨a5,len,cap,rfl⟩:=okWide_slice underlying23 (hval 5 23 v5 rfl rfl)
 have h5k:=h5
 obtain ⟨fuel,hf⟩:=h5
 obtain ⟨rfl,rfl⟩:gs=[]/\q=[]:=by
  cases gs with
  | nil=>exact ⟨rfl,hV⟩
  | cons g r=>exact absurd hV (by intro h;cases h)
 have e1:Rows.smellChecksSpec.fn H ([d0,d1,d2,d3,d4,d5]++[])={ results:=[.lit (.bool true)],args:=[d0,d1,d2,d3,d4,d5] }:=by simp [Rows.smellChecksSpec]
 have hcells:∀i:Nat,i<len->∃sb so c e fr x,a5=some ⟨sb,so,none⟩/\Ays W sb=some (false,.cells c e fr)/\c[so+i]?=some (.int .i64 x):=by
  rcases open_ints underlying23 underlying3 cellsK hf with ⟨hcs,_⟩ | ⟨a,len',cap',zs,hcs,_,hl,hm,hz,hx,hcell,hwz⟩
  ·simp [Value.cells] at hcs
   intro i hi
   omega
  ·simp [Value.cells] at hcs
   obtain ⟨rfl,rfl,rfl⟩:=hcs
   intro i hi
   simp only [if_true] at hz
   have hc:=hcell i (by omega)
   obtain ⟨b,off,spot⟩:=a
   have hspot:spot=none:=by simpa [Addr.add] using World.cell?_spot (hcell 0 (by omega))
   subst hspot
   rw [add_plain] at hc
   unfold World.cell? at hc
   split at hc
   ·rename_i c e fr hb
    exact ⟨b,off,c,e,fr,_,rfl,by simp [Ays,hb],by simpa using hc⟩
   ·cases hc
 have hlt:∀x∈p0++(p1++(p2++(p3++(p4++(p5++[]))))),x.block<W.heap.size:=fun x hx=>by simpa using hW'.lt x (by simpa using hx)
 have hlt0:∀x∈p0,x.block<W.heap.size:=fun x hx=>hlt x (by simp [hx])
 have hlt1:∀x∈p1,x.block<W.heap.size:=fun x hx=>hlt x (by simp [hx])
 have hlt2:∀x∈p2,x.block<W.heap.size:=fun x hx=>hlt x (by simp [hx])
 have hlt3:∀x∈p3,x.block<W.heap.size:=fun x hx=>hlt x (by simp [hx])
 have hlt4:∀x∈p4,x.block<W.heap.size:=fun x hx=>hlt x (by simp [hx])
 have hlt5:∀x∈p5,x.block<W.heap.size:=fun x hx=>hlt x (by simp [hx])
 have hgo:=(lschecks_spec (Ays W) s0 dv0 hv0 nv0 hr0 (laid_err hL) el1 el2 k3 k4 a5 len cap hcells).goodW func3 (results_tmp results3 _) (by kernel_rfl)
 rw [<-hes0] at hgo h0
 obtain ⟨N,last,o,w',t',r1,r2,r3,v,hv,⟨rfl,hB⟩,r4⟩:=hgo
 refine ⟨N,last,o,w',t',r1,r2,r3,_,hv,?_,r4⟩
 have hb:=hB.below
 refine ⟨_,_,_,[],p0++(p1++(p2++(p3++(p4++(p5++[]))))),[],hW',?_,?_,?_,hB.kept _,fun h=>by cases h⟩
 ·rw [e1];exact trodAll_mk1 (shut_bool underlying4 true)
 ·rw [e1]
  have t0:=DataW.Trod.of_heap (w:={ w' with tape:=W.tape }) (w':=w') rfl (Below.trod laidOutK (by kernel_rfl) (of_decide_eq_true (by kernel_rfl)) h0 hb hlt0)
  have t1:=DataW.Trod.of_heap (w:={ w' with tape:=W.tape }) (w':=w') rfl (Below.trod laidOutK (by kernel_rfl) (of_decide_eq_true (by kernel_rfl)) h1k hb hlt1)
  have t2:=DataW.Trod.of_heap (w:={ w' with tape:=W.tape }) (w':=w') rfl (Below.trod laidOutK (by kernel_rfl) (of_decide_eq_true (by kernel_rfl)) h2k hb hlt2)
  have t3:=DataW.Trod.of_heap (w:={ w' with tape:=W.tape }) (w':=w') rfl (Below.trod laidOutK (by kernel_rfl) (of_decide_eq_true (by kernel_rfl)) h3 hb hlt3)
  have t4:=DataW.Trod.of_heap (w:={ w' with tape:=W.tape }) (w':=w') rfl (Below.trod laidOutK (by kernel_rfl) (of_decide_eq_true (by kernel_rfl)) h4 hb hlt4)
  have t5:=DataW.Trod.of_heap (w:={ w' with tape:=W.tape }) (w':=w') rfl (Below.trod laidOutK (by kernel_rfl) (of_decide_eq_true (by kernel_rfl)) h5k hb hlt5)
  exact ⟨p0,_,t0,⟨p1,_,t1,⟨p2,_,t2,⟨p3,_,t3,⟨p4,_,t4,⟨p5,_,t5,trodAll_mk0,rfl⟩,rfl⟩,rfl⟩,rfl⟩,rfl⟩,rfl⟩
 ·rw [e1];rfl
end Go.Proofs.YtaehjjbekjglkaaGreatDoor
end
section
namespace Go.Proofs.YtaehjjbekjglkaaGreatDoor
open Go Go.X Go.ChangeShapes Go.WideShapes Go.RowKit Go.Proofs.Tryz
theorem jEnter:Program.mayEnter Tryz.pinned.checked.prog=true:=factEnter
theorem jLift:(Rows.smellChecksRow.lifted==Program.liftsFinal Tryz.pinned.checked.prog)=true:=by rw [show Program.liftsFinal Tryz.pinned.checked.prog=Rows.smellChecksRow.lifted from factLift];exact beq_self_eq_true _
theorem jMake:(Program.make Tryz.pinned.checked.prog==some Rows.smellChecksRow.make)=true:=by rw [show Program.make Tryz.pinned.checked.prog=some Rows.smellChecksRow.make from factMake];exact beq_self_eq_true _
set_option maxRecDepth 100000 in
theorem jf:joinedFacts Tryz.pinned.checked.prog 3 Tryz.f3 Rows.smellChecksSpec Rows.smellChecksRow=true:=by
 unfold joinedFacts
 simp only [jEnter,jLift,jMake,Bool.and_true]
 kernel_rfl
set_option maxRecDepth 100000 in
theorem smellChecks_said:Rows.SmellChecksSaid:=
 OpenClaim.holds_of_wide_leaving 3 Tryz.f3 rfl rfl rfl rfl rfl rfl rfl ⟨rfl,rfl,rfl,rfl,rfl⟩ rfl rfl rfl rfl rfl (by kernel_rfl) func3 jf
  (of_decide_eq_true (by kernel_rfl)) (by unfold Func.isWrapper;rw [if_neg (of_decide_eq_false (by kernel_rfl))];exact ⟨rfl,rfl⟩)
  (fun os started H enc _=>law_lifted os started H enc)
end Go.Proofs.YtaehjjbekjglkaaGreatDoor
end
