/- Texts SmO SmO2 SmR SmU. -/
import Derived.Test.YtaehjjbekjglkaaGreatDoorJ18
set_option linter.defProp false
set_option linter.unusedSimpArgs false
set_option linter.unusedVariables false
set_option maxRecDepth 100000
set_option maxHeartbeats 2000000
section
namespace Go.Proofs.YtaehjjbekjglkaaGreatDoor
open Go Go.X Go.Proofs.Tryz
def Ak5:=aN @Dyx (aN @Dw9 (aN @Dw2 (aN @Azx (aN @Bx0 (aN @Bxy (aN @Dyi (aN @Dys (aN @Bx1 (aN @Dwa (aN @Dw3 (aN @Dv8 (aN @Dv9 @Ajf))))))))))))
def Bqx:=aN @Dw2 (aN @Dwb (aN @Dv0 (aN @Dv9 (aN @Dv8 @Bki))))
def Cqz:=@Bki
def comF (p:Int) (b:Bd) (x:Int×Int×Hint):Bd:=if (gB x.2.2 p).hi<99 then arrF p b x else b
theorem Byl (main:Md) (H:Hp) (ob pb:Nat) (p:Int) (h0:0<=p) (h1:p<6) (ham hour:Int) (x:Hint) (hx:Axo x) (b:Bd) (vo:H ob=some (true,bdO b)) (vp:H pb=some (true,.cells #[.int .i64 p] 3 (0,0))) (hne:pb≠ob) :
  FnX Tryz.prog main 78 #[.int .i64 ham,.int .i64 hour,.agg (Axv x).toArray,.pointer (some ⟨pb,0,none⟩),.pointer (some ⟨ob,0,none⟩)] H fun e H'=>e=.returned (.tuple #[])/\H' ob=some (true,bdO (comF p b (ham,hour,x)))/\∀b x,b≠ob->H b=some x->H' b=some x:=by
 have hl:=Ax0 hx
 have hex:=Akx hx
 have hbd:=Ay0 hx (Cxk hx h0 h1)
 obtain ⟨hb1,hb2,_⟩:=hbd
 unfold comF arrF
 simp only
 generalize gB x p=g at *
 generalize Axv x=HC at *
 by_cases hg:g.hi<99
 ·rw [if_pos hg]
  refine Aqn func78 rfl ntmps78 (by simp) ?_
  (refine @unH _ (zA Bqx ?_);(try clear hK K);intro K hK hc)
  (intro b hb;generalize hG:Hp.set _ b _=H1;have lH1:=Aqc hG hb;have vb:=Aqb hG;clear hG)
  have vo1:=lH1 _ _ vo
  have vp1:=lH1 _ _ vp
  (refine @unH _ (zU Bqx ?_);(try clear hK K);intro K hK hc)
  refine (Ave main H1 ob _ g.lo vo1).runs.mono ?_
  rintro _ H2 ⟨rfl,h21,h22⟩
  have nob:b≠ob:=fun e=>by rw [e,vo] at hb;cases hb
  have vp2:=(h22 pb hne).trans vp1
  have vb2:=(h22 b nob).trans vb
  have hf2:∀c z,c≠ob->H c=some z->H2 c=some z:=fun c z hc hz=>(h22 c hc).trans (lH1 _ _ hz)
  clear vo1 vp1 vb h22 lH1
  (refine @unH _ (zU Bqx ?_);(try clear hK K);intro K hK hc)
  refine (Ave main H2 ob _ g.hi h21).runs.mono ?_
  rintro _ H3 ⟨rfl,h31,h32⟩
  (refine @unH _ (zU Bqx ?_);(try clear hK K);intro K hK hc)
  (refine @unH _ ?_;refine zD results78 ?_)
  exact ⟨rfl,h31,fun c z hc hz=>(h32 c hc).trans (hf2 c z hc hz)⟩
 ·rw [if_neg hg]
  refine Aqn func78 rfl ntmps78 (by simp) ?_
  (refine @unH _ (zA Bqx ?_);(try clear hK K);intro K hK hc)
  (intro b hb;generalize hG:Hp.set _ b _=H1;have lH1:=Aqc hG hb;have vb:=Aqb hG;clear hG)
  have vo1:=lH1 _ _ vo
  have vp1:=lH1 _ _ vp
  (refine @unH _ (zU Bqx ?_);(try clear hK K);intro K hK hc)
  (refine @unH _ ?_;refine zD results78 ?_)
  exact ⟨rfl,vo1,fun c z hc hz=>lH1 _ _ hz⟩
def sinF (b:Bd) (x:Int×Int×Hint):Bd:=Bqg b x.2.1
theorem Cqh (main:Md) (H:Hp) (ob:Nat) (ham hour:Int) (x:Hint) (hx:Axo x) (b:Bd) (vo:H ob=some (true,bdO b)) :
  FnX Tryz.prog main 89 #[.int .i64 ham,.int .i64 hour,.agg (Axv x).toArray,.pointer (some ⟨ob,0,none⟩)] H fun e H'=>e=.returned (.tuple #[])/\H' ob=some (true,bdO (sinF b (ham,hour,x)))/\∀b x,b≠ob->H b=some x->H' b=some x:=by
 have hl:=Ax0 hx
 have hex:=Akx hx
 unfold sinF
 simp only
 generalize Axv x=HC at *
 refine Aqn func89 rfl ntmps89 (by simp) ?_
 (refine @unH _ (zA @Cqz ?_);(try clear hK K);intro K hK hc)
 (intro b hb;generalize hG:Hp.set _ b _=H1;have lH1:=Aqc hG hb;have vb:=Aqb hG;clear hG)
 have vo1:=lH1 _ _ vo
 (refine @unH _ (zU @Cqz ?_);(try clear hK K);intro K hK hc)
 refine (Ave main H1 ob _ hour vo1).runs.mono ?_
 rintro _ H2 ⟨rfl,h21,h22⟩
 (refine @unH _ (zU @Cqz ?_);(try clear hK K);intro K hK hc)
 (refine @unH _ ?_;refine zD results89 ?_)
 exact ⟨rfl,h21,fun c z hc hz=>(h22 c hc).trans (lH1 _ _ hz)⟩
theorem Az4 {H H':Hp} {b:Nat} {o:Obj} (l:H.le H') (h:H b=none):H.le (H'.set b o):=fun x z hz=>by
 rw [Aqv (fun e=>by rw [e,h] at hz;cases hz)]
 exact l _ _ hz
def comL (L:List (Int×Int×Hint)) (p:Int):Bd:=L.foldl (comF p) bd0
theorem Ckk (L:List (Int×Int×Hint)) (p:Int) (x:Int×Int×Hint):comL (L++[x]) p=comF p (comL L p) x:=by simp [comL]
def bdE (z:Int) (b:Bd):Int×Int×Int:=if z=0 then (if b.some then (b.lo,b.hi,0) else (0,0,11)) else (0,0,z)
def comE (s:Sm) (p:Int):Int×Int×Int:=bdE (begE s [p] 0) (comL (susp s) p)
theorem By9 (H:Hp) (s:Sm) (dv hv nv:Value) (hs:SmIn H dv hv nv s) (ok:SmOk s) (p:Int) :
  FnX Tryz.prog (.wg Tryz.prog) 25 #[smV s.places dv hv nv,.int .i64 p] H fun e H'=>e=.returned (.tuple #[.agg #[.int .i64 (comE s p).1,.int .i64 (comE s p).2.1],.int .i64 (comE s p).2.2])/\H.le H':=by
 obtain ⟨da,dc,ha,kc,na,nc,rfl,rfl,rfl,l1,l2,l3⟩:=hs.forms
 have hpp:begE s [p] 0=0->0<=p/\p<6:=Cj4 ok
 have hr:comE s p=bdE (begE s [p] 0) (comL (susp s) p):=rfl
 have hbeg:=fun H dv hv nv (hs:SmIn H dv hv nv s) pv (hp:SlI H pv [p])=>Akl H s dv hv nv hs ok 0 pv [p] hp (by simp)
 generalize begE s [p] 0=z at *
 generalize comE s p=r at *
 replace hpp:Aqk _:=hpp
 replace hr:Aqk _:=hr
 replace hbeg:Aqk _:=hbeg
 refine Aqn func25 rfl ntmps25 (by simp) ?_
 (refine @unH _ (zA Ak5 ?_);(try clear hK K);intro K hK hc)
 (intro sb hsb qb hqb rb hrb;replace hrb:(Hp.set (Hp.set _ sb _) qb _) rb=none:=hrb;replace hqb:(Hp.set _ sb _) qb=none:=hqb;generalize hG:Hp.set _ sb _=H1 at hqb hrb ⊢;have lH1:=Aqc hG hsb;have wsb:=Aqb hG;clear hG;generalize hG:Hp.set _ qb _=H2 at hrb ⊢;have lH2:=Aqc hG hqb;have wqb:=Aqb hG;have nsbqb:=Aqr wsb hqb;replace wsb:=lH2 _ _ wsb;clear hG;generalize hG:Hp.set _ rb _=H3;have lH3:=Aqc hG hrb;have vrb:=Aqb hG;have vsb:=lH3 _ _ wsb;have vqb:=lH3 _ _ wqb;have nsbrb:=Aqr wsb hrb;have nqbrb:=Aqr wqb hrb;clear hG wsb wqb)
 have l03:=Hp.le_trans lH1 (Hp.le_trans lH2 lH3)
 have hs3:=hs.le l03
 have h0rb:=Hp.le_none (Hp.le_trans lH1 lH2) hrb
 clear lH1 lH2 lH3 hsb hqb hrb hs
 (refine @unH _ (zU Ak5 ?_);(try clear hK K);intro K hK hc)
 (intro pb hpb;generalize hG:Hp.set _ pb _=H4;have lH4:=Aqc hG hpb;have vpb:=Aqb hG;clear hG)
 have hs4:=hs3.le lH4
 have l04:=Hp.le_trans l03 lH4
 have vr4:=lH4 _ _ vrb
 have vq4:=lH4 _ _ vqb
 have hp4:SlI H4 (.slice (some ⟨pb,0,none⟩) 1 1) [p]:=Dks vpb
 clear hs3 l03 lH4 vrb vqb vsb vpb hpb
 refine ((show ∀H dv hv nv (hs:SmIn H dv hv nv s) pv (hp:SlI H pv [p]),_ from hbeg) H4 _ _ _ hs4 _ hp4).runs.mono ?_
 clear hbeg
 rintro _ H5 ⟨v,rfl,lH5,hv,_⟩
 have l05:=Hp.le_trans l04 lH5
 have vr5:=lH5 _ _ vr4
 have vq5:=lH5 _ _ vq4
 clear hs4 hp4 lH5 l04 vr4 vq4
 by_cases hz:z=0
 ·subst hz
  replace hv:=hv (.inl rfl)
  obtain ⟨p0,p1⟩:=hpp rfl
  clear hpp
  (refine @unH _ (zU Ak5 ?_);(try clear hK K);intro K hK hc)
  intro ob hob
  have nqo:=Aqr vq5 hob
  have nro:=Aqr vr5 hob
  (refine @unH _ (zU Ak5 ?_);(try clear hK K);intro K hK hc)
  generalize hG:Hp.set H5 ob _=H6
  have lH6:=Aqc hG hob
  have vo6:=Aqb hG
  have vq6:=Aqi hG vq5 nqo
  have vr6:=Aqi hG vr5 nro
  have h0ob:=Hp.le_none l05 hob
  clear hG vq5 vr5
  have hone:=Bv6 (.wg Tryz.prog) (A:=fun _ _ _=>True) (yf:=.func 78) (yi:=#[]) (yc:=#[.pointer (some ⟨qb,0,none⟩),.pointer (some ⟨ob,0,none⟩)]) H5 H6 _ _ hv ob (fun L=>bdO (comL L p)) lH6 hob (by rw [vo6];rfl) (fun L H' ham hour x g1 g2 hxo _=>by
   refine Ajn.fn (fun _ _=>Dzl _) ((Byl _ H' ob qb p p0 p1 ham hour x hxo _ g1 (g2 _ _ nqo vq6) nqo).mono ?_)
   rintro _ H4 ⟨rfl,h3,h4⟩
   exact ⟨rfl,by rw [h3,Ckk],h4⟩) (Akf ok) (fun _ _ _ _ _ _=>trivial) (by rw [Ajc];have:=ok.h1;omega)
  refine hone.runs.mono ?_
  clear hone
  rintro _ H7 ⟨rfl,h3,h4⟩
  have l07:H.le H7:=fun b x hx=>h4 b x (fun e=>by rw [e,h0ob] at hx;cases hx) (lH6 _ _ (l05 _ _ hx))
  have vr7:=h4 _ _ nro vr6
  replace hr:Aqk (r=bdE 0 (comL (susp s) p)):=hr
  rw [show Az7 (Axw s)=susp s from rfl] at h3
  generalize comL (susp s) p=w at *
  clear h4 vr6 vq6 vo6 l05 lH6 hv
  obtain ⟨lo,hi,sm⟩:=w
  cases sm with
  | true=>
   (refine @unH _ (zU Ak5 ?_);(try clear hK K);intro K hK hc)
   (refine Axr ?_;(try simp only [nq,↓reduceIte,Nat.reduceEqDiff]);rw [Aq8,results_cell_tmp results25 (by decide) (by decide) (b:=rb) (o:=0) rfl underlying28 rfl sizeOf28];simp -implicitDefEqProofs (disch:=first | omega | (simp only [qd]<;>omega)) only [xq,↓xp,qc,Nat.reduceAdd,List.range,List.range.loop,fine,Nat.reduceEqDiff,↓reduceIte,yielded,reduceCtorEq,Nat.reduceLT,Nat.reduceMul,Nat.reduceSub,one,Nat.reduceLeDiff,Aqg,Ak5,Axl,List.extract_toArray])
   exact ⟨by rw [show r=_ from hr];rfl,Az4 l07 h0rb⟩
  | false=>
   (refine @unH _ (zU Ak5 ?_);(try clear hK K);intro K hK hc)
   (refine Axr ?_;(try simp only [nq,↓reduceIte,Nat.reduceEqDiff]);rw [Aq8,results_cell_tmp results25 (by decide) (by decide) (b:=rb) (o:=0) rfl underlying28 rfl sizeOf28];simp -implicitDefEqProofs (disch:=first | omega | (simp only [qd]<;>omega)) only [xq,↓xp,qc,Nat.reduceAdd,List.range,List.range.loop,fine,Nat.reduceEqDiff,↓reduceIte,yielded,reduceCtorEq,Nat.reduceLT,Nat.reduceMul,Nat.reduceSub,one,Nat.reduceLeDiff,Aqg,Ak5,Axl,List.extract_toArray])
   exact ⟨by rw [show r=_ from hr];rfl,Az4 l07 h0rb⟩
 ·clear hv hpp
  (refine @unH _ (zU Ak5 ?_);(try clear hK K);intro K hK hc)
  (refine Axr ?_;(try simp only [nq,↓reduceIte,Nat.reduceEqDiff]);rw [Aq8,results_cell_tmp results25 (by decide) (by decide) (b:=rb) (o:=0) rfl underlying28 rfl sizeOf28];simp -implicitDefEqProofs (disch:=first | omega | (simp only [qd]<;>omega)) only [xq,↓xp,qc,Nat.reduceAdd,List.range,List.range.loop,fine,Nat.reduceEqDiff,↓reduceIte,yielded,reduceCtorEq,Nat.reduceLT,Nat.reduceMul,Nat.reduceSub,one,Nat.reduceLeDiff,Aqg,Ak5,Axl,List.extract_toArray])
  exact ⟨by rw [show r=_ from hr,bdE,if_neg hz],Az4 l05 h0rb⟩
def Az1:=aN @Dyx (aN @Dw9 (aN @Bkg (aN @Bxy (aN @Dyi (aN @Dwk (aN @Dw0 (aN @Dv5 (aN @Aya (aN @Dys (aN @Byh (aN (fun H=>Bk6 (H:=H) underlying101 sizeOf150) (aN (fun H=>Bk7 (H:=H) underlying101 sizeOf150) (aN (fun H=>Bqq (H:=H) underlying101 sizeOf150) (aN (fun H=>Bq3 (H:=H) underlying101 sizeOf150) (aN @Bx1 (aN @Dwa (aN @Dw3 (aN @Dv8 (aN @Dw2 (aN @Dv9 @Ajf))))))))))))))))))))
theorem Dk2 {p q:Prop} (g:q) (h:Hid q->p:=by
 intro g
 repeat' (first
 | (refine Axz rfl ?_;intro Kz hKz;simp -implicitDefEqProofs (disch:=first | omega | (simp only [qd]<;>omega)) only [xq,↓xp,qc,Nat.reduceAdd,List.range,List.range.loop,fine,Nat.reduceEqDiff,↓reduceIte,yielded,reduceCtorEq,Nat.reduceLT,Nat.reduceMul,Nat.reduceSub,one,Nat.reduceLeDiff,Aqg,Az1,aq,↓ap,qe0,qe1,qe2, *,-g,-hKz,Ayl underlying101 sizeOf150];try (refine hKz _ _ ?_;clear hKz Kz))
 | (refine Azq rfl ?_;intro Kz hKz;simp -implicitDefEqProofs (disch:=first | omega | (simp only [qd]<;>omega)) only [xq,↓xp,qc,Nat.reduceAdd,List.range,List.range.loop,fine,Nat.reduceEqDiff,↓reduceIte,yielded,reduceCtorEq,Nat.reduceLT,Nat.reduceMul,Nat.reduceSub,one,Nat.reduceLeDiff,Aqg,Az1,aq,↓ap,qe0,qe1,qe2, *,-g,-hKz,Ayl underlying101 sizeOf150];try (refine hKz _ _ ?_;clear hKz Kz;(try simp only [nq,↓reduceIte,Nat.reduceEqDiff])))
 | (refine Aza ?_;(try simp only [nq,↓reduceIte,Nat.reduceEqDiff]))
 | (refine Azd ?_;(try simp only [nq,↓reduceIte,Nat.reduceEqDiff]))
 | (refine Az2 ?_;(try simp only [nq,↓reduceIte,Nat.reduceEqDiff]))
 | (refine Az9 ?_;(try simp only [nq,↓reduceIte,Nat.reduceEqDiff]))
 | (refine Azp (by simp only [Aq7,Axf,Nat.reduceEqDiff,Nat.reduceLT,↓reduceIte, *,-g];rfl) ?_ ?_<;>(intro hcz;first | (exfalso;simp -implicitDefEqProofs (disch:=omega) only [*,-g,bq,reduceCtorEq] at hcz;done) | (simp only [dq,qe3,qe4,qe5,qe6] at hcz) | skip))
 | (refine Azs ?_)
 | (refine Ax7 ?_)
 | (refine Axn ?_))
 refine unT ?_;(try (revert hcz;refine unC ?_));(repeat (revert hcz;refine unD ?_));first | revert Kz | refine unU ?_
 exact Hid.out g):Hid p:=⟨h ⟨g⟩⟩
theorem Dk1 {p q:Prop} (g:q) (h:Hid q->p:=by
 intro g
 simp -implicitDefEqProofs (disch:=first | omega | (simp only [qd]<;>omega)) only [xq,↓xp,qc,Nat.reduceAdd,List.range,List.range.loop,fine,Nat.reduceEqDiff,↓reduceIte,yielded,reduceCtorEq,Nat.reduceLT,Nat.reduceMul,Nat.reduceSub,one,Nat.reduceLeDiff,Aqg,Az1,aq,↓ap,qe0,qe1,qe2, *,-g,-hK,Ayl underlying101 sizeOf150]
 exact Hid.out g):Hid p:=⟨h ⟨g⟩⟩
theorem Ayl {P:Program} {H:Hp} {t e:TypeId} (hu:P.underlying t=some (.slice e)) {n:Nat} (hs:∀w,(sizeOf e).run P w=.ok n w) (b o len cap:Nat) (k k' k'':IntKind) (i j m:Int) (h0:0<=i) (h1:i<=j) (h2:j<=m) (h3:m<=cap) (hne:i<m) (K:Value->Hp->Prop) (E:Value->Hp->Prop) :
  wpS P (Instr.sliceAt t (.slice (some ⟨b,o,none⟩) len cap) (some (.int k i)) (some (.int k' j)) (some (.int k'' m))) H K E=K (.slice (some ⟨b,o+i.toNat*n,none⟩) (j.toNat-i.toNat) (m.toNat-i.toNat)) H:=by
 unfold Instr.sliceAt Instr.slice Instr.sliceBounds
 have hm:j<=(m.toNat:Int):=by omega
 have hj:i<=(j.toNat:Int):=by omega
 have hne':¬m.toNat=i.toNat:=by omega
 simp [-bind_pure_comp,Aqa,Aqj hu,Aqf,Az5 k'' m cap _ (by omega) h3,Az5 k' j m.toNat _ (by omega) hm,Az5 k i j.toNat _ h0 hj,Aq0 hs,Aj2,hne']
def sinL (L:List (Int×Int×Hint)):Bd:=L.foldl sinF bd0
theorem Cvw (L:List (Int×Int×Hint)) (x:Int×Int×Hint):sinL (L++[x])=sinF (sinL L) x:=by simp [sinL]
def sinE (s:Sm) (i:Int):Int×Int×Int:=bdE (if i<0∨(s.hampers.length:Int)-1<i then 3 else 0) (sinL (Bzw (Az0 s i.toNat)))
theorem SlT.only {H:Hp} {s:Sm} {a:Option Addr} {n cap:Nat} (h:SlT H (.slice a n cap) (Axw s)) {i:Nat} (hi:i<s.hampers.length):∃b o,a=some ⟨b,o,none⟩/\SlT H (.slice (some ⟨b,o+i*326,none⟩) 1 1) [Az0 s i]:=by
 have hx:((Axw s).map Axc)[i]?=some (Axc (Az0 s i)):=by
  unfold Axw
  rw [List.getElem?_map,List.getElem?_map,List.getElem?_range hi]
  rfl
 obtain ⟨b,o,p,c,fr,rfl,h2,h3,h4,h5⟩:=SlG.get h hx
 refine ⟨b,o,rfl,some ⟨b,o+i*326,none⟩,1,rfl,by simp,fun j r hr=>?_⟩
 rcases j with _ | j
 ·simp only [List.map_cons,List.getElem?_cons_zero,Option.some.injEq] at hr
  subst hr
  exact ⟨b,o+i*326,p,c,fr,rfl,h2,by omega,h4,by simpa using h5⟩
 ·simp at hr
theorem Czz (main:Md) {A:Int->Int->Hint->Prop} {yf:Fn} {yi yc:Array Value} (H2:Hp) (v:Value) (l:List Trail) (hv:SlT H2 v l) (ob:Nat) (O:List (Int×Int×Hint)->Obj) (h0:∀p c fr,H2 ob≠some (p,.cells c 150 fr)) (vo:H2 ob=some (true,O []))
  (h:∀L H' ham hour x,H' ob=some (true,O L)->(∀b z,b≠ob->H2 b=some z->H' b=some z)->Axo x->A ham hour x->Ajn Tryz.prog main (.func yf yi yc) #[.int .i64 ham,.int .i64 hour,.agg (Axv x).toArray] H' fun e H''=>e=.returned (.tuple #[])/\H'' ob=some (true,O (L++[(ham,hour,x)]))/\∀b z,b≠ob->H' b=some z->H'' b=some z)
  (hok:∀t∈l,Ax3 t) (hA:∀t∈l,∀(h:Nat) x,t.hs[h]?=some x->x.some=true->A t.ham h x) (hl:l.length<=1000) :
  FnX Tryz.prog main 77 #[v,.func yf yi yc] H2 fun e H'=>e=.returned (.tuple #[])/\H' ob=some (true,O (Az7 l))/\∀b x,b≠ob->H2 b=some x->H' b=some x:=
 (Awo main (Ck5 H2 ob O vo h) H2 v l (fun L H' h _=>hv.move fun x p c fr hx=>⟨p,h.2 x _ (fun e=>h0 p c fr (by rw [<-e];exact hx)) hx⟩) hok hA hl [] ⟨vo,fun _ _ _ hx=>hx⟩).mono fun e H' ⟨h1,h2,_⟩=>⟨h1,by simpa using h2.1,h2.2⟩
theorem Cqe (H:Hp) (s:Sm) (dv hv nv:Value) (hs:SmIn H dv hv nv s) (ok:SmOk s) (i:Int) :
  FnX Tryz.prog (.wg Tryz.prog) 38 #[smV s.places dv hv nv,.int .i64 i] H fun e H'=>e=.returned (.tuple #[.agg #[.int .i64 (sinE s i).1,.int .i64 (sinE s i).2.1],.int .i64 (sinE s i).2.2])/\H.le H':=by
 obtain ⟨da,dc,ha,kc,na,nc,rfl,rfl,rfl,l1,l2,l3⟩:=hs.forms
 have hr:sinE s i=bdE (if i<0∨(s.hampers.length:Int)-1<i then 3 else 0) (sinL (Bzw (Az0 s i.toNat))):=rfl
 have h3:=ok.h1
 have h1:=ok.h0
 have e:=ok.p1
 clear e
 generalize sinE s i=r at *
 by_cases hi:i<0∨(s.hampers.length:Int)-1<i
 ·have hdo:(decide (i<0)||decide ((s.hampers.length:Int)-1<i))=true:=by simpa using hi
  rw [if_pos hi] at hr
  replace hr:Aqk _:=hr
  replace hdo:Aqk _:=hdo
  clear hi
  refine Aqn func38 rfl ntmps38 (by simp) ?_
  (refine @unH _ (zA Az1 ?_);(try clear hK K);intro K hK hc)
  (intro sb hsb rb hrb;replace hrb:(Hp.set _ sb _) rb=none:=hrb;generalize hG:Hp.set _ sb _=H1 at hrb ⊢;have lH1:=Aqc hG hsb;have wsb:=Aqb hG;clear hG;generalize hG:Hp.set _ rb _=H2;have lH2:=Aqc hG hrb;have vrb:=Aqb hG;have vsb:=lH2 _ _ wsb;have nsbrb:=Aqr wsb hrb;clear hG wsb)
  have l02:=Hp.le_trans lH1 lH2
  have hs2:=hs.le l02
  have h0rb:=Hp.le_none lH1 hrb
  clear lH1 lH2 hsb hrb hs
  (refine @unH _ (zU Az1 ?_);(try clear hK K);intro K hK hc)
  refine (Avi _ H2 s _ _ _ hs2 ok).runs.mono ?_
  rintro _ H3 ⟨rfl,lH3⟩
  have l03:=Hp.le_trans l02 lH3
  have vr3:=lH3 _ _ vrb
  have vs3:=lH3 _ _ vsb
  clear l02 lH3 vrb vsb hs2
  (refine @unH _ (zU Az1 ?_);(try clear hK K);intro K hK hc)
  refine (Axj _ H3 i 0 _).runs.mono ?_
  rintro _ _ ⟨rfl,hQ⟩
  rw [hQ,show (decide (i<0)||decide ((s.hampers.length:Int)-1<i))=true from hdo];clear hQ
  (refine @unH _ (zU Az1 ?_);(try clear hK K);intro K hK hc)
  (refine Axr ?_;(try simp only [nq,↓reduceIte,Nat.reduceEqDiff]);rw [Aq8,results_cell_tmp results38 (by decide) (by decide) (b:=rb) (o:=0) rfl underlying28 rfl sizeOf28];simp -implicitDefEqProofs (disch:=first | omega | (simp only [qd]<;>omega)) only [xq,↓xp,qc,Nat.reduceAdd,List.range,List.range.loop,fine,Nat.reduceEqDiff,↓reduceIte,yielded,reduceCtorEq,Nat.reduceLT,Nat.reduceMul,Nat.reduceSub,one,Nat.reduceLeDiff,Aqg,Az1,Axl,List.extract_toArray])
  exact ⟨by rw [show r=_ from hr];rfl,Az4 l03 h0rb⟩
 ·have hdo:(decide (i<0)||decide ((s.hampers.length:Int)-1<i))=false:=by simpa using hi
  rw [if_neg hi] at hr
  replace hdo:Aqk _:=hdo
  obtain ⟨k,rfl⟩:∃k:Nat,i=(k:Int):=⟨i.toNat,by omega⟩
  have hk:k<s.hampers.length:=by omega
  replace hr:Aqk (r=bdE 0 (sinL (Bzw (Az0 s k)))):=hr
  clear hi
  refine Aqn func38 rfl ntmps38 (by simp) ?_
  (refine @unH _ (zA Az1 ?_);(try clear hK K);intro K hK hc)
  (intro sb hsb rb hrb;replace hrb:(Hp.set _ sb _) rb=none:=hrb;generalize hG:Hp.set _ sb _=H1 at hrb ⊢;have lH1:=Aqc hG hsb;have wsb:=Aqb hG;clear hG;generalize hG:Hp.set _ rb _=H2;have lH2:=Aqc hG hrb;have vrb:=Aqb hG;have vsb:=lH2 _ _ wsb;have nsbrb:=Aqr wsb hrb;clear hG wsb)
  have l02:=Hp.le_trans lH1 lH2
  have hs2:=hs.le l02
  have h0rb:=Hp.le_none lH1 hrb
  clear lH1 lH2 hsb hrb hs
  (refine @unH _ (zU Az1 ?_);(try clear hK K);intro K hK hc)
  refine (Avi _ H2 s _ _ _ hs2 ok).runs.mono ?_
  rintro _ H3 ⟨rfl,lH3⟩
  have l03:=Hp.le_trans l02 lH3
  have vr3:=lH3 _ _ vrb
  have vs3:=lH3 _ _ vsb
  have hs3:=hs2.le lH3
  clear l02 lH3 vrb vsb hs2
  (refine @unH _ (zU Az1 ?_);(try clear hK K);intro K hK hc)
  refine (Axj _ H3 k 0 _).runs.mono ?_
  rintro _ _ ⟨rfl,hQ⟩
  rw [hQ,show (decide ((k:Int)<0)||decide ((s.hampers.length:Int)-1<k))=false from hdo];clear hQ hdo
  (refine @unH _ (zU Az1 ?_);(try clear hK K);intro K hK hc)
  intro ob hob
  have nro:=Aqr vr3 hob
  have nso:=Aqr vs3 hob
  have h0ob:=Hp.le_none l03 hob
  generalize hG:Hp.set H3 ob _=H4
  have lH4:=Aqc hG hob
  have vo4:=Aqb hG
  have hs4:=hs3.le lH4
  have l04:=Hp.le_trans l03 lH4
  have vr4:=lH4 _ _ vr3
  have vs4:=lH4 _ _ vs3
  clear hG l03 vr3 vs3 hs3 lH4
  (refine @unH _ (zU Az1 ?_);(try clear hK K);intro K hK hc)
  refine (Ayn H4 s _ _ _ hs4 ok).runs.mono ?_
  rintro _ H5 ⟨v,rfl,hv,lH5⟩
  have l05:=Hp.le_trans l04 lH5
  have vr5:=lH5 _ _ vr4
  have vo5:=lH5 _ _ vo4
  obtain ⟨ta,tcap,rfl,htc⟩:=hv.isSlice
  obtain ⟨tb,to,rfl,hone1⟩:=hv.only hk
  clear lH5 vr4 vo4 l04 hs4 vs4 hv
  rw [Ajc] at htc ⊢
  ((try refine @unH _ (Dk1 ?_));(try (refine hK _ _ ?_;clear hK K;try refine @unH _ (zQ ?_)));refine @unH _ (Dk2 ?_);intro _ _ hc)
  rw [show ((k:Int)+1).toNat-k=1 by omega]
  have hone:=Czz (.wg Tryz.prog) (A:=fun _ _ _=>True) (yf:=.func 89) (yi:=#[]) (yc:=#[.pointer (some ⟨ob,0,none⟩)]) H5 _ _ hone1 ob (fun L=>bdO (sinL L)) (fun p c fr e=>by rw [vo5] at e;simp at e) (by rw [vo5];rfl) (fun L H' ham hour x g1 g2 hxo _=>by
   refine Ajn.fn (fun _ _=>Dzo _) ((Cqh _ H' ob ham hour x hxo _ g1).mono ?_)
   rintro _ H4 ⟨rfl,h3,h4⟩
   exact ⟨rfl,by rw [h3,Cvw],h4⟩) (fun t ht=>by
    simp only [List.mem_cons,List.not_mem_nil,or_false] at ht
    subst ht
    exact Awd ok k) (fun _ _ _ _ _ _=>trivial) (by simp)
  refine hone.runs.mono ?_
  clear hone hone1
  rintro _ H7 ⟨rfl,h3,h4⟩
  have l07:H.le H7:=fun b x hx=>h4 b x (fun e=>by rw [e,h0ob] at hx;cases hx) (l05 _ _ hx)
  have vr7:=h4 _ _ nro vr5
  rw [show Az7 [Az0 s k]=Bzw (Az0 s k) from List.append_nil _] at h3
  generalize sinL (Bzw (Az0 s k))=w at *
  clear h4 vr5 vo5 l05
  obtain ⟨lo,hi,sm⟩:=w
  cases sm with
  | true=>
   (refine @unH _ (zU Az1 ?_);(try clear hK K);intro K hK hc)
   (refine Axr ?_;(try simp only [nq,↓reduceIte,Nat.reduceEqDiff]);rw [Aq8,results_cell_tmp results38 (by decide) (by decide) (b:=rb) (o:=0) rfl underlying28 rfl sizeOf28];simp -implicitDefEqProofs (disch:=first | omega | (simp only [qd]<;>omega)) only [xq,↓xp,qc,Nat.reduceAdd,List.range,List.range.loop,fine,Nat.reduceEqDiff,↓reduceIte,yielded,reduceCtorEq,Nat.reduceLT,Nat.reduceMul,Nat.reduceSub,one,Nat.reduceLeDiff,Aqg,Az1,Axl,List.extract_toArray])
   exact ⟨by rw [show r=_ from hr];rfl,Az4 l07 h0rb⟩
  | false=>
   (refine @unH _ (zU Az1 ?_);(try clear hK K);intro K hK hc)
   (refine Axr ?_;(try simp only [nq,↓reduceIte,Nat.reduceEqDiff]);rw [Aq8,results_cell_tmp results38 (by decide) (by decide) (b:=rb) (o:=0) rfl underlying28 rfl sizeOf28];simp -implicitDefEqProofs (disch:=first | omega | (simp only [qd]<;>omega)) only [xq,↓xp,qc,Nat.reduceAdd,List.range,List.range.loop,fine,Nat.reduceEqDiff,↓reduceIte,yielded,reduceCtorEq,Nat.reduceLT,Nat.reduceMul,Nat.reduceSub,one,Nat.reduceLeDiff,Aqg,Az1,Axl,List.extract_toArray])
   exact ⟨by rw [show r=_ from hr];rfl,Az4 l07 h0rb⟩
def Azt:=aN @Dw9 (aN @Dw2 (aN @Bx0 (aN @Bkh (aN @Dwi (aN @Dyy (aN @Dy5 (aN @Bw9 (aN @Bya (aN (fun H=>Aq9 (H:=H) underlying113) (aN (fun H=>Aqt (H:=H) underlying113 sizeOf112) (aN (fun H=>Aqp (H:=H) underlying112 rfl sizeOf112) (aN (fun H=>Aqu (H:=H) (P:=Tryz.prog) (h:=zeroValue112)) (aN (fun H=>Aqs (H:=H) sizeOf112) (aN (fun H=>Aqd (H:=H) underlying112 (i:=0) rfl (off:=0) rfl sizeOf105) (aN @Dww @Bkv)))))))))))))))
def Cqx:=aN @Dw2 (aN @Dwb (aN @Dv0 @Dv8))
def Cqy:=aN @Dw2 (aN @Dwb (aN @Dv0 @Dv9))
theorem Cqj (main:Md) (H:Hp) (pb hb:Nat) (p hour:Int) (h0:0<=p) (h1:p<6) (x:Hint) (hx:Axo x) (q1 q2:Bool) (f1 f2:Nat×Nat) (vp:H pb=some (q1,.cells #[.int .i64 p] 3 f1)) (vh:H hb=some (q2,.cells #[.int .i64 hour] 3 f2)) :
  FnX Tryz.prog main 73 #[.agg (Axv x).toArray,.pointer (some ⟨pb,0,none⟩),.pointer (some ⟨hb,0,none⟩)] H fun e H'=>e=.returned (.bool (decide ((gB x p).lo<=hour)))/\H.le H':=by
 have hl:=Ax0 hx
 have hex:=Akx hx
 obtain ⟨hb1,hb2,_⟩:=Ay0 hx (Cxk hx h0 h1)
 generalize gB x p=g at *
 generalize Axv x=HC at *
 refine Aqn func73 rfl ntmps73 (by simp) ?_
 (refine @unH _ (zA Cqx ?_);(try clear hK K);intro K hK hc)
 (intro xb hxb;generalize hG:Hp.set _ xb _=H1;have lH1:=Aqc hG hxb;have vxb:=Aqb hG;clear hG)
 have vp1:=lH1 _ _ vp
 have vh1:=lH1 _ _ vh
 (refine @unH _ (zU Cqx ?_);(try clear hK K);intro K hK hc)
 (refine Aka 8 [(true,0),(true,1),(true,2),(true,3),(true,4),(true,5),(true,6),(true,7)] (by kernel_rfl) (by kernel_rfl) (by simp) (by kernel_rfl) ?_;intro K hK;(iterate 8 (refine @unH _ ?_;refine z3 Cqx ?_));refine Aky (hK _ _ ?_);clear hK K;(try refine @unH _ (zQ ?_)))
 (refine @unH _ ?_;refine z9 results73 ?_)
 exact ⟨trivial,lH1⟩
theorem Cqk (main:Md) (H:Hp) (pb hb:Nat) (p hour:Int) (h0:0<=p) (h1:p<6) (x:Hint) (hx:Axo x) (q1 q2:Bool) (f1 f2:Nat×Nat) (vp:H pb=some (q1,.cells #[.int .i64 p] 3 f1)) (vh:H hb=some (q2,.cells #[.int .i64 hour] 3 f2)) :
  FnX Tryz.prog main 74 #[.agg (Axv x).toArray,.pointer (some ⟨pb,0,none⟩),.pointer (some ⟨hb,0,none⟩)] H fun e H'=>e=.returned (.bool (decide (hour<(gB x p).hi)))/\H.le H':=by
 have hl:=Ax0 hx
 have hex:=Akx hx
 obtain ⟨hb1,hb2,_⟩:=Ay0 hx (Cxk hx h0 h1)
 generalize gB x p=g at *
 generalize Axv x=HC at *
 refine Aqn func74 rfl ntmps74 (by simp) ?_
 (refine @unH _ (zA Cqy ?_);(try clear hK K);intro K hK hc)
 (intro xb hxb;generalize hG:Hp.set _ xb _=H1;have lH1:=Aqc hG hxb;have vxb:=Aqb hG;clear hG)
 have vp1:=lH1 _ _ vp
 have vh1:=lH1 _ _ vh
 (refine @unH _ (zU Cqy ?_);(try clear hK K);intro K hK hc)
 (refine Aka 8 [(true,0),(true,1),(true,2),(true,3),(true,4),(true,5),(true,6),(true,7)] (by kernel_rfl) (by kernel_rfl) (by simp) (by kernel_rfl) ?_;intro K hK;(iterate 8 (refine @unH _ ?_;refine z3 Cqy ?_));refine Aky (hK _ _ ?_);clear hK K;(try refine @unH _ (zQ ?_)))
 (refine @unH _ ?_;refine z9 results74 ?_)
 exact ⟨trivial,lH1⟩
def sq1 (p hour:Int) (x:Hint):Bool:=decide ((gB x p).lo<=hour)
def sq2 (p hour:Int) (x:Hint):Bool:=decide (hour<(gB x p).hi)
theorem Dkt (main:Md) (H:Hp) (pb hb:Nat) (p hour:Int) (h0:0<=p) (h1:p<6) (vp:H pb=some (true,.cells #[.int .i64 p] 3 (0,0))) (vh:H hb=some (true,.cells #[.int .i64 hour] 3 (0,0))) :
  IsF Tryz.prog main H (.func (.func 73) #[] #[.pointer (some ⟨pb,0,none⟩),.pointer (some ⟨hb,0,none⟩)]) (sq1 p hour):=fun H' x hl hx=>
 Ajn.fn (fun _ _=>Dzj _) (Cqj main H' pb hb p hour h0 h1 x hx _ _ _ _ (hl _ _ vp) (hl _ _ vh))
theorem Dku (main:Md) (H:Hp) (pb hb:Nat) (p hour:Int) (h0:0<=p) (h1:p<6) (vp:H pb=some (true,.cells #[.int .i64 p] 3 (0,0))) (vh:H hb=some (true,.cells #[.int .i64 hour] 3 (0,0))) :
  IsF Tryz.prog main H (.func (.func 74) #[] #[.pointer (some ⟨pb,0,none⟩),.pointer (some ⟨hb,0,none⟩)]) (sq2 p hour):=fun H' x hl hx=>
 Ajn.fn (fun _ _=>Dzk _) (Cqk main H' pb hb p hour h0 h1 x hx _ _ _ _ (hl _ _ vp) (hl _ _ vh))
theorem Dz6 (f g:Fn) (x y u w:Array Value):Instr.fill (fun i=>some (i*1,1)) ((Array.range (2*1)).map fun x=>(Value.agg #[Value.nilFunc]).cells[x%(Value.agg #[Value.nilFunc]).cells.size]!) [(0,.agg #[.func f x u]),(1,.agg #[.func g y w])]=some #[.func f x u,.func g y w]:=by
 kernel_rfl
theorem Cwz {H:Hp} (f g:Fn) (x y:Array Value) (u w:Array Value) (K:Value->Hp->Prop) (E:Value->Hp->Prop) :
  wpS Tryz.prog (Instr.buildSlice 113 2 #[(0,.agg #[.func f x u]),(1,.agg #[.func g y w])]) H K E=∀nb,H nb=none->K (.slice (some ⟨nb,0,none⟩) 2 2) (H.set nb (.cells #[.func f x u,.func g y w] 112 (0,0))):=by
 unfold Instr.buildSlice
 have hn1:¬2*1>2 ^ 24:=by decide
 have hn2:¬2*1=0:=by decide
 simp only [Aqa,Aqj underlying113,Aq0 sizeOf112,hn1,hn2,if_false,Axe zeroValue112,Aqf]
 rw [Dz6]
 simp only [newRow,newObj,Aqa,wpS,Aqf]
def snW (L:List (Int×Int×Hint)) (hour:Int) (k:Nat):Nat:=max (cntL (sq1 k hour) L) (cntL (sq2 k hour) L)
def snS (L:List (Int×Int×Hint)) (hour:Int) (n:Nat):Nat->Int×Nat
 | 0=>(-1,n)
 | k+1=>if snW L hour k<(snS L hour n k).2 then ((k:Int),snW L hour k) else snS L hour n k
def snE (s:Sm) (hour:Int):Int×Int×Int:=if begE s [] hour=0 then (if (snS (susp s) hour (Azy s) s.places.toNat).1<0 then (0,0,11) else ((snS (susp s) hour (Azy s) s.places.toNat).1,((snS (susp s) hour (Azy s) s.places.toNat).2:Int),0)) else (0,0,begE s [] hour)
theorem Cqf (H:Hp) (s:Sm) (dv hv nv:Value) (hs:SmIn H dv hv nv s) (ok:SmOk s) (h:Int) :
  FnX Tryz.prog (.wg Tryz.prog) 23 #[smV s.places dv hv nv,.int .i64 h] H fun e H'=>e=.returned (.tuple #[.int .i64 (snE s h).1,.int .i64 (snE s h).2.1,.int .i64 (snE s h).2.2])/\H.le H':=by
 obtain ⟨da,dc,ha,kc,na,nc,rfl,rfl,rfl,l1,l2,l3⟩:=hs.forms
 have hbeg:=fun H dv hv nv (hs:SmIn H dv hv nv s)=>Akl H s dv hv nv hs ok h _ [] (nilS H) (by simp)
 have hr0:begE s [] h=0->snE s h=(if (snS (susp s) h (Azy s) s.places.toNat).1<0 then (0,0,11) else ((snS (susp s) h (Azy s) s.places.toNat).1,((snS (susp s) h (Azy s) s.places.toNat).2:Int),0)):=fun e=>if_pos e
 have hr1:begE s [] h≠0->snE s h=(0,0,begE s [] h):=fun e=>if_neg e
 generalize begE s [] h=z at *
 generalize snE s h=r at *
 replace hbeg:Aqk _:=hbeg
 replace hr0:Aqk _:=hr0
 replace hr1:Aqk _:=hr1
 have q0:=ok.p0
 have q6:=ok.p1
 refine Aqn func23 rfl ntmps23 (by simp) ?_
 (refine @unH _ (zA Azt ?_);(try clear hK K);intro K hK hc)
 (intro sb hsb ub hub;replace hub:(Hp.set _ sb _) ub=none:=hub;generalize hG:Hp.set _ sb _=H1 at hub ⊢;have lH1:=Aqc hG hsb;have wsb:=Aqb hG;clear hG;generalize hG:Hp.set _ ub _=H2;have lH2:=Aqc hG hub;have vub:=Aqb hG;have vsb:=lH2 _ _ wsb;have nsbub:=Aqr wsb hub;clear hG wsb)
 have hs2:=hs.le (Hp.le_trans lH1 lH2)
 have l02:=Hp.le_trans lH1 lH2
 clear hsb hub hs lH1 lH2
 (refine @unH _ (zU Azt ?_);(try clear hK K);intro K hK hc)
 refine ((show ∀H dv hv nv (hs:SmIn H dv hv nv s),_ from hbeg) H2 _ _ _ hs2).runs.mono ?_
 clear hbeg
 rintro _ H3 ⟨v,rfl,lH3,hv,_⟩
 have l03:=Hp.le_trans l02 lH3
 have vs3:=lH3 _ _ vsb
 have vu3:=lH3 _ _ vub
 clear l02 lH3 vsb vub hs2
 by_cases hz:z=0
 ·subst hz
  replace hv:=hv (.inl rfl)
  replace hr0:=hr0 rfl
  replace hr0:Aqk _:=hr0
  clear hr1
  (refine @unH _ (zU Azt ?_);(try clear hK K);intro K hK hc)
  refine (Awq _ H3 s ok v hv).runs.mono ?_
  rintro _ H4 ⟨rfl,lH4⟩
  have l04:=Hp.le_trans l03 lH4
  have vs4:=lH4 _ _ vs3
  have vu4:=lH4 _ _ vu3
  have hv4:=hv.le lH4
  clear hv l03 lH4 vs3 vu3
  have hnl:Azy s<=1000:=by
   have h1:=Bzx (Axw s) (Akf ok)
   have h2:=Ajc s
   have h3:=ok.h1
   rw [Bze]
   show (Az7 (Axw s)).length<=1000
   omega
  have hpl:((s.places.toNat:Nat):Int)=s.places:=by omega
  have hok:=Akf ok
  have hln:(Axw s).length<=1000:=by rw [Ajc];have:=ok.h1;omega
  have hsu:Az7 (Axw s)=susp s:=rfl
  clear ok
  generalize Azy s=N at *
  generalize susp s=SS at *
  generalize Axw s=TT at *
  replace hsu:Aqk _:=hsu
  replace hok:Aqk _:=hok
  (refine @unH _ (zU Azt ?_);(try clear hK K);intro K hK hc)
  refine Axg (fun w a' H'=>∃e,∃k:Nat,w=6-k/\k<=s.places.toNat/\a'=act 55 e []/\e 3=.pointer (some ⟨ub,0,none⟩)/\e 7=v/\e 4=.int .i64 (snS SS h N k).1/\e 5=.int .i64 ((snS SS h N k).2:Nat)/\e 24=.int .i64 s.places/\e 25=.int .i64 (k:Nat)/\H.le H'/\SlT H' v TT/\H' ub=some (true,.cells #[.int .i64 h] 3 (0,0))) (n:=6) ?_ ?_
  ·exact ⟨_,0,by omega,by omega,rfl,rfl,rfl,rfl,rfl,rfl,rfl,l04,hv4,vu4⟩
  clear hv4 l04 vs4 vu4
  rintro w a' H5 ⟨e,k,rfl,hk,rfl,e3,e7,e4,e5,e24,e25,l05,hv5,vu5⟩
  by_cases hlt:k<s.places.toNat
  ·(refine @unH _ (zA Azt ?_);(try clear hK K);intro K hK hc)
   intro pb hpb
   (refine @unH _ (zU (aN Azt @Cwz) ?_);(try clear hK K);intro K hK hc)
   intro ab hab
   replace hab:(Hp.set H5 pb _) ab=none:=hab
   generalize hG:Hp.set H5 pb _=H6 at hab ⊢
   have l06:=Hp.le_trans l05 (Aqc hG hpb)
   have vp6:=Aqb hG
   have vu6:=(Aqc hG hpb) _ _ vu5
   have hv6:=hv5.le (Aqc hG hpb)
   clear hG hpb l05 vu5 hv5
   replace vp6:H6 pb=some (true,.cells #[.int .i64 (k:Nat)] 3 (0,0)):=vp6
   generalize hG:Hp.set H6 ab _=H7
   have lH7:=Aqc hG hab
   have va7:=Aqb hG
   have vp7:=lH7 _ _ vp6
   have vu7:=lH7 _ _ vu6
   have hv7:=hv6.le lH7
   have l07:=Hp.le_trans l06 lH7
   clear hG hab l06 vu6 hv6 vp6 lH7
   refine hK _ _ ?_
   clear hK K
   (try refine @unH _ (zQ ?_))
   (refine @unH _ (zA Azt ?_);(try clear hK K);intro K hK hc)
   obtain ⟨c1,hc1⟩:∃c1,c1=cntL (sq1 k h) SS:=⟨_,rfl⟩
   obtain ⟨c2,hc2⟩:∃c2,c2=cntL (sq2 k h) SS:=⟨_,rfl⟩
   have hn1:snW SS h k=max c1 c2:=by rw [hc1,hc2];rfl
   have hsn:snS SS h N (k+1)=if snW SS h k<(snS SS h N k).2 then ((k:Int),snW SS h k) else snS SS h N k:=rfl
   rw [hn1] at hsn
   clear hn1
   generalize snS SS h N k=w at *
   obtain ⟨wb,wm⟩:=w
   replace hsn:Aqk _:=hsn
   replace hc1:Aqk _:=hc1
   replace hc2:Aqk _:=hc2
   refine Axg (fun w a' H'=>∃e,∃j:Nat,w=2-j/\j<=2/\a'=act 55 e []/\e 3=.pointer (some ⟨ub,0,none⟩)/\e 7=v/\e 4=.int .i64 wb/\e 5=.int .i64 (wm:Nat)/\e 8=.pointer (some ⟨pb,0,none⟩)/\e 24=.int .i64 s.places/\e 25=.int .i64 (k:Nat)/\e 9=.int .i64 ((if j=0 then 0 else if j=1 then c1 else max c1 c2:Nat):Int)/\e 32=.slice (some ⟨ab,0,none⟩) 2 2/\e 33=.int .i64 (2:Nat)/\e 34=.int .i64 (j:Nat)/\H.le H'/\SlT H' v TT/\H' ub=some (true,.cells #[.int .i64 h] 3 (0,0))/\H' pb=some (true,.cells #[.int .i64 (k:Nat)] 3 (0,0))/\H' ab=some (true,.cells #[.func (.func 73) #[] #[.pointer (some ⟨pb,0,none⟩),.pointer (some ⟨ub,0,none⟩)],.func (.func 74) #[] #[.pointer (some ⟨pb,0,none⟩),.pointer (some ⟨ub,0,none⟩)]] 112 (0,0))) (n:=2) ?_ ?_
   ·exact ⟨_,0,by omega,by omega,rfl,e3,e7,e4,e5,rfl,e24,e25,rfl,rfl,rfl,rfl,l07,hv7,vu7,vp7,va7⟩
   clear l07 hv7 vu7 vp7 va7 e3 e7 e4 e5 e24 e25
   rintro w a' H8 ⟨e,j,rfl,hj,rfl,e3,e7,e4,e5,e8,e24,e25,e9,e32,e33,e34,l08,hv8,vu8,vp8,va8⟩
   rcases (by omega:j=0∨j=1∨j=2) with rfl | rfl | rfl
   ·simp only [if_true] at e9
    (refine @unH _ (zA Azt ?_);(try clear hK K);intro K hK hc)
    (intro tb htb;generalize hG:Hp.set _ tb _=H9;have lH9:=Aqc hG htb;have vtb:=Aqb hG;clear hG)
    have l09:=Hp.le_trans l08 lH9
    have hv9:=hv8.le lH9
    have vu9:=lH9 _ _ vu8
    have vp9:=lH9 _ _ vp8
    have va9:=lH9 _ _ va8
    clear lH9 htb l08 hv8 vu8 vp8 va8
    (refine @unH _ (zU Azt ?_);(try clear hK K);intro K hK hc)
    refine (Awc _ H9 v TT hv9 hok hln _ _ _ (sq1 k h) (Dkt _ H9 pb ub k h (by omega) (by omega) vp9 vu9)).runs.mono ?_
    rintro _ H10 ⟨rfl,lH10⟩
    rw [show Az7 TT=SS from hsu,show cntL (sq1 k h) SS=c1 from Eq.symm hc1]
    have l10:=Hp.le_trans l09 lH10
    have hv10:=hv9.le lH10
    have vu10:=lH10 _ _ vu9
    have vp10:=lH10 _ _ vp9
    have va10:=lH10 _ _ va9
    clear l09 hv9 vu9 vp9 va9 lH10 vtb
    (refine @unH _ (zU Azt ?_);(try clear hK K);intro K hK hc)
    exact ⟨_,by omega,_,1,rfl,by omega,rfl,e3,e7,e4,e5,e8,e24,e25,congrArg (Value.int .i64) (by simp only [Nat.one_ne_zero,if_true,if_false];split<;>omega),e32,e33,rfl,l10,hv10,vu10,vp10,va10⟩
   ·simp only [Nat.one_ne_zero,if_true,if_false] at e9
    (refine @unH _ (zA Azt ?_);(try clear hK K);intro K hK hc)
    (intro tb htb;generalize hG:Hp.set _ tb _=H9;have lH9:=Aqc hG htb;have vtb:=Aqb hG;clear hG)
    have l09:=Hp.le_trans l08 lH9
    have hv9:=hv8.le lH9
    have vu9:=lH9 _ _ vu8
    have vp9:=lH9 _ _ vp8
    have va9:=lH9 _ _ va8
    clear lH9 htb l08 hv8 vu8 vp8 va8
    (refine @unH _ (zU Azt ?_);(try clear hK K);intro K hK hc)
    refine (Awc _ H9 v TT hv9 hok hln _ _ _ (sq2 k h) (Dku _ H9 pb ub k h (by omega) (by omega) vp9 vu9)).runs.mono ?_
    rintro _ H10 ⟨rfl,lH10⟩
    rw [show Az7 TT=SS from hsu,show cntL (sq2 k h) SS=c2 from Eq.symm hc2]
    have l10:=Hp.le_trans l09 lH10
    have hv10:=hv9.le lH10
    have vu10:=lH10 _ _ vu9
    have vp10:=lH10 _ _ vp9
    have va10:=lH10 _ _ va9
    clear l09 hv9 vu9 vp9 va9 lH10 vtb
    (refine @unH _ (zU Azt ?_);(try clear hK K);intro K hK hc)
    exact ⟨_,by omega,_,2,rfl,by omega,rfl,e3,e7,e4,e5,e8,e24,e25,congrArg (Value.int .i64) (by simp only [show ¬(2:Nat)=0 by decide,show ¬(2:Nat)=1 by decide,if_true,if_false];split<;>omega),e32,e33,rfl,l10,hv10,vu10,vp10,va10⟩
   ·simp only [show ¬(2:Nat)=0 by decide,show ¬(2:Nat)=1 by decide,if_false] at e9
    by_cases hb:max c1 c2<wm
    ·replace hsn:Aqk (snS SS h N (k+1)=((k:Int),max c1 c2)):=Eq.trans (show snS SS h N (k+1)=_ from hsn) (if_pos hb)
     generalize max c1 c2=mm at *
     (refine @unH _ (zA Azt ?_);(try clear hK K);intro K hK hc)
     exact ⟨_,by omega,_,k+1,rfl,by omega,rfl,e3,e7,by rw [show snS SS h N (k+1)=_ from hsn];rfl,by rw [show snS SS h N (k+1)=_ from hsn];rfl,e24,rfl,l08,hv8,vu8⟩
    ·replace hsn:Aqk (snS SS h N (k+1)=(wb,wm)):=Eq.trans (show snS SS h N (k+1)=_ from hsn) (if_neg hb)
     generalize max c1 c2=mm at *
     (refine @unH _ (zA Azt ?_);(try clear hK K);intro K hK hc)
     exact ⟨_,by omega,_,k+1,rfl,by omega,rfl,e3,e7,by rw [show snS SS h N (k+1)=_ from hsn];exact e4,by rw [show snS SS h N (k+1)=_ from hsn];exact e5,e24,rfl,l08,hv8,vu8⟩
  ·obtain rfl:k=s.places.toNat:=by omega
   generalize snS SS h N s.places.toNat=w at *
   obtain ⟨b,m⟩:=w
   by_cases hb:b<0
   ·replace hr0:Aqk (r=(0,0,11)):=Eq.trans (show r=_ from hr0) (if_pos hb)
    (refine @unH _ (zA Azt ?_);(try clear hK K);intro K hK hc)
    (refine @unH _ ?_;refine zC results23 ?_)
    exact ⟨by rw [show r=_ from hr0],l05⟩
   ·replace hr0:Aqk (r=(b,(m:Int),0)):=Eq.trans (show r=_ from hr0) (if_neg hb)
    (refine @unH _ (zA Azt ?_);(try clear hK K);intro K hK hc)
    (refine @unH _ ?_;refine zC results23 ?_)
    exact ⟨by rw [show r=_ from hr0],l05⟩
 ·replace hr1:=hr1 hz
  replace hr1:Aqk _:=hr1
  clear hv hr0
  (refine @unH _ (zU Azt ?_);(try clear hK K);intro K hK hc)
  (refine @unH _ ?_;refine zC results23 ?_)
  exact ⟨by rw [show r=_ from hr1],l03⟩
def Aj0:=aN @Dyy (aN (fun H=>Aqu (H:=H) (P:=Tryz.prog) (h:=zeroValue23)) (aN @Dw9 (aN @Bx0 (aN @Dy5 (aN @Dy7 (aN @Bx1 (aN @Dw2 @Dw0)))))))
def Ax8:=aN @Dw2 (aN @Dwj (aN @Dwz (aN @Dv4 (aN @Dy4 (aN @Dy5 (aN @Dy7 (aN @Dw0 (aN @Dwc (aN (fun H=>Cvx (H:=H) underlying77 sizeOf3) (fun H=>Bwn (H:=H) underlying77 sizeOf3))))))))))
theorem Az8 {H:Hp} {b x:Nat} {o:Obj} (h:(Hp.set H b o) x=none):x≠b/\H x=none:=by
 unfold Hp.set at h
 by_cases e:x=b
 ·rw [if_pos e] at h;cases h
 ·rw [if_neg e] at h;exact ⟨e,h⟩
theorem Bzl {P:Program} {H:Hp} {fn:Func} {t u v x:Tmp} {ty1 ty2 ty3:TypeId} (h:fn.results=#[.cell t ty1,.cell u ty2,.cell v ty3,.tmp x]) {n:Nat} {e:Nat->Value} {ds:List Deferred} (ht:t<n) (hu':u<n) (hv:v<n) (hx:x<n) {b0 b1 b2:Nat}
  (h0:e t=.pointer (some ⟨b0,0,none⟩)) (h1:e u=.pointer (some ⟨b1,0,none⟩)) (h2:e v=.pointer (some ⟨b2,0,none⟩)) {d1 d2 d3:TypeDesc} (hu1:P.underlying ty1=some d1) (hd1:aggB d1=false) (hu2:P.underlying ty2=some d2) (hd2:aggB d2=false) (hu3:P.underlying ty3=some d3) (hd3:aggB d3=false)
  {x0 x1 x2:Value} (w0:H.cell ⟨b0,0,none⟩=some x0) (w1:H.cell ⟨b1,0,none⟩=some x1) (w2:H.cell ⟨b2,0,none⟩=some x2) (K:Value->Hp->Prop) (E:Value->Hp->Prop) (hK:K (.tuple #[x0,x1,x2,e x]) H) :
  wpS P (results fn (act n e ds).tmps) H K E:=by
 simp only [results,h,act_get? ht,act_get? hu',act_get? hv,act_get? hx,h0,h1,h2]
 simp [-bind_pure_comp,results,h,act_get? ht,act_get? hu',act_get? hv,act_get? hx,h0,h1,h2,asAddr,Aqa,Aqf,Cvd hu1 hd1,Cvd hu2 hd2,Cvd hu3 hd3]
 exact ⟨_,w0,_,w1,_,w2,hK⟩
theorem Byv {x:Hint} (h:Axo x) {n:Nat} (hn:n<=6):((Axv x).drop 18).take n=ints (x.first.take n):=by
 obtain ⟨b0,b1,b2,b3,b4,b5,f0,f1,f2,f3,f4,f5,s,rfl⟩:=Awn h
 have:(Axv ⟨[b0,b1,b2,b3,b4,b5],[f0,f1,f2,f3,f4,f5],s⟩).drop 18=ints [f0,f1,f2,f3,f4,f5]++[.bool s]:=rfl
 rw [this,List.take_append_of_le_length (by simp [ints];omega)]
 simp [ints,List.map_take]
theorem Czu (main:Md) (H:Hp) (b0 b1 b2 sb:Nat) (ham hour z:Int) (x:Hint) (hx:Axo x) (hz:0<=z) (v0:H b0=some (true,.cells #[.int .i64 z] 3 (0,0))) :
  FnX Tryz.prog main 83 #[.int .i64 ham,.int .i64 hour,.agg (Axv x).toArray,.pointer (some ⟨b0,0,none⟩),.pointer (some ⟨sb,0,none⟩),.pointer (some ⟨b1,0,none⟩),.pointer (some ⟨b2,0,none⟩)] H fun e H'=>e=.returned (.tuple #[])/\H.le H':=by
 have hl:=Ax0 hx
 have hex:=Akx hx
 generalize Axv x=HC at *
 refine Aqn func83 rfl ntmps83 (by simp) ?_
 (refine @unH _ (zA Ax8 ?_);(try clear hK K);intro K hK hc)
 (intro b hb;generalize hG:Hp.set _ b _=H1;have lH1:=Aqc hG hb;have vb:=Aqb hG;clear hG)
 have vo1:=lH1 _ _ v0
 (refine @unH _ (zU Ax8 ?_);(try clear hK K);intro K hK hc)
 (refine @unH _ ?_;refine zD results83 ?_)
 exact ⟨rfl,lH1⟩
theorem Ckz (main:Md) (H:Hp) (b0 b1 b2 sb n dcap:Nat) (da:Option Addr) (pl:Int) (hv nv:Value) (ham hour z y:Int) (w:Value) (x:Hint) (hx:Axo x) (hz:z<0) (hn:n<=6) (v0:H b0=some (true,.cells #[.int .i64 z] 3 (0,0)))
  (v1:H b1=some (true,.cells #[.int .i64 y] 3 (0,0))) (v2:H b2=some (true,.cells #[w] 23 (0,0))) (vs:H sb=some (true,smO pl (.slice da n dcap) hv nv)) (n01:b0≠b1) :
  FnX Tryz.prog main 83 #[.int .i64 ham,.int .i64 hour,.agg (Axv x).toArray,.pointer (some ⟨b0,0,none⟩),.pointer (some ⟨sb,0,none⟩),.pointer (some ⟨b1,0,none⟩),.pointer (some ⟨b2,0,none⟩)] H fun e H'=>e=.returned (.tuple #[])/\H' b0=some (true,.cells #[.int .i64 ham] 3 (0,0))/\H' b1=some (true,.cells #[.int .i64 hour] 3 (0,0))/\(∃w',H' b2=some (true,.cells #[w'] 23 (0,0))/\SlI H' w' (x.first.take n))/\∀b x,b≠b0->b≠b1->b≠b2->H b=some x->H' b=some x:=by
 have hl:=Ax0 hx
 have hex:=Akx hx
 have htk:=Byv hx hn
 have hone:∀v∈(Axv x).drop 18,one v=true:=fun v hv=>Bza x v (List.mem_of_mem_drop hv)
 generalize Axv x=HC at *
 have n02:b0≠b2:=fun e=>by rw [e,v2] at v0;simp at v0
 have n12:b1≠b2:=fun e=>by rw [e,v2] at v1;simp at v1
 have ns0:sb≠b0:=fun e=>by rw [e,v0] at vs;simp at vs
 have ns1:sb≠b1:=fun e=>by rw [e,v1] at vs;simp at vs
 have n10:=Ne.symm n01
 have n20:=Ne.symm n02
 have n21:=Ne.symm n12
 have ns2:sb≠b2:=fun e=>by rw [e,v2] at vs;simp at vs
 replace htk:Aqk _:=htk
 replace hone:Aqk _:=hone
 refine Aqn func83 rfl ntmps83 (by simp) ?_
 (refine @unH _ (zA Ax8 ?_);(try clear hK K);intro K hK hc)
 (intro xb hxb;generalize hG:Hp.set _ xb _=H1;have lH1:=Aqc hG hxb;have vxb:=Aqb hG;clear hG)
 have u0:=lH1 _ _ v0
 have u1:=lH1 _ _ v1
 have u2:=lH1 _ _ v2
 have us:=lH1 _ _ vs
 have nx0:=Aqr v0 hxb
 have nx1:=Aqr v1 hxb
 have nx2:=Aqr v2 hxb
 have nxs:=Aqr vs hxb
 clear v0 v1 v2 vs hxb
 (refine @unH _ (zU Ax8 ?_);(try clear hK K);intro K hK hc)
 refine Az3 (Q:=only fun a' H'=>∃e' nb,a'=act 22 e' []/\e' 6=.pointer (some ⟨b2,0,none⟩)/\e' 9=.pointer (some ⟨xb,0,none⟩)/\H1 nb=none/\H' b0=some (true,.cells #[.int .i64 ham] 3 (0,0))/\H' b1=some (true,.cells #[.int .i64 hour] 3 (0,0))/\H' b2=some (true,.cells #[.slice (some ⟨nb,0,none⟩) n n] 23 (0,0))/\H' nb=some (true,.cells (Array.replicate n (.int .i64 0)) 3 (0,0))/\∀c z,c≠b0->c≠b1->c≠b2->H1 c=some z->H' c=some z) ?_ ?_
 ·refine Axm (fun HX=>HX sb=some (true,smO pl (.slice da n dcap) hv nv)) [8] (.free 0 (.free 1 (.free 2 (.take 3 (.free 4 (.two 5 (.one 6 (.one 7 (.one 8 .nil))) 6 (.two 5 (.one 7 (.one 8 .nil)) 7 (.one 5 (.one 8 .nil))))))))) (by kernel_rfl) (by kernel_rfl) (by decide) (by kernel_rfl) ?_;intro K hK
  (refine @unH _ ?_;refine zI Ax8 ?_)
  (refine @unH _ ?_;refine zI Ax8 ?_)
  (refine @unH _ ?_;refine zI Ax8 ?_)
  (refine @unH _ ?_;refine zJ Ax8 ?_)
  (refine @unH _ ?_;refine zI Ax8 ?_)
  refine Avb ?_ ?_
  ·(refine @unH _ ?_;refine zX Ax8 ?_)
   intro nb hnb
   have m0:=Aqr u0 hnb
   have m1:=Aqr u1 hnb
   have m2:=Aqr u2 hnb
   have ms:=Aqr us hnb
   refine ⟨.inr (fun _=>by simp only [ms,if_false]),Aqw ?_⟩
   (refine @unH _ ?_;refine zX Ax8 ?_)
   refine ⟨.inr (fun _=>by first | trivial | simp only [ms,if_false]),Aqw ?_⟩
   (refine @unH _ ?_;refine zX Ax8 ?_)
   refine ⟨.inr (fun _=>by first | trivial | simp only [ms,if_false]),Aqw ?_⟩
   (refine @unH _ ?_;refine zX Ax8 ?_)
   refine ⟨.inl (by decide),Axq (hK _ _ ?_)⟩
   exact ⟨_,nb,rfl,rfl,rfl,hnb,by simp [Hp.set,n01,n02,n12,n10,n20,n21,m0,m1,m2,Ne.symm m0,Ne.symm m1,Ne.symm m2],by simp [Hp.set,n01,n02,n12,n10,n20,n21,m0,m1,m2,Ne.symm m0,Ne.symm m1,Ne.symm m2],by simp [Hp.set,n01,n02,n12,n10,n20,n21,m0,m1,m2,Ne.symm m0,Ne.symm m1,Ne.symm m2],by simp [Hp.set,n01,n02,n12,n10,n20,n21,m0,m1,m2,Ne.symm m0,Ne.symm m1,Ne.symm m2],fun c z c0 c1 c2 hz=>by
    have hcn:c≠nb:=fun e=>by rw [e,hnb] at hz;cases hz
    simp [Hp.set,c0,c1,c2,hcn,hz]⟩
  ·(refine @unH _ ?_;refine zX Ax8 ?_)
   refine ⟨.inr (fun _=>trivial),Avb ?_ ?_⟩
   ·(refine @unH _ ?_;refine zX Ax8 ?_)
    intro nb hnb
    replace hnb:(Hp.set H1 b0 _) nb=none:=hnb
    replace hnb:=(Az8 hnb).2
    have m0:=Aqr u0 hnb
    have m1:=Aqr u1 hnb
    have m2:=Aqr u2 hnb
    have ms:=Aqr us hnb
    refine ⟨.inr (fun _=>by simp only [ms,if_false]),Aqw ?_⟩
    (refine @unH _ ?_;refine zX Ax8 ?_)
    refine ⟨.inr (fun _=>by first | trivial | simp only [ms,if_false]),Aqw ?_⟩
    (refine @unH _ ?_;refine zX Ax8 ?_)
    refine ⟨.inl (by decide),Axq (hK _ _ ?_)⟩
    exact ⟨_,nb,rfl,rfl,rfl,hnb,by simp [Hp.set,n01,n02,n12,n10,n20,n21,m0,m1,m2,Ne.symm m0,Ne.symm m1,Ne.symm m2],by simp [Hp.set,n01,n02,n12,n10,n20,n21,m0,m1,m2,Ne.symm m0,Ne.symm m1,Ne.symm m2],by simp [Hp.set,n01,n02,n12,n10,n20,n21,m0,m1,m2,Ne.symm m0,Ne.symm m1,Ne.symm m2],by simp [Hp.set,n01,n02,n12,n10,n20,n21,m0,m1,m2,Ne.symm m0,Ne.symm m1,Ne.symm m2],fun c z c0 c1 c2 hz=>by
     have hcn:c≠nb:=fun e=>by rw [e,hnb] at hz;cases hz
     simp [Hp.set,c0,c1,c2,hcn,hz]⟩
   ·(refine @unH _ ?_;refine zX Ax8 ?_)
    refine ⟨.inr (fun _=>trivial),Aqw ?_⟩
    (refine @unH _ ?_;refine zX Ax8 ?_)
    intro nb hnb
    replace hnb:(Hp.set (Hp.set H1 b0 _) b1 _) nb=none:=hnb
    replace hnb:=(Az8 (Az8 hnb).2).2
    have m0:=Aqr u0 hnb
    have m1:=Aqr u1 hnb
    have m2:=Aqr u2 hnb
    have ms:=Aqr us hnb
    refine ⟨.inr (fun _=>by simp only [ms,if_false]),Aqw ?_⟩
    (refine @unH _ ?_;refine zX Ax8 ?_)
    refine ⟨.inl (by decide),Axq (hK _ _ ?_)⟩
    exact ⟨_,nb,rfl,rfl,rfl,hnb,by simp [Hp.set,n01,n02,n12,n10,n20,n21,m0,m1,m2,Ne.symm m0,Ne.symm m1,Ne.symm m2],by simp [Hp.set,n01,n02,n12,n10,n20,n21,m0,m1,m2,Ne.symm m0,Ne.symm m1,Ne.symm m2],by simp [Hp.set,n01,n02,n12,n10,n20,n21,m0,m1,m2,Ne.symm m0,Ne.symm m1,Ne.symm m2],by simp [Hp.set,n01,n02,n12,n10,n20,n21,m0,m1,m2,Ne.symm m0,Ne.symm m1,Ne.symm m2],fun c z c0 c1 c2 hz=>by
     have hcn:c≠nb:=fun e=>by rw [e,hnb] at hz;cases hz
     simp [Hp.set,c0,c1,c2,hcn,hz]⟩
 ·intro e a' H' q
  cases e with
  | normal=>
   obtain ⟨e',nb,rfl,e6,e9,hnb,w0,w1,w2,wn,hfr⟩:=q
   have wx:=hfr _ _ (Ne.symm nx0) (Ne.symm nx1) (Ne.symm nx2) vxb
   show wpX _ _ _ _ _ _ _
   (refine Aka 3 [(true,0),(true,1),(true,2),(false,3)] (by kernel_rfl) (by kernel_rfl) (by simp) (by kernel_rfl) ?_;intro K hK;(iterate 3 (refine @unH _ ?_;refine z3 Ax8 ?_));refine Bzj ?_;(refine @unH _ ?_;refine zX Ax8 ?_);try (refine hK _ _ ?_;clear hK K;(try refine @unH _ (zQ ?_))))
   have hmin:min 6 n=n:=by omega
   have wn':H' nb=some (true,.cells (ints (List.replicate n 0)).toArray 3 (0,0)):=by
    rw [wn,ints,List.map_replicate,List.toArray_replicate]
   have htk2:(HC.drop 18).take (min 6 n)=ints (x.first.take n):=by rw [hmin];exact htk
   have hrl:(ints (List.replicate n 0)).length=n:=by rw [Aqz,List.length_replicate]
   refine Bym underlying23 sizeOf3 _ _ nb 0 n n xb 18 6 6 wn' wx (by omega) (by omega) (fun v hv=>(show ∀v∈HC.drop 18,one v=true from hone) v (List.mem_of_mem_take hv)) _ _ ?_
   have hfl:(x.first.take n).length=n:=by rw [List.length_take,hx.f];omega
   rw [htk2,Ay6 (by rw [Aqz,hrl,hfl])]
   have q0:nb≠b0:=fun e=>by rw [e,u0] at hnb;cases hnb
   have q1:nb≠b1:=fun e=>by rw [e,u1] at hnb;cases hnb
   have q2:nb≠b2:=fun e=>by rw [e,u2] at hnb;cases hnb
   have hh0:H nb=none:=Hp.le_none lH1 hnb
   generalize hG:Hp.set H' nb _=H4
   have z0:=Aqi hG w0 (Ne.symm q0)
   have z1:=Aqi hG w1 (Ne.symm q1)
   have z2:=Aqi hG w2 (Ne.symm q2)
   have zn:=Aqb hG
   have hf4:∀c z,c≠b0->c≠b1->c≠b2->H c=some z->H4 c=some z:=fun c z c0 c1 c2 hz=>Aqi hG (hfr c z c0 c1 c2 (lH1 _ _ hz)) (fun e=>by rw [e,hh0] at hz;cases hz)
   clear hG wn wn' w0 w1 w2 wx hfr
   (refine @unH _ ?_;refine zX Ax8 ?_)
   refine hK _ _ ?_
   clear hK K
   (refine @unH _ ?_;refine zD results83 ?_)
   refine ⟨rfl,z0,z1,⟨_,z2,⟨some ⟨nb,0,none⟩,n,by rw [hfl],by rw [hfl];exact Nat.le_refl _,fun i y hy=>⟨nb,0,true,_,_,rfl,zn,?_⟩⟩⟩,hf4⟩
   simp only [Nat.zero_add,List.getElem?_toArray]
   unfold ints
   rw [List.getElem?_map,hy]
   rfl
  | _=>exact q.elim
def FstT (n b0 b1 b2:Nat) (H2:Hp) (L:List (Int×Int×Hint)) (H':Hp):Prop:=
 (∃z y w,H' b0=some (true,.cells #[.int .i64 z] 3 (0,0))/\H' b1=some (true,.cells #[.int .i64 y] 3 (0,0))/\H' b2=some (true,.cells #[w] 23 (0,0)) /\
  match L with
  | []=>z = -1
  | x::_=>z=x.1/\0<=z/\y=x.2.1/\SlI H' w (x.2.2.first.take n)) /\
 ∀b x,b≠b0->b≠b1->b≠b2->H2 b=some x->H' b=some x
theorem Bv4 (main:Md) (H2:Hp) (b0 b1 b2 sb n dcap:Nat) (da:Option Addr) (pl:Int) (hv nv:Value) (hn:n<=6) (vs:H2 sb=some (true,smO pl (.slice da n dcap) hv nv)) (n01:b0≠b1) (ns0:sb≠b0) (ns1:sb≠b1) (ns2:sb≠b2) :
  HCl Tryz.prog main (.func (.func 83) #[] #[.pointer (some ⟨b0,0,none⟩),.pointer (some ⟨sb,0,none⟩),.pointer (some ⟨b1,0,none⟩),.pointer (some ⟨b2,0,none⟩)]) (fun ham _ _=>0<=ham) (fun b=>b=b0∨b=b1∨b=b2) (FstT n b0 b1 b2 H2):=by
 refine ⟨?_,?_,?_⟩
 ·rintro L H H' ⟨⟨z,y,w,h0,h1,h2,h3⟩,h4⟩ hl
  refine ⟨⟨z,y,w,hl _ _ h0,hl _ _ h1,hl _ _ h2,?_⟩,fun b x e0 e1 e2 hx=>hl _ _ (h4 b x e0 e1 e2 hx)⟩
  cases L with
  | nil=>exact h3
  | cons x L=>exact ⟨h3.1,h3.2.1,h3.2.2.1,h3.2.2.2.le hl⟩
 ·rintro L H b ⟨⟨z,y,w,h0,h1,h2,h3⟩,h4⟩ (rfl | rfl | rfl)
  ·rw [h0];simp
  ·rw [h1];simp
  ·rw [h2];simp
 ·rintro L H ham hour x ⟨⟨z,y,w,h0,h1,h2,h3⟩,h4⟩ hxo hA
  cases L with
  | nil=>
   refine Ajn.fn (fun _ _=>Ckc _) ((Ckz main H b0 b1 b2 sb n dcap da pl hv nv ham hour z y w x hxo (by rw [show z = -1 from h3];decide) hn h0 h1 h2 (h4 _ _ ns0 ns1 ns2 vs) n01).mono ?_)
   rintro _ H' ⟨rfl,g0,g1,⟨w',g2,g3⟩,g4⟩
   exact ⟨rfl,⟨⟨ham,hour,w',g0,g1,g2,rfl,hA,rfl,g3⟩,fun b x e0 e1 e2 hx=>g4 b x e0 e1 e2 (h4 b x e0 e1 e2 hx)⟩,fun b x hb hx=>g4 b x (fun e=>hb (.inl e)) (fun e=>hb (.inr (.inl e))) (fun e=>hb (.inr (.inr e))) hx⟩
  | cons x0 L=>
   refine Ajn.fn (fun _ _=>Ckc _) ((Czu main H b0 b1 b2 sb ham hour z x hxo h3.2.1 h0).mono ?_)
   rintro _ H' ⟨rfl,hl⟩
   exact ⟨rfl,⟨⟨z,y,w,hl _ _ h0,hl _ _ h1,hl _ _ h2,h3.1,h3.2.1,h3.2.2.1,h3.2.2.2.le hl⟩,fun b x e0 e1 e2 hx=>hl _ _ (h4 b x e0 e1 e2 hx)⟩,fun b x _ hx=>hl _ _ hx⟩
def fstE (s:Sm):Int×Int×List Int×Int:=match susp s with
 | []=>(0,0,[],11)
 | x::_=>(x.1,x.2.1,x.2.2.first.take s.doors.length,0)
theorem Cqb (H:Hp) (s:Sm) (dv hv nv:Value) (hs:SmIn H dv hv nv s) (ok:SmOk s) :
  FnX Tryz.prog (.wg Tryz.prog) 29 #[smV s.places dv hv nv] H fun e H'=>∃w,e=.returned (.tuple #[.int .i64 (fstE s).1,.int .i64 (fstE s).2.1,w,.int .i64 (fstE s).2.2.2])/\SlI H' w (fstE s).2.2.1/\H.le H':=by
 obtain ⟨da,dc,ha,kc,na,nc,rfl,rfl,rfl,l1,l2,l3⟩:=hs.forms
 refine Aqn func29 rfl ntmps29 (by simp) ?_
 (refine @unH _ (zA Aj0 ?_);(try clear hK K);intro K hK hc)
 intro sb hsb b0 hb0 b1 hb1 b2 hb2
 replace hb2:(Hp.set (Hp.set (Hp.set H sb _) b0 _) b1 _) b2=none:=hb2
 replace hb1:(Hp.set (Hp.set H sb _) b0 _) b1=none:=hb1
 replace hb0:(Hp.set H sb _) b0=none:=hb0
 obtain ⟨n0s,f0⟩:=Az8 hb0
 obtain ⟨n10,f1⟩:=Az8 hb1
 obtain ⟨n1s,f1⟩:=Az8 f1
 obtain ⟨n21,f2⟩:=Az8 hb2
 obtain ⟨n20,f2⟩:=Az8 f2
 obtain ⟨n2s,f2⟩:=Az8 f2
 clear hb0 hb1 hb2
 have l01:H.le (Hp.set (Hp.set (Hp.set (Hp.set H sb (smO s.places (.slice da s.doors.length dc) (.slice ha s.hampers.length kc) (.slice na s.noses.length nc))) b0 (.cells #[.int .i64 0] 3 (0,0))) b1 (.cells #[.int .i64 0] 3 (0,0))) b2 (.cells #[.slice none 0 0] 23 (0,0))):=fun c z hc=>by
  have c0:c≠sb:=fun e=>by rw [e,hsb] at hc;cases hc
  have c1:c≠b0:=fun e=>by rw [e,f0] at hc;cases hc
  have c2:c≠b1:=fun e=>by rw [e,f1] at hc;cases hc
  have c3:c≠b2:=fun e=>by rw [e,f2] at hc;cases hc
  simp only [Hp.set,c0,c1,c2,c3,if_false,hc]
 generalize hG:Hp.set (Hp.set (Hp.set (Hp.set H sb _) b0 _) b1 _) b2 _=H1 at l01 ⊢
 have vs:H1 sb=some (true,smO s.places (.slice da s.doors.length dc) (.slice ha s.hampers.length kc) (.slice na s.noses.length nc)):=by rw [<-hG];simp [Hp.set,Ne.symm n0s,Ne.symm n1s,Ne.symm n2s]
 have v0:H1 b0=some (true,.cells #[.int .i64 0] 3 (0,0)):=by rw [<-hG];simp [Hp.set,Ne.symm n10,Ne.symm n20]
 have v1:H1 b1=some (true,.cells #[.int .i64 0] 3 (0,0)):=by rw [<-hG];simp [Hp.set,Ne.symm n21]
 have v2:H1 b2=some (true,.cells #[.slice none 0 0] 23 (0,0)):=by rw [<-hG];simp [Hp.set]
 have hs1:=hs.le l01
 clear hG hs
 (refine @unH _ (zU Aj0 ?_);(try clear hK K);intro K hK hc)
 refine (Akl H1 s _ _ _ hs1 ok 0 _ [] (nilS H1) (by simp)).runs.mono ?_
 rw [Cq6]
 rintro _ H2 ⟨v,rfl,lH2,hv,_⟩
 have l02:=Hp.le_trans l01 lH2
 replace vs:=lH2 _ _ vs
 replace v0:=lH2 _ _ v0
 replace v1:=lH2 _ _ v1
 replace v2:=lH2 _ _ v2
 clear hs1 l01 lH2
 have hss:Az7 (Axw s)=susp s:=rfl
 by_cases hz:Azy s=0
 ·rw [if_pos hz]
  have hfe:fstE s=(0,0,[],11):=by
   unfold fstE
   rw [List.length_eq_zero_iff.1 ((Bze s).symm.trans hz)]
  replace hfe:Aqk _:=hfe
  clear hz hv hss
  (refine @unH _ (zU Aj0 ?_);(try clear hK K);intro K hK hc)
  generalize hG:Hp.set (Hp.set (Hp.set H2 b0 _) b1 _) b2 _=H3
  have w0:H3 b0=some (true,.cells #[.int .i64 0] 3 (0,0)):=by rw [<-hG];simp [Hp.set,Ne.symm n10,Ne.symm n20]
  have w1:H3 b1=some (true,.cells #[.int .i64 0] 3 (0,0)):=by rw [<-hG];simp [Hp.set,Ne.symm n21]
  have w2:H3 b2=some (true,.cells #[.slice none 0 0] 23 (0,0)):=by rw [<-hG];simp [Hp.set]
  have l03:H.le H3:=fun c z hc=>by
   have c1:c≠b0:=fun e=>by rw [e,f0] at hc;cases hc
   have c2:c≠b1:=fun e=>by rw [e,f1] at hc;cases hc
   have c3:c≠b2:=fun e=>by rw [e,f2] at hc;cases hc
   rw [<-hG]
   simp only [Hp.set,c1,c2,c3,if_false]
   exact l02 _ _ hc
  clear hG
  refine Axr ?_
  (try refine @unH _ (zQ ?_))
  rw [Aq8]
  refine Bzl results29 (by decide) (by decide) (by decide) (by decide) rfl rfl rfl underlying3 rfl underlying3 rfl underlying23 rfl (by rw [cell_of w0];rfl) (by rw [cell_of w1];rfl) (by rw [cell_of w2];rfl) _ _ ?_
  rw [show fstE s=_ from hfe]
  exact ⟨_,rfl,nilS _,l03⟩
 ·rw [if_neg hz] at hv ⊢
  replace hv:=hv (.inl rfl)
  have hzn:Aqk (¬Azy s=0):=hz
  clear hz
  (refine @unH _ (zU Aj0 ?_);(try clear hK K);intro K hK hc)
  generalize hG:Hp.set H2 b0 _=H3
  have w0:=Aqb hG
  have w1:=Aqi hG v1 n10
  have w2:=Aqi hG v2 n20
  have ws:=Aqi hG vs (Ne.symm n0s)
  have hv3:SlT H3 v (Axw s):=hv.move fun x p c fr hx=>⟨p,Aqi hG hx (fun e=>by rw [e,v0] at hx;simp at hx)⟩
  have l03:∀c z,c≠b0->c≠b1->c≠b2->H c=some z->H3 c=some z:=fun c z c0 _ _ hc=>Aqi hG (l02 _ _ hc) c0
  clear hG v0 v1 v2 vs hv
  have hcl:=Bv4 (.wg Tryz.prog) H3 b0 b1 b2 sb s.doors.length dc da s.places _ _ ok.dl ws (Ne.symm n10) (Ne.symm n0s) (Ne.symm n1s) (Ne.symm n2s)
  refine (Awo _ hcl H3 v _ (fun L H' hT _=>hv3.move fun x p c fr hx=>⟨p,hT.2 x _ (fun e=>by rw [e,w0] at hx;simp at hx) (fun e=>by rw [e,w1] at hx;simp at hx) (fun e=>by rw [e,w2] at hx;simp at hx) hx⟩) (Akf ok) (fun t ht _ _ _ _=>(Cjp ok t ht).1) (by rw [Ajc];have:=ok.h1;omega) [] ⟨⟨-1,0,_,w0,w1,w2,rfl⟩,fun _ _ _ _ _ hx=>hx⟩).runs.mono ?_
  clear hcl w0 w1 w2 ws hv3
  rintro _ H4 ⟨rfl,hT,hfr⟩
  rw [List.nil_append,hss] at hT
  obtain ⟨⟨z,y,w,w0,w1,w2,hL⟩,hF⟩:=hT
  have l04:H.le H4:=fun c x hc=>hF c x (fun e=>by rw [e,f0] at hc;cases hc) (fun e=>by rw [e,f1] at hc;cases hc) (fun e=>by rw [e,f2] at hc;cases hc) (l03 c x (fun e=>by rw [e,f0] at hc;cases hc) (fun e=>by rw [e,f1] at hc;cases hc) (fun e=>by rw [e,f2] at hc;cases hc) hc)
  clear hF hfr l03 hss
  have hfe:∃l,SlI H4 w l/\fstE s=(z,y,l,0):=by
   cases hS:susp s with
   | nil=>exact absurd ((Bze s).trans (by rw [hS];rfl)) hzn
   | cons x L=>
    rw [hS] at hL
    obtain ⟨h1,_,h2,h3⟩:=hL
    exact ⟨_,h3,by unfold fstE;rw [hS];simp only [h1,h2]⟩
  obtain ⟨l,hl,hfe⟩:=hfe
  replace hfe:Aqk _:=hfe
  clear hL
  obtain ⟨wa,wn,wc,rfl⟩:=hl.isSlice
  (refine @unH _ (zU Aj0 ?_);(try clear hK K);intro K hK hc)
  have m01:=Ne.symm n10
  have m02:=Ne.symm n20
  have m12:=Ne.symm n21
  refine Axm (fun HX=>HX b0=some (true,.cells #[.int .i64 z] 3 (0,0))/\HX b1=some (true,.cells #[.int .i64 y] 3 (0,0))/\HX b2=some (true,.cells #[.slice wa wn wc] 23 (0,0))) [] (.take 0 (.take 1 (.take 2 (.one 3 (.one 4 (.one 5 (.free 6 .nil))))))) (by kernel_rfl) (by kernel_rfl) (by decide) (by kernel_rfl) ?_;intro K hK
  have hS0:(fun HX:Hp=>HX b0=some (true,.cells #[.int .i64 z] 3 (0,0))/\HX b1=some (true,.cells #[.int .i64 y] 3 (0,0))/\HX b2=some (true,.cells #[.slice wa wn wc] 23 (0,0))) H4:=⟨w0,w1,w2⟩
  (apply Axd rfl rfl rfl ‹_›;(focus (intro HX hHX;simp -implicitDefEqProofs (disch:=first | omega | (simp only [qd]<;>omega)) only [xq,↓xp,qc,Nat.reduceAdd,List.range,List.range.loop,fine,Nat.reduceEqDiff,↓reduceIte,yielded,reduceCtorEq,Nat.reduceLT,Nat.reduceMul,Nat.reduceSub,one,Nat.reduceLeDiff,Aqg,Aj0,aq,↓ap,qe0,qe1,qe2, *,-hK,Axa,hHX.1]<;>(first | exact rfl | exact ⟨rfl,rfl⟩ | exact ⟨rfl,trivial⟩)));simp -implicitDefEqProofs (disch:=first | omega | (simp only [qd]<;>omega)) only [Aq3,Aql])
  (apply Axd rfl rfl rfl ‹_›;(focus (intro HX hHX;simp -implicitDefEqProofs (disch:=first | omega | (simp only [qd]<;>omega)) only [xq,↓xp,qc,Nat.reduceAdd,List.range,List.range.loop,fine,Nat.reduceEqDiff,↓reduceIte,yielded,reduceCtorEq,Nat.reduceLT,Nat.reduceMul,Nat.reduceSub,one,Nat.reduceLeDiff,Aqg,Aj0,aq,↓ap,qe0,qe1,qe2, *,-hK,Axa,hHX.2.1]<;>(first | exact rfl | exact ⟨rfl,rfl⟩ | exact ⟨rfl,trivial⟩)));simp -implicitDefEqProofs (disch:=first | omega | (simp only [qd]<;>omega)) only [Aq3,Aql])
  (apply Axd rfl rfl rfl ‹_›;(focus (intro HX hHX;simp -implicitDefEqProofs (disch:=first | omega | (simp only [qd]<;>omega)) only [xq,↓xp,qc,Nat.reduceAdd,List.range,List.range.loop,fine,Nat.reduceEqDiff,↓reduceIte,yielded,reduceCtorEq,Nat.reduceLT,Nat.reduceMul,Nat.reduceSub,one,Nat.reduceLeDiff,Aqg,Aj0,aq,↓ap,qe0,qe1,qe2, *,-hK,Axa,hHX.2.2]<;>(first | exact rfl | exact ⟨rfl,rfl⟩ | exact ⟨rfl,trivial⟩)));simp -implicitDefEqProofs (disch:=first | omega | (simp only [qd]<;>omega)) only [Aq3,Aql])
  refine Aqw ?_
  (refine @unH _ ?_;refine zX Aj0 ?_)
  refine ⟨.inr fun _=>trivial,Aqw ?_⟩
  (refine @unH _ ?_;refine zX Aj0 ?_)
  refine ⟨.inr fun _=>by simp only [Hp.set,if_true,if_false,m01,m02,m12,n10,n20,n21,w0,w1,w2,and_self],Aqw ?_⟩
  (refine @unH _ ?_;refine zX Aj0 ?_)
  refine ⟨.inr fun _=>by simp only [Hp.set,if_true,if_false,m01,m02,m12,n10,n20,n21,w0,w1,w2,and_self],?_⟩
  (refine @unH _ ?_;refine zI Aj0 ?_)
  refine Axq (hK _ _ ?_)
  clear hK K hS0
  generalize hG:Hp.set (Hp.set (Hp.set H4 b0 _) b1 _) b2 _=H5
  have hall:∀c x,H4 c=some x->H5 c=some x:=fun c x hx=>by
   rw [<-hG]
   by_cases e2:c=b2
   ·subst e2;rw [Axh,<-hx,w2]
   ·rw [Aqv e2]
    by_cases e1:c=b1
    ·subst e1;rw [Axh,<-hx,w1]
    ·rw [Aqv e1]
     by_cases e0:c=b0
     ·subst e0;rw [Axh,<-hx,w0]
     ·rw [Aqv e0];exact hx
  clear hG
  replace w0:=hall _ _ w0
  replace w1:=hall _ _ w1
  replace w2:=hall _ _ w2
  replace hl:=hl.le hall
  have l05:H.le H5:=fun c x hx=>hall _ _ (l04 _ _ hx)
  show wpX _ _ _ _ _ _ _
  refine Axr ?_
  (try refine @unH _ (zQ ?_))
  rw [Aq8]
  refine Bzl results29 (by decide) (by decide) (by decide) (by decide) rfl rfl rfl underlying3 rfl underlying3 rfl underlying23 rfl (by rw [cell_of w0];rfl) (by rw [cell_of w1];rfl) (by rw [cell_of w2];rfl) _ _ ?_
  rw [show fstE s=_ from hfe]
  exact ⟨_,rfl,hl,l05⟩
end Go.Proofs.YtaehjjbekjglkaaGreatDoor
end
