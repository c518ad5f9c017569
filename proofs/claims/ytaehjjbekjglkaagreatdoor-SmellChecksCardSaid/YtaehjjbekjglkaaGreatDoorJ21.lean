/- Texts SmE SmEv PlanZ SmKp SmCo SmTr SmTs SmKd. -/
import Derived.Test.YtaehjjbekjglkaaGreatDoorJ20
set_option linter.defProp false
set_option linter.unusedSimpArgs false
set_option linter.unusedVariables false
set_option maxRecDepth 100000
set_option maxHeartbeats 2000000
section
namespace Go.Proofs.YtaehjjbekjglkaaGreatDoor
open Go Go.X Go.Proofs.Tryz
def Aks:=aN @Dyw (aN @Dzq (aN @Bja (aN @Ckd (aN @Bxc @Dyh))))
def Awi:=aN @Dyw (aN @Cka (aN @Dyh (aN @Ckd (aN @Dwl (aN @Dy8 @Dw9)))))
def Cqv:=aN @Dyx (aN @Ajf @Dyi)
def Cq0:=aN @Dyz (aN @Ajf (aN @Aw4 @Dyj))
def Cq1:=aN @Dy0 (aN @Bz8 @Dyk)
theorem Bqp (m:Md) (H:Hp) (a b x y:Int) :
  FnX Tryz.prog m 91 #[.int .i64 a,.int .i64 b,.int .i64 x,.int .i64 y] H fun e H'=>e=.returned (.agg #[.int .i64 a,.int .i64 b,.int .i64 x,.int .i64 y])/\H.le H':=by
 refine Aqn func91 rfl ntmps91 (by simp) ?_
 (refine @unH _ (zA Cq0 ?_);(try clear hK K);intro K hK hc)
 (intro rb hrb;generalize hG:Hp.set _ rb _=H1;have lH1:=Aqc hG hrb;have vrb:=Aqb hG;clear hG)
 (refine @unH _ (zU Cq0 ?_);(try clear hK K);intro K hK hc)
 (refine Axr ?_;(try simp only [nq,↓reduceIte,Nat.reduceEqDiff]);rw [Aq8,Ax4 results91 (by decide) (b:=rb) (o:=0) rfl underlying30 rfl sizeOf30];simp -implicitDefEqProofs (disch:=first | omega | (simp only [qd]<;>omega)) only [xq,↓xp,qc,Nat.reduceAdd,List.range,List.range.loop,fine,Nat.reduceEqDiff,↓reduceIte,yielded,reduceCtorEq,Nat.reduceLT,Nat.reduceMul,Nat.reduceSub,one,Nat.reduceLeDiff,Aqg,Cq0,Axl,List.extract_toArray])
 exact Az4 lH1 hrb
theorem Awu (m:Md) (H:Hp) (p h:Int) (s:Bool) :
  FnX Tryz.prog m 92 #[.int .i64 p,.int .i64 h,.bool s] H fun e H'=>e=.returned (.agg #[.int .i64 p,.int .i64 h,.bool s])/\H.le H':=by
 refine Aqn func92 rfl ntmps92 (by simp) ?_
 (refine @unH _ (zA Cq1 ?_);(try clear hK K);intro K hK hc)
 (intro rb hrb;generalize hG:Hp.set _ rb _=H1;have lH1:=Aqc hG hrb;have vrb:=Aqb hG;clear hG)
 (refine @unH _ (zU Cq1 ?_);(try clear hK K);intro K hK hc)
 (refine Axr ?_;(try simp only [nq,↓reduceIte,Nat.reduceEqDiff]);rw [Aq8,Ax4 results92 (by decide) (b:=rb) (o:=0) rfl underlying32 rfl sizeOf32];simp -implicitDefEqProofs (disch:=first | omega | (simp only [qd]<;>omega)) only [xq,↓xp,qc,Nat.reduceAdd,List.range,List.range.loop,fine,Nat.reduceEqDiff,↓reduceIte,yielded,reduceCtorEq,Nat.reduceLT,Nat.reduceMul,Nat.reduceSub,one,Nat.reduceLeDiff,Aqg,Cq1,Axl,List.extract_toArray])
 exact Az4 lH1 hrb
theorem Bqo (m:Md) (H:Hp) (a b:Int) :
  FnX Tryz.prog m 46 #[.int .i64 a,.int .i64 b] H fun e H'=>e=.returned (.agg #[.int .i64 a,.int .i64 b])/\H.le H':=by
 refine Aqn func46 rfl ntmps46 (by simp) ?_
 (refine @unH _ (zA Cqv ?_);(try clear hK K);intro K hK hc)
 (intro rb hrb;generalize hG:Hp.set _ rb _=H1;have lH1:=Aqc hG hrb;have vrb:=Aqb hG;clear hG)
 (refine @unH _ (zU Cqv ?_);(try clear hK K);intro K hK hc)
 (refine Axr ?_;(try simp only [nq,↓reduceIte,Nat.reduceEqDiff]);rw [Aq8,Ax4 results46 (by decide) (b:=rb) (o:=0) rfl underlying28 rfl sizeOf28];simp -implicitDefEqProofs (disch:=first | omega | (simp only [qd]<;>omega)) only [xq,↓xp,qc,Nat.reduceAdd,List.range,List.range.loop,fine,Nat.reduceEqDiff,↓reduceIte,yielded,reduceCtorEq,Nat.reduceLT,Nat.reduceMul,Nat.reduceSub,one,Nat.reduceLeDiff,Aqg,Cqv,Axl,List.extract_toArray])
 exact Az4 lH1 hrb
theorem Dkb (a b c d a' b' c' d' a2 b2 c2 d2:Int):Instr.fill (fun i=>some (i*4,4)) ((Array.range (3*4)).map fun x=>(Value.agg #[.int .i64 0,.int .i64 0,.int .i64 0,.int .i64 0]).cells[x%(Value.agg #[.int .i64 0,.int .i64 0,.int .i64 0,.int .i64 0]).cells.size]!) [(0,.agg #[.int .i64 a,.int .i64 b,.int .i64 c,.int .i64 d]),(1,.agg #[.int .i64 a',.int .i64 b',.int .i64 c',.int .i64 d']),(2,.agg #[.int .i64 a2,.int .i64 b2,.int .i64 c2,.int .i64 d2])]=some #[.int .i64 a,.int .i64 b,.int .i64 c,.int .i64 d,.int .i64 a',.int .i64 b',.int .i64 c',.int .i64 d',.int .i64 a2,.int .i64 b2,.int .i64 c2,.int .i64 d2]:=by
 kernel_rfl
theorem Dkc (a b a' b':Int) (c c':Bool):Instr.fill (fun i=>some (i*3,3)) ((Array.range (2*3)).map fun x=>(Value.agg #[.int .i64 0,.int .i64 0,.bool false]).cells[x%(Value.agg #[.int .i64 0,.int .i64 0,.bool false]).cells.size]!) [(0,.agg #[.int .i64 a,.int .i64 b,.bool c]),(1,.agg #[.int .i64 a',.int .i64 b',.bool c'])]=some #[.int .i64 a,.int .i64 b,.bool c,.int .i64 a',.int .i64 b',.bool c']:=by
 kernel_rfl
theorem Dxw {H:Hp} (a b c d a' b' c' d' a2 b2 c2 d2:Int) (K:Value->Hp->Prop) (E:Value->Hp->Prop) :
  wpS Tryz.prog (Instr.buildSlice 22 3 #[(0,.agg #[.int .i64 a,.int .i64 b,.int .i64 c,.int .i64 d]),(1,.agg #[.int .i64 a',.int .i64 b',.int .i64 c',.int .i64 d']),(2,.agg #[.int .i64 a2,.int .i64 b2,.int .i64 c2,.int .i64 d2])]) H K E=∀nb,H nb=none->K (.slice (some ⟨nb,0,none⟩) 3 3) (H.set nb (.cells #[.int .i64 a,.int .i64 b,.int .i64 c,.int .i64 d,.int .i64 a',.int .i64 b',.int .i64 c',.int .i64 d',.int .i64 a2,.int .i64 b2,.int .i64 c2,.int .i64 d2] 30 (0,0))):=by
 unfold Instr.buildSlice
 have hn1:¬3*4>2 ^ 24:=by decide
 have hn2:¬3*4=0:=by decide
 simp only [Aqa,Aqj underlying22,Aq0 sizeOf30,hn1,hn2,if_false,Axe zeroValue30,Aqf]
 rw [Dkb]
 simp only [newRow,newObj,Aqa,wpS,Aqf]
theorem Cj8 {H:Hp} (a b a' b':Int) (c c':Bool) (K:Value->Hp->Prop) (E:Value->Hp->Prop) :
  wpS Tryz.prog (Instr.buildSlice 24 2 #[(0,.agg #[.int .i64 a,.int .i64 b,.bool c]),(1,.agg #[.int .i64 a',.int .i64 b',.bool c'])]) H K E=∀nb,H nb=none->K (.slice (some ⟨nb,0,none⟩) 2 2) (H.set nb (.cells #[.int .i64 a,.int .i64 b,.bool c,.int .i64 a',.int .i64 b',.bool c'] 32 (0,0))):=by
 unfold Instr.buildSlice
 have hn1:¬2*3>2 ^ 24:=by decide
 have hn2:¬2*3=0:=by decide
 simp only [Aqa,Aqj underlying24,Aq0 sizeOf32,hn1,hn2,if_false,Axe zeroValue32,Aqf]
 rw [Dkc]
 simp only [newRow,newObj,Aqa,wpS,Aqf]
def Ajl:Sm:=⟨4,[⟨0,1,2,3⟩,⟨1,2,1,1⟩,⟨0,3,1,2⟩],[0,2],[⟨1,4,true⟩,⟨3,3,false⟩]⟩
def oddS:Sm:=⟨4,[⟨0,1,2,3⟩,⟨1,2,1,1⟩,⟨0,3,1,2⟩],[0,2],[⟨2,0,true⟩,⟨2,1,false⟩]⟩
theorem Bx8:∀d∈Ajl.doors,DrOk 4 d:=fun d hd=>by
 simp only [Ajl,List.mem_cons,List.not_mem_nil,or_false] at hd
 rcases hd with rfl | rfl | rfl<;>exact ⟨by decide,by decide,by decide,by decide,by decide,by decide,by decide,by decide⟩
theorem Avk:SmOk Ajl:=⟨by decide,by decide,by decide,Bx8,by decide,by decide,by decide,by decide,by decide,fun n hn=>by
 simp only [Ajl,List.mem_cons,List.not_mem_nil,or_false] at hn
 rcases hn with rfl | rfl<;>exact ⟨by decide,by decide,by decide,by decide⟩⟩
theorem Djc:SmOk oddS:=⟨by decide,by decide,by decide,Bx8,by decide,by decide,by decide,by decide,by decide,fun n hn=>by
 simp only [oddS,List.mem_cons,List.not_mem_nil,or_false] at hn
 rcases hn with rfl | rfl<;>exact ⟨by decide,by decide,by decide,by decide⟩⟩
theorem Ajv (m:Md) (H:Hp) :
  FnX Tryz.prog m 44 #[] H fun e H'=>∃dv hv nv,e=.returned (smV 4 dv hv nv)/\SmIn H' dv hv nv Ajl/\H.le H':=by
 refine Aqn func44 rfl ntmps44 (by simp) ?_
 (refine @unH _ (zA Aks ?_);(try clear hK K);intro K hK hc)
 (intro rb hrb;generalize hG:Hp.set _ rb _=H1;have lH1:=Aqc hG hrb;have vrb:=Aqb hG;clear hG)
 (refine @unH _ (zU Aks ?_);(try clear hK K);intro K hK hc)
 refine (Bqp m H1 0 1 2 3).runs.mono ?_
 rintro _ H2 ⟨rfl,l12⟩
 have l02:=Hp.le_trans lH1 l12
 have vr2:=l12 _ _ vrb
 clear l12
 (refine @unH _ (zU Aks ?_);intro _ _ hc)
 refine (Bqp m H2 1 2 1 1).runs.mono ?_
 rintro _ H3 ⟨rfl,l23⟩
 have l03:=Hp.le_trans l02 l23
 have vr3:=l23 _ _ vr2
 clear l23 l02 vr2 vrb
 (refine @unH _ (zU Aks ?_);intro _ _ hc)
 refine (Bqp m H3 0 3 1 2).runs.mono ?_
 rintro _ H4 ⟨rfl,l34⟩
 have l04:=Hp.le_trans l03 l34
 have vr4:=l34 _ _ vr3
 clear l34 l03 vr3
 (refine @unH _ (zU (aN Aks @Dxw) ?_);intro _ _ hc)
 (intro db hdb ib hib;replace hib:(Hp.set _ db _) ib=none:=hib;generalize hG:Hp.set _ db _=H5 at hib ⊢;have lH5:=Aqc hG hdb;have wdb:=Aqb hG;clear hG;generalize hG:Hp.set _ ib _=H6;have lH6:=Aqc hG hib;have vib:=Aqb hG;have vdb:=lH6 _ _ wdb;have ndbib:=Aqr wdb hib;clear hG wdb)
 have l06:=Hp.le_trans l04 (Hp.le_trans lH5 lH6)
 have vr6:=lH6 _ _ (lH5 _ _ vr4)
 clear l04 vr4 hdb hib lH5 lH6
 (refine @unH _ (zU Aks ?_);intro _ _ hc)
 refine (Awu m H6 1 4 true).runs.mono ?_
 rintro _ H7 ⟨rfl,l67⟩
 have l07:=Hp.le_trans l06 l67
 have vr7:=l67 _ _ vr6
 have vd7:=l67 _ _ vdb
 have vi7:=l67 _ _ vib
 clear l06 l67 vr6 vdb vib
 (refine @unH _ (zU Aks ?_);intro _ _ hc)
 refine (Awu m H7 3 3 false).runs.mono ?_
 rintro _ H8 ⟨rfl,l78⟩
 have l08:=Hp.le_trans l07 l78
 have vr8:=l78 _ _ vr7
 have vd8:=l78 _ _ vd7
 have vi8:=l78 _ _ vi7
 clear l07 l78 vr7 vd7 vi7
 (refine @unH _ (zU (aN Aks @Cj8) ?_);intro _ _ hc)
 intro nb hnb
 have nrn:=Aqr vr8 hnb
 (refine @unH _ (zU Aks ?_);(try clear hK K);intro K hK hc)
 generalize hG:Hp.set H8 nb _=H9
 have l89:=Aqc hG hnb
 have vn9:=Aqb hG
 have vr9:=l89 _ _ vr8
 have vd9:=l89 _ _ vd8
 have vi9:=l89 _ _ vi8
 have l09:=Hp.le_trans l08 l89
 clear hG l89 hnb l08 vr8 vd8 vi8
 have nrd:db≠rb:=fun e=>by rw [e,vr9] at vd9;simp at vd9
 have nri:ib≠rb:=fun e=>by rw [e,vr9] at vi9;simp at vi9
 (refine @unH _ (zU Aks ?_);(try clear hK K);intro K hK hc)
 (refine Axr ?_;(try simp only [nq,↓reduceIte,Nat.reduceEqDiff]);rw [Aq8,Ax4 results44 (by decide) (b:=rb) (o:=0) rfl underlying26 rfl sizeOf26];simp -implicitDefEqProofs (disch:=first | omega | (simp only [qd]<;>omega)) only [xq,↓xp,qc,Nat.reduceAdd,List.range,List.range.loop,fine,Nat.reduceEqDiff,↓reduceIte,yielded,reduceCtorEq,Nat.reduceLT,Nat.reduceMul,Nat.reduceSub,one,Nat.reduceLeDiff,Aqg,Aks,Axl,List.extract_toArray])
 have hD:SlD H9 (.slice (some ⟨db,0,none⟩) 3 3) Ajl.doors:=SlG.of (by decide) (rows:=Ajl.doors.map Bx4) (N:=3) vd9 (fun r hr=>by
  obtain ⟨d,_,rfl⟩:=List.mem_map.1 hr
  rfl) (fun j u h=>by simp only [List.getElem?_toArray];exact h) (by decide)
 have hN:SlN H9 (.slice (some ⟨nb,0,none⟩) 2 2) Ajl.noses:=SlG.of (by decide) (rows:=Ajl.noses.map Bzf) (N:=2) vn9 (fun r hr=>by
  obtain ⟨d,_,rfl⟩:=List.mem_map.1 hr
  rfl) (fun j u h=>by simp only [List.getElem?_toArray];exact h) (by decide)
 have hI:SlI H9 (.slice (some ⟨ib,0,none⟩) 2 2) Ajl.hampers:=⟨_,2,rfl,Nat.le_refl _,fun i x hx=>⟨ib,0,true,_,_,rfl,vi9,by
  rcases i with _ | _ | i
  ·simp only [Ajl,List.getElem?_cons_zero,Option.some.injEq] at hx;subst hx;rfl
  ·simp only [Ajl,List.getElem?_cons_succ,List.getElem?_cons_zero,Option.some.injEq] at hx;subst hx;rfl
  ·simp [Ajl] at hx⟩⟩
 refine ⟨_,_,_,rfl,⟨hD.move fun x p c fr hx=>⟨p,?_⟩,hI.move fun x p c fr hx=>?_,hN.move fun x p c fr hx=>⟨p,?_⟩⟩,Az4 l09 hrb⟩
 ·rw [Aqv (fun e=>by rw [e,vr9] at hx;simp at hx)];exact hx
 ·rw [Aqv (fun e=>by rw [e,vr9] at hx;simp at hx)];exact hx
 ·rw [Aqv (fun e=>by rw [e,vr9] at hx;simp at hx)];exact hx
theorem Dqk (m:Md) (H:Hp) :
  FnX Tryz.prog m 45 #[] H fun e H'=>∃dv hv nv,e=.returned (smV 4 dv hv nv)/\SmIn H' dv hv nv oddS/\H.le H':=by
 refine Aqn func45 rfl ntmps45 (by simp) ?_
 (refine @unH _ (zA Awi ?_);(try clear hK K);intro K hK hc)
 (intro rb hrb;generalize hG:Hp.set _ rb _=H1;have lH1:=Aqc hG hrb;have vrb:=Aqb hG;clear hG)
 (refine @unH _ (zU Awi ?_);(try clear hK K);intro K hK hc)
 refine (Ajv m H1).runs.mono ?_
 rintro _ H2 ⟨dv,hv,nv,rfl,hs2,l12⟩
 obtain ⟨da,dc,ha,kc,na,nc,rfl,rfl,rfl,l1,l2,l3⟩:=hs2.forms
 have l02:=Hp.le_trans lH1 l12
 have vr2:=l12 _ _ vrb
 clear l12
 (refine @unH _ (zU Awi ?_);intro _ _ hc)
 (intro ob hob;generalize hG:Hp.set _ ob _=H3;have lH3:=Aqc hG hob;have vob:=Aqb hG;clear hG)
 have nro:=Aqr vr2 hob
 have hs3:=hs2.le lH3
 have l03:=Hp.le_trans l02 lH3
 have f0o:=Hp.le_none l02 hob
 have vr3:=lH3 _ _ vr2
 clear l02 lH3 vr2 hs2 hob vrb lH1
 (refine @unH _ (zU Awi ?_);(try clear hK K);intro K hK hc)
 refine (Awu m H3 2 0 true).runs.mono ?_
 rintro _ H4 ⟨rfl,l34⟩
 have l04:=Hp.le_trans l03 l34
 have vr4:=l34 _ _ vr3
 have vo4:=l34 _ _ vob
 have hs4:=hs3.le l34
 clear l03 l34 vr3 vob hs3
 (refine @unH _ (zU Awi ?_);intro _ _ hc)
 refine (Awu m H4 2 1 false).runs.mono ?_
 rintro _ H5 ⟨rfl,l45⟩
 have l05:=Hp.le_trans l04 l45
 have vr5:=l45 _ _ vr4
 have vo5:=l45 _ _ vo4
 have hs5:=hs4.le l45
 clear l04 l45 vr4 vo4 hs4
 (refine @unH _ (zU (aN Awi @Cj8) ?_);intro _ _ hc)
 intro nb hnb
 have nrn:=Aqr vr5 hnb
 have non:=Aqr vo5 hnb
 (refine @unH _ (zU Awi ?_);(try clear hK K);intro K hK hc)
 generalize hG:Hp.set H5 nb _=H6
 have l56:=Aqc hG hnb
 have vn6:=Aqb hG
 have vr6:=l56 _ _ vr5
 have vo6:=l56 _ _ vo5
 have hs6:=hs5.le l56
 have l06:=Hp.le_trans l05 l56
 clear hG l56 hnb l05 vr5 vo5 hs5
 (refine Axr ?_;(try simp only [nq,↓reduceIte,Nat.reduceEqDiff]);rw [Aq8,Ax4 results45 (by decide) (b:=rb) (o:=0) rfl underlying26 rfl sizeOf26];simp -implicitDefEqProofs (disch:=first | omega | (simp only [qd]<;>omega)) only [xq,↓xp,qc,Nat.reduceAdd,List.range,List.range.loop,fine,Nat.reduceEqDiff,↓reduceIte,yielded,reduceCtorEq,Nat.reduceLT,Nat.reduceMul,Nat.reduceSub,one,Nat.reduceLeDiff,Aqg,Awi,Axl,List.extract_toArray])
 have hN:SlN H6 (.slice (some ⟨nb,0,none⟩) 2 2) oddS.noses:=SlG.of (by decide) (rows:=oddS.noses.map Bzf) (N:=2) vn6 (fun r hr=>by
  obtain ⟨d,_,rfl⟩:=List.mem_map.1 hr
  rfl) (fun j u h=>by simp only [List.getElem?_toArray];exact h) (by decide)
 refine ⟨_,_,_,rfl,⟨hs6.dd.move fun x p c fr hx=>⟨p,?_⟩,hs6.hh.move fun x p c fr hx=>?_,hN.move fun x p c fr hx=>⟨p,?_⟩⟩,Az4 (Az4 l06 f0o) hrb⟩
 ·rw [Aqv (fun e=>by rw [e,vr6] at hx;simp at hx),Aqv (fun e=>by rw [e,vo6] at hx;simp at hx)];exact hx
 ·rw [Aqv (fun e=>by rw [e,vr6] at hx;simp at hx),Aqv (fun e=>by rw [e,vo6] at hx;simp at hx)];exact hx
 ·rw [Aqv (fun e=>by rw [e,vr6] at hx;simp at hx),Aqv (fun e=>by rw [e,vo6] at hx;simp at hx)];exact hx
end Go.Proofs.YtaehjjbekjglkaaGreatDoor
end
section
namespace Go.Proofs.YtaehjjbekjglkaaGreatDoor
open Go Go.X
theorem Cyi:reaE Ajl 2 3=(4,6,0):=by kernel_rfl
theorem Cyg:Azy Ajl=5:=by kernel_rfl
theorem Cyj:sinE Ajl 1=(0,3,0):=by kernel_rfl
theorem Dj4:begE Ajl [0] 3=0:=by kernel_rfl
theorem Dzz:Cwb Ajl 0 3=3:=by kernel_rfl
theorem Cyf:comE Ajl 3=(4,9,0):=by kernel_rfl
theorem Cyl:wroF oddS=[0]:=by kernel_rfl
theorem Cyk:snE Ajl 2=(1,3,0):=by kernel_rfl
theorem Cyh:fstE Ajl=(0,2,[2,1,2],0):=by kernel_rfl
end Go.Proofs.YtaehjjbekjglkaaGreatDoor
end
section
namespace Go.X
open Go
section
variable {P:Program} {main:Md} {lp:Option Nat} {Q:Exit->Act->Hp->Prop} {S:Hp->Prop} {ts:List Nat} {p:PV} {a:Act} {H:Hp} {l ops:List Oper} {i:Nat}
 {d:Option Tmp} {op:Op} {ty:TypeId} {pos:String} {af:Array Edge} {v:Value} {j:Nat} {b:Bool} {t:Tmp}
structure Ayr (l ops:List Oper):Prop where
 nth:∀i:Nat,ops[i]?=l[i]?
theorem Ax6 (h:∀ops,Ayr l ops->Azh P main lp ops.toArray Q S ts p a H):Azh P main lp l.toArray Q S ts p a H:=h l ⟨fun _=>rfl⟩
theorem Ayr.guard (hO:Ayr l ops) {o oj:Oper} (hg:o.guard=some (j,b)) (hj:l[j]?=some oj) (hd:oj.dst=some t) (hv:a.tmps[t]?=some (.bool b)):Region.wanted o (yielded ops.toArray a.tmps)=true:=by
 unfold Region.wanted
 rw [hg]
 simp only [Bxb,hO.nth,hj,Option.bind_some,hd,hv,Bvh,beq_self_eq_true]
theorem Cjd (hO:Ayr l ops) (ho:l[i]?=some ⟨d,op,ty,pos,af,none⟩) (hf:fine lp ⟨d,op,ty,pos,af,none⟩=true)
  (h:∀H':Hp,wpS P (execOp a.eval ⟨d,op,ty,pos,af,none⟩) H' (YN P main v H') fun _ _=>False) (hk:Azh P main lp ops.toArray Q S ts p (a.put d v) H):Azh P main lp ops.toArray Q S ts (.free i p) a H:=
 Bqn ((hO.nth i).trans ho) rfl hf h hk
theorem By5 {oj:Oper} (hO:Ayr l ops) (ho:l[i]?=some ⟨d,op,ty,pos,af,some (j,b)⟩) (hf:fine lp ⟨d,op,ty,pos,af,some (j,b)⟩=true) (hj:l[j]?=some oj) (hd:oj.dst=some t) (hv:a.tmps[t]?=some (.bool b))
  (h:∀H':Hp,wpS P (execOp a.eval ⟨d,op,ty,pos,af,some (j,b)⟩) H' (YN P main v H') fun _ _=>False) (hk:Azh P main lp ops.toArray Q S ts p (a.put d v) H):Azh P main lp ops.toArray Q S ts (.free i p) a H:=
 Bqn ((hO.nth i).trans ho) (hO.guard rfl hj hd hv) hf h hk
theorem Ayj {oj:Oper} (hO:Ayr l ops) (ho:l[i]?=some ⟨d,op,ty,pos,af,some (j,b)⟩) (hf:fine lp ⟨d,op,ty,pos,af,some (j,b)⟩=true) (hj:l[j]?=some oj) (hd:oj.dst=some t) (hv:a.tmps[t]?=some (.bool b))
  (hS:S H) (h:∀H':Hp,S H'->wpS P (execOp a.eval ⟨d,op,ty,pos,af,some (j,b)⟩) H' (YN P main v H') fun _ _=>False) (hk:Azh P main lp ops.toArray Q S ts p (a.put d v) H):Azh P main lp ops.toArray Q S ts (.take i p) a H:=
 Axd ((hO.nth i).trans ho) (hO.guard rfl hj hd hv) hf hS h hk
theorem Cje {oj:Oper} (hO:Ayr l ops) (ho:l[i]?=some ⟨d,op,ty,pos,af,some (j,b)⟩) (hf:fine lp ⟨d,op,ty,pos,af,some (j,b)⟩=true) (hj:l[j]?=some oj) (hd:oj.dst=some t) (hv:a.tmps[t]?=some (.bool b))
  (h:opX P main lp ⟨d,op,ty,pos,af,some (j,b)⟩ a H (fun a' H'=>(i∈ts∨(S H->S H'))/\Azh P main lp ops.toArray Q S ts p a' H') Q):Azh P main lp ops.toArray Q S ts (.one i p) a H:=by
 refine Aqw ?_
 rw [Av7]
 simp only [List.getElem?_toArray,hO.nth,ho,hO.guard (o:=⟨d,op,ty,pos,af,some (j,b)⟩) rfl hj hd hv,if_true]
 exact ⟨hf,h⟩
theorem Bjy (hO:Ayr l ops) (ho:l[i]?=some ⟨d,op,ty,pos,af,none⟩) (hf:fine lp ⟨d,op,ty,pos,af,none⟩=true)
  (hS:S H) (h:∀H':Hp,S H'->wpS P (execOp a.eval ⟨d,op,ty,pos,af,none⟩) H' (YN P main v H') fun _ _=>False) (hk:Azh P main lp ops.toArray Q S ts p (a.put d v) H):Azh P main lp ops.toArray Q S ts (.take i p) a H:=
 Axd ((hO.nth i).trans ho) rfl hf hS h hk
theorem Ay9 (hO:Ayr l ops) (ho:l[i]?=some ⟨d,op,ty,pos,af,none⟩) (hf:fine lp ⟨d,op,ty,pos,af,none⟩=true)
  (h:opX P main lp ⟨d,op,ty,pos,af,none⟩ a H (fun a' H'=>(i∈ts∨(S H->S H'))/\Azh P main lp ops.toArray Q S ts p a' H') Q):Azh P main lp ops.toArray Q S ts (.one i p) a H:=by
 refine Aqw ?_
 rw [Av7]
 simp only [List.getElem?_toArray,hO.nth,ho,Region.wanted,if_true]
 exact ⟨hf,h⟩
theorem planZ_two {pq:PV} {d':Option Tmp} {op':Op} {ty':TypeId} {pos':String} {af':Array Edge} (hO:Ayr l ops) (ho:l[i]?=some ⟨d,op,ty,pos,af,none⟩) (hf:fine lp ⟨d,op,ty,pos,af,none⟩=true) (ho':l[j]?=some ⟨d',op',ty',pos',af',none⟩) (hf':fine lp ⟨d',op',ty',pos',af',none⟩=true)
  (h:opX P main lp ⟨d,op,ty,pos,af,none⟩ a H (fun a' H'=>(i∈ts∨(S H->S H'))/\Azh P main lp ops.toArray Q S ts p a' H') Q)
  (h':opX P main lp ⟨d',op',ty',pos',af',none⟩ a H (fun a' H'=>(j∈ts∨(S H->S H'))/\Azh P main lp ops.toArray Q S ts pq a' H') Q):Azh P main lp ops.toArray Q S ts (.two i p j pq) a H:=by
 refine Avb ?_ ?_
 ·rw [Av7]
  simp only [List.getElem?_toArray,hO.nth,ho,Region.wanted,if_true]
  exact ⟨hf,h⟩
 ·rw [Av7]
  simp only [List.getElem?_toArray,hO.nth,ho',Region.wanted,if_true]
  exact ⟨hf',h'⟩
theorem Az6 (h:Q .normal a H):Azh P main lp ops.toArray Q S ts .nil a H:=h
end
end Go.X
end
section
namespace Go.X
open Go
theorem Cvu {P:Program} {H:Hp} {t:TypeId} (h:P.eqGuardType P.depth t=false) (op:BinOp) (x y:Operand) (p q:Array Value) (K:Unit->Hp->Prop) (E:Value->Hp->Prop):wpS P (eqGuard op t x y (.agg p) (.agg q)) H K E=K () H:=by
 unfold eqGuard
 cases op<;>first | rfl | (simp only [Aqa,Ajr,h,Bool.not_false,if_true];first | rfl | (simp [Aqa,Ajr,h,Aqf];done))
theorem Cvr {P:Program} {H:Hp} {ks:TypeId} (h:Key2 P ks .i64 .i64) (a b c d:Int) (K:Value->Hp->Prop) (E:Value->Hp->Prop) :
  wpS P (binOp .eql ks (.agg #[.int .i64 a,.int .i64 b]) (.agg #[.int .i64 c,.int .i64 d])) H K E=K (.bool (a==c&&b==d)) H:=by
 simp only [binOp]
 rw [Aqa,Bvz h]
 rfl
theorem sbin_neq2 {P:Program} {H:Hp} {ks:TypeId} (h:Key2 P ks .i64 .i64) (a b c d:Int) (K:Value->Hp->Prop) (E:Value->Hp->Prop) :
  wpS P (binOp .neq ks (.agg #[.int .i64 a,.int .i64 b]) (.agg #[.int .i64 c,.int .i64 d])) H K E=K (.bool !(a==c&&b==d)) H:=by
 simp only [binOp]
 rw [Aqa,Bvz h]
 rfl
end Go.X
namespace Go.Proofs.YtaehjjbekjglkaaGreatDoor
open Go Go.X Go.Proofs.Tryz
def Aqo:=aN @Cka (aN @Dxx (aN @Dyx (aN @Dyi (aN @Dx4 (aN @Dx5 (aN @Dx6 (aN @Dx1 (aN @Dx7 (aN @Dxy (aN @Dx0 (aN @Dx2 (aN @Dya (aN @Dx8 (aN @Azx (aN @Dxz @Avw)))))))))))))))
theorem Dqw:Key2 Tryz.prog 28 .i64 .i64:=⟨⟨_,_,underlying28,by decide,by decide,rfl,rfl,⟨_,underlying3⟩,⟨_,underlying3⟩⟩,by kernel_rfl⟩
theorem Cjk:Program.eqGuardType Tryz.prog (Program.depth Tryz.prog) 28=false:=by kernel_rfl
theorem Aq2 {H:Hp} (op:BinOp) (x y:Operand) (p q:Array Value) (K:Unit->Hp->Prop) (E:Value->Hp->Prop):wpS Tryz.prog (eqGuard op 28 x y (.agg p) (.agg q)) H K E=K () H:=Cvu Cjk op x y p q K E
theorem Aq1 {H:Hp} (a b c d:Int) (K:Value->Hp->Prop) (E:Value->Hp->Prop) :
 wpS Tryz.prog (binOp .eql 28 (.agg #[.int .i64 a,.int .i64 b]) (.agg #[.int .i64 c,.int .i64 d])) H K E=K (.bool (a==c&&b==d)) H:=Cvr Dqw a b c d K E
theorem Bxr {H:Hp} {b n:Nat} {xs:List Int} {c:Array Value} (h:H b=some (true,.cells c 3 (0,0))) (hc:c=(ints xs).toArray) (hn:n=xs.length:=by rfl):SlI H (.slice (some ⟨b,0,none⟩) n n) xs:=by
 subst hc hn
 refine ⟨_,_,rfl,Nat.le_refl _,fun i x hx=>⟨b,0,true,_,_,rfl,h,?_⟩⟩
 rw [Nat.zero_add,List.getElem?_toArray]
 exact Aj6 hx
theorem smelled_spec (H:Hp):FnX Tryz.prog (.wg Tryz.prog) 10 #[] H fun e H'=>e=.returned (.bool true)/\H.le H':=by
 refine Aqn (args:=[]) func10 rfl ntmps10 (by simp) ?_
 (refine @unH _ (zA Aqo ?_);(try clear hK K);intro K hK hc)
 refine (Ajv _ H).runs.mono ?_
 rintro _ A1 ⟨dv1,hv1,nv1,rfl,hs1,lA1⟩
 have tA1:=lA1
 clear lA1
 (refine @unH _ (zU Aqo ?_);intro _ _ hc)
 refine (Cqd A1 Ajl _ _ _ hs1 Avk 2 3 _).runs.mono ?_
 rintro _ C1 ⟨rfl,lC1⟩
 rw [Cyi]
 clear hs1
 have tC1:=Hp.le_trans tA1 lC1
 clear lC1 tA1
 (refine @unH _ (zU Aqo ?_);intro _ _ hc)
 (intro ba hba;generalize hG:Hp.set _ ba _=D1;have lD1:=Aqc hG hba;have vba:=Aqb hG;clear hG)
 have vba_D1:=vba
 clear vba hba
 have tD1:=Hp.le_trans tC1 lD1
 clear lD1 tC1
 (refine @unH _ (zU Aqo ?_);(try clear hK K);intro K hK hc)
 refine (Ajv _ D1).runs.mono ?_
 rintro _ A2 ⟨dv2,hv2,nv2,rfl,hs2,lA2⟩
 have vba_A2:=lA2 _ _ vba_D1
 clear vba_D1
 have tA2:=Hp.le_trans tD1 lA2
 clear lA2 tD1
 (refine @unH _ (zU Aqo ?_);intro _ _ hc)
 refine (Cqa A2 Ajl _ _ _ hs2 Avk).runs.mono ?_
 rintro _ C2 ⟨rfl,lC2⟩
 have vba_C2:=lC2 _ _ vba_A2
 clear vba_A2
 rw [Cyg]
 clear hs2
 have tC2:=Hp.le_trans tA2 lC2
 clear lC2 tA2
 (refine @unH _ (zU Aqo ?_);(try clear hK K);intro K hK hc)
 refine (Ajv _ C2).runs.mono ?_
 rintro _ A3 ⟨dv3,hv3,nv3,rfl,hs3,lA3⟩
 have vba_A3:=lA3 _ _ vba_C2
 clear vba_C2
 have tA3:=Hp.le_trans tC2 lA3
 clear lA3 tC2
 (refine @unH _ (zU Aqo ?_);intro _ _ hc)
 refine (Cqe A3 Ajl _ _ _ hs3 Avk 1).runs.mono ?_
 rintro _ C3 ⟨rfl,lC3⟩
 have vba_C3:=lC3 _ _ vba_A3
 clear vba_A3
 rw [Cyj]
 clear hs3
 have tC3:=Hp.le_trans tA3 lC3
 clear lC3 tA3
 (refine @unH _ (zU Aqo ?_);intro _ _ hc)
 (intro bb hbb;generalize hG:Hp.set _ bb _=D3;have lD3:=Aqc hG hbb;have vbb:=Aqb hG;clear hG)
 have vba_D3:=lD3 _ _ vba_C3
 clear vba_C3
 have vbb_D3:=vbb
 clear vbb hbb
 have tD3:=Hp.le_trans tC3 lD3
 clear lD3 tC3
 (refine @unH _ (zU Aqo ?_);(try clear hK K);intro K hK hc)
 refine (Ajv _ D3).runs.mono ?_
 rintro _ A4 ⟨dv4,hv4,nv4,rfl,hs4,lA4⟩
 have vba_A4:=lA4 _ _ vba_D3
 have vbb_A4:=lA4 _ _ vbb_D3
 clear vba_D3 vbb_D3
 have tA4:=Hp.le_trans tD3 lA4
 clear lA4 tD3
 (refine @unH _ (zU Aqo ?_);intro _ _ hc)
 refine (Bk5 A4 Ajl _ _ _ hs4 Avk 0 3).runs.mono ?_
 rintro _ C4 ⟨rfl,lC4⟩
 have vba_C4:=lC4 _ _ vba_A4
 have vbb_C4:=lC4 _ _ vbb_A4
 clear vba_A4 vbb_A4
 rw [Dzz,Dj4]
 clear hs4
 have tC4:=Hp.le_trans tA4 lC4
 clear lC4 tA4
 (refine @unH _ (zU Aqo ?_);(try clear hK K);intro K hK hc)
 refine (Ajv _ C4).runs.mono ?_
 rintro _ A5 ⟨dv5,hv5,nv5,rfl,hs5,lA5⟩
 have vba_A5:=lA5 _ _ vba_C4
 have vbb_A5:=lA5 _ _ vbb_C4
 clear vba_C4 vbb_C4
 have tA5:=Hp.le_trans tC4 lA5
 clear lA5 tC4
 (refine @unH _ (zU Aqo ?_);intro _ _ hc)
 refine (By9 A5 Ajl _ _ _ hs5 Avk 3).runs.mono ?_
 rintro _ C5 ⟨rfl,lC5⟩
 have vba_C5:=lC5 _ _ vba_A5
 have vbb_C5:=lC5 _ _ vbb_A5
 clear vba_A5 vbb_A5
 rw [Cyf]
 clear hs5
 have tC5:=Hp.le_trans tA5 lC5
 clear lC5 tA5
 (refine @unH _ (zU Aqo ?_);intro _ _ hc)
 (intro bc hbc;generalize hG:Hp.set _ bc _=D5;have lD5:=Aqc hG hbc;have vbc:=Aqb hG;clear hG)
 have vba_D5:=lD5 _ _ vba_C5
 have vbb_D5:=lD5 _ _ vbb_C5
 clear vba_C5 vbb_C5
 have vbc_D5:=vbc
 clear vbc hbc
 have tD5:=Hp.le_trans tC5 lD5
 clear lD5 tC5
 (refine @unH _ (zU Aqo ?_);(try clear hK K);intro K hK hc)
 refine (Dqk _ D5).runs.mono ?_
 rintro _ A6 ⟨dv6,hv6,nv6,rfl,hs6,lA6⟩
 have vba_A6:=lA6 _ _ vba_D5
 have vbb_A6:=lA6 _ _ vbb_D5
 have vbc_A6:=lA6 _ _ vbc_D5
 clear vba_D5 vbb_D5 vbc_D5
 have tA6:=Hp.le_trans tD5 lA6
 clear lA6 tD5
 (refine @unH _ (zU Aqo ?_);intro _ _ hc)
 refine (Cqg A6 oddS _ _ _ hs6 Djc).runs.mono ?_
 rintro _ C6 ⟨wv,rfl,hw,lC6⟩
 have vba_C6:=lC6 _ _ vba_A6
 have vbb_C6:=lC6 _ _ vbb_A6
 have vbc_C6:=lC6 _ _ vbc_A6
 clear vba_A6 vbb_A6 vbc_A6
 rw [Cyl] at hw
 have hw_C6:=hw
 clear hw
 clear hs6
 have tC6:=Hp.le_trans tA6 lC6
 clear lC6 tA6
 (refine @unH _ (zU Aqo ?_);(try clear hK K);intro K hK hc)
 refine (Ajv _ C6).runs.mono ?_
 rintro _ A7 ⟨dv7,hv7,nv7,rfl,hs7,lA7⟩
 have vba_A7:=lA7 _ _ vba_C6
 have vbb_A7:=lA7 _ _ vbb_C6
 have vbc_A7:=lA7 _ _ vbc_C6
 have hw_A7:=hw_C6.le lA7
 clear vba_C6 vbb_C6 vbc_C6 hw_C6
 have tA7:=Hp.le_trans tC6 lA7
 clear lA7 tC6
 (refine @unH _ (zU Aqo ?_);intro _ _ hc)
 refine (Cqf A7 Ajl _ _ _ hs7 Avk 2).runs.mono ?_
 rintro _ C7 ⟨rfl,lC7⟩
 have vba_C7:=lC7 _ _ vba_A7
 have vbb_C7:=lC7 _ _ vbb_A7
 have vbc_C7:=lC7 _ _ vbc_A7
 have hw_C7:=hw_A7.le lC7
 clear vba_A7 vbb_A7 vbc_A7 hw_A7
 rw [Cyk]
 clear hs7
 have tC7:=Hp.le_trans tA7 lC7
 clear lC7 tA7
 (refine @unH _ (zU Aqo ?_);(try clear hK K);intro K hK hc)
 refine (Ajv _ C7).runs.mono ?_
 rintro _ A8 ⟨dv8,hv8,nv8,rfl,hs8,lA8⟩
 have vba_A8:=lA8 _ _ vba_C7
 have vbb_A8:=lA8 _ _ vbb_C7
 have vbc_A8:=lA8 _ _ vbc_C7
 have hw_A8:=hw_C7.le lA8
 clear vba_C7 vbb_C7 vbc_C7 hw_C7
 have tA8:=Hp.le_trans tC7 lA8
 clear lA8 tC7
 (refine @unH _ (zU Aqo ?_);intro _ _ hc)
 refine (Cqb A8 Ajl _ _ _ hs8 Avk).runs.mono ?_
 rintro _ C8 ⟨fv,rfl,hf,lC8⟩
 have vba_C8:=lC8 _ _ vba_A8
 have vbb_C8:=lC8 _ _ vbb_A8
 have vbc_C8:=lC8 _ _ vbc_A8
 have hw_C8:=hw_A8.le lC8
 clear vba_A8 vbb_A8 vbc_A8 hw_A8
 rw [Cyh] at hf ⊢
 have hf_C8:=hf
 clear hf
 clear hs8
 have tC8:=Hp.le_trans tA8 lC8
 clear lC8 tA8
 (refine @unH _ (zU Aqo ?_);(try clear hK K);intro K hK hc)
 replace hf_C8:SlI C8 fv [2,1,2]:=hf_C8
 refine Bj6 (fun e=>e 1=.pointer (some ⟨ba,0,none⟩)/\e 2=.int .i64 0/\e 3=.int .i64 5/\e 4=.int .i64 0/\e 5=.pointer (some ⟨bb,0,none⟩)/\e 6=.int .i64 0/\e 7=.int .i64 3/\e 8=.int .i64 0/\e 9=.pointer (some ⟨bc,0,none⟩)/\e 10=.int .i64 0/\e 11=wv/\e 12=.int .i64 0/\e 13=.int .i64 1/\e 14=.int .i64 3/\e 15=.int .i64 0/\e 16=.int .i64 0/\e 17=.int .i64 2/\e 18=fv/\e 19=.int .i64 0) ⟨rfl,rfl,rfl,rfl,rfl,rfl,rfl,rfl,rfl,rfl,rfl,rfl,rfl,rfl,rfl,rfl,rfl,rfl,rfl⟩ ?_
 rintro e ⟨e1,e2,e3,e4,e5,e6,e7,e8,e9,e10,e11,e12,e13,e14,e15,e16,e17,e18,e19⟩
 simp only [List.append]
 refine Axm (fun HX=>C8.le HX) [] (.free 0 (.free 1 (.free 2 (.free 3 (.free 4 (.free 5 (.free 6 (.free 7 (.free 8 (.free 9 (.free 10 (.free 11 (.free 12 (.free 13 (.free 14 (.free 15 (.free 16 (.free 17 (.free 18 (.free 19 (.free 20 (.free 21 (.free 22 (.free 23 (.free 24 (.free 25 (.free 26 (.free 27 (.free 28 (.free 29 (.free 30 (.take 31 (.one 32 (.free 33 (.free 34 (.free 35 (.free 36 (.free 37 (.free 38 (.free 39 (.take 40 (.one 41 (.free 42 (.free 43 (.free 44 (.free 45 (.free 46 (.free 47 (.free 48 (.take 49 (.one 50 (.free 51 (.free 52 (.free 53 (.free 54 (.free 55 (.free 56 (.free 57 (.free 58 (.free 59 (.free 60 (.free 61 (.free 62 (.free 63 (.free 64 (.free 65 (.free 66 (.free 67 (.free 68 (.free 69 (.free 70 (.one 71 (.one 72 (.free 73 (.free 74 (.free 75 (.one 76 (.one 77 (.free 78 (.free 79 .nil)))))))))))))))))))))))))))))))))))))))))))))))))))))))))))))))))))))))))))))))) (by kernel_rfl) (by kernel_rfl) (by decide) (by kernel_rfl) ?_;intro K hK
 have hS0:C8.le C8:=Hp.le_refl _
 refine Ax6 fun ops hOz=>?_
 (refine @unH _ ?_;refine zF (aN Aqo (aN @Aq2 @Aq1)) ?_)
 (refine @unH _ ?_;refine zF (aN Aqo (aN @Aq2 @Aq1)) ?_)
 (refine @unH _ ?_;refine zF (aN Aqo (aN @Aq2 @Aq1)) ?_)
 (refine @unH _ ?_;refine zG (aN Aqo (aN @Aq2 @Aq1)) ?_)
 (refine @unH _ ?_;refine zG (aN Aqo (aN @Aq2 @Aq1)) ?_)
 (refine @unH _ ?_;refine zF (aN Aqo (aN @Aq2 @Aq1)) ?_)
 (refine @unH _ ?_;refine zF (aN Aqo (aN @Aq2 @Aq1)) ?_)
 (refine @unH _ ?_;refine zG (aN Aqo (aN @Aq2 @Aq1)) ?_)
 (refine @unH _ ?_;refine zG (aN Aqo (aN @Aq2 @Aq1)) ?_)
 (refine @unH _ ?_;refine zF (aN Aqo (aN @Aq2 @Aq1)) ?_)
 (refine @unH _ ?_;refine zF (aN Aqo (aN @Aq2 @Aq1)) ?_)
 (refine @unH _ ?_;refine zG (aN Aqo (aN @Aq2 @Aq1)) ?_)
 (refine @unH _ ?_;refine zG (aN Aqo (aN @Aq2 @Aq1)) ?_)
 (refine @unH _ ?_;refine zF (aN Aqo (aN @Aq2 @Aq1)) ?_)
 (refine @unH _ ?_;refine zF (aN Aqo (aN @Aq2 @Aq1)) ?_)
 (refine @unH _ ?_;refine zG (aN Aqo (aN @Aq2 @Aq1)) ?_)
 (refine @unH _ ?_;refine zG (aN Aqo (aN @Aq2 @Aq1)) ?_)
 (refine @unH _ ?_;refine zF (aN Aqo (aN @Aq2 @Aq1)) ?_)
 (refine @unH _ ?_;refine zF (aN Aqo (aN @Aq2 @Aq1)) ?_)
 (refine @unH _ ?_;refine zG (aN Aqo (aN @Aq2 @Aq1)) ?_)
 (refine @unH _ ?_;refine zG (aN Aqo (aN @Aq2 @Aq1)) ?_)
 (refine @unH _ ?_;refine zF (aN Aqo (aN @Aq2 @Aq1)) ?_)
 (refine @unH _ ?_;refine zF (aN Aqo (aN @Aq2 @Aq1)) ?_)
 (refine @unH _ ?_;refine zG (aN Aqo (aN @Aq2 @Aq1)) ?_)
 (refine @unH _ ?_;refine zG (aN Aqo (aN @Aq2 @Aq1)) ?_)
 (refine @unH _ ?_;refine zF (aN Aqo (aN @Aq2 @Aq1)) ?_)
 (refine @unH _ ?_;refine zF (aN Aqo (aN @Aq2 @Aq1)) ?_)
 (refine @unH _ ?_;refine zG (aN Aqo (aN @Aq2 @Aq1)) ?_)
 (refine @unH _ ?_;refine zG (aN Aqo (aN @Aq2 @Aq1)) ?_)
 (refine @unH _ ?_;refine zF (aN Aqo (aN @Aq2 @Aq1)) ?_)
 (refine @unH _ ?_;refine zF (aN Aqo (aN @Aq2 @Aq1)) ?_)
 (apply Ayj hOz rfl rfl rfl rfl (by simp -implicitDefEqProofs (disch:=omega) only [act_get?,Axf,Nat.reduceEqDiff,↓reduceIte,beq_self_eq_true,Bool.and_self, *]) ‹_›;(focus (intro HX hHX;simp -implicitDefEqProofs (disch:=first | omega | (simp only [qd]<;>omega)) only [xq,↓xp,qc,Nat.reduceAdd,List.range,List.range.loop,fine,Nat.reduceEqDiff,↓reduceIte,yielded,reduceCtorEq,Nat.reduceLT,Nat.reduceMul,Nat.reduceSub,one,Nat.reduceLeDiff,Aqg,Aqo,aq,↓ap,qe0,qe1,qe2, *,-hK,Axa,hHX _ _ vba_C8,Awp]<;>(first | exact rfl | exact ⟨rfl,rfl⟩ | exact ⟨rfl,trivial⟩)));simp -implicitDefEqProofs (disch:=first | omega | (simp only [qd]<;>omega)) only [Aq3,Aql])
 (refine @unH _ ?_;refine zN (aN Aqo (aN @Aq2 @Aq1)) ?_)
 refine (Bqo _ C8 4 6).runs.mono ?_
 rintro _ E32 ⟨rfl,lE32⟩
 have mE32:C8.le E32:=lE32
 simp -implicitDefEqProofs (disch:=omega) only [Azn,Aq3,Aql]
 refine ⟨.inr fun _=>(by first | trivial | exact mE32 | exact lE32),?_⟩
 (refine @unH _ ?_;refine zG (aN Aqo (aN @Aq2 @Aq1)) ?_)
 (refine @unH _ ?_;refine zF (aN Aqo (aN @Aq2 @Aq1)) ?_)
 (refine @unH _ ?_;refine zF (aN Aqo (aN @Aq2 @Aq1)) ?_)
 (refine @unH _ ?_;refine zG (aN Aqo (aN @Aq2 @Aq1)) ?_)
 (refine @unH _ ?_;refine zG (aN Aqo (aN @Aq2 @Aq1)) ?_)
 (refine @unH _ ?_;refine zF (aN Aqo (aN @Aq2 @Aq1)) ?_)
 (refine @unH _ ?_;refine zF (aN Aqo (aN @Aq2 @Aq1)) ?_)
 (apply Ayj hOz rfl rfl rfl rfl (by simp -implicitDefEqProofs (disch:=omega) only [act_get?,Axf,Nat.reduceEqDiff,↓reduceIte,beq_self_eq_true,Bool.and_self, *]) ‹_›;(focus (intro HX hHX;simp -implicitDefEqProofs (disch:=first | omega | (simp only [qd]<;>omega)) only [xq,↓xp,qc,Nat.reduceAdd,List.range,List.range.loop,fine,Nat.reduceEqDiff,↓reduceIte,yielded,reduceCtorEq,Nat.reduceLT,Nat.reduceMul,Nat.reduceSub,one,Nat.reduceLeDiff,Aqg,Aqo,aq,↓ap,qe0,qe1,qe2, *,-hK,Axa,hHX _ _ vbb_C8,Awp]<;>(first | exact rfl | exact ⟨rfl,rfl⟩ | exact ⟨rfl,trivial⟩)));simp -implicitDefEqProofs (disch:=first | omega | (simp only [qd]<;>omega)) only [Aq3,Aql])
 (refine @unH _ ?_;refine zN (aN Aqo (aN @Aq2 @Aq1)) ?_)
 refine (Bqo _ E32 0 3).runs.mono ?_
 rintro _ E41 ⟨rfl,lE41⟩
 have mE41:C8.le E41:=Hp.le_trans mE32 lE41
 simp -implicitDefEqProofs (disch:=omega) only [Azn,Aq3,Aql]
 refine ⟨.inr fun _=>(by first | trivial | exact mE41 | exact lE41),?_⟩
 (refine @unH _ ?_;refine zG (aN Aqo (aN @Aq2 @Aq1)) ?_)
 (refine @unH _ ?_;refine zF (aN Aqo (aN @Aq2 @Aq1)) ?_)
 (refine @unH _ ?_;refine zF (aN Aqo (aN @Aq2 @Aq1)) ?_)
 (refine @unH _ ?_;refine zG (aN Aqo (aN @Aq2 @Aq1)) ?_)
 (refine @unH _ ?_;refine zG (aN Aqo (aN @Aq2 @Aq1)) ?_)
 (refine @unH _ ?_;refine zF (aN Aqo (aN @Aq2 @Aq1)) ?_)
 (refine @unH _ ?_;refine zF (aN Aqo (aN @Aq2 @Aq1)) ?_)
 (apply Ayj hOz rfl rfl rfl rfl (by simp -implicitDefEqProofs (disch:=omega) only [act_get?,Axf,Nat.reduceEqDiff,↓reduceIte,beq_self_eq_true,Bool.and_self, *]) ‹_›;(focus (intro HX hHX;simp -implicitDefEqProofs (disch:=first | omega | (simp only [qd]<;>omega)) only [xq,↓xp,qc,Nat.reduceAdd,List.range,List.range.loop,fine,Nat.reduceEqDiff,↓reduceIte,yielded,reduceCtorEq,Nat.reduceLT,Nat.reduceMul,Nat.reduceSub,one,Nat.reduceLeDiff,Aqg,Aqo,aq,↓ap,qe0,qe1,qe2, *,-hK,Axa,hHX _ _ vbc_C8,Awp]<;>(first | exact rfl | exact ⟨rfl,rfl⟩ | exact ⟨rfl,trivial⟩)));simp -implicitDefEqProofs (disch:=first | omega | (simp only [qd]<;>omega)) only [Aq3,Aql])
 (refine @unH _ ?_;refine zN (aN Aqo (aN @Aq2 @Aq1)) ?_)
 refine (Bqo _ E41 4 9).runs.mono ?_
 rintro _ E50 ⟨rfl,lE50⟩
 have mE50:C8.le E50:=Hp.le_trans mE41 lE50
 simp -implicitDefEqProofs (disch:=omega) only [Azn,Aq3,Aql]
 refine ⟨.inr fun _=>(by first | trivial | exact mE50 | exact lE50),?_⟩
 (refine @unH _ ?_;refine zG (aN Aqo (aN @Aq2 @Aq1)) ?_)
 (refine @unH _ ?_;refine zF (aN Aqo (aN @Aq2 @Aq1)) ?_)
 (refine @unH _ ?_;refine zF (aN Aqo (aN @Aq2 @Aq1)) ?_)
 (refine @unH _ ?_;refine zG (aN Aqo (aN @Aq2 @Aq1)) ?_)
 (refine @unH _ ?_;refine zG (aN Aqo (aN @Aq2 @Aq1)) ?_)
 (refine @unH _ ?_;refine zF (aN Aqo (aN @Aq2 @Aq1)) ?_)
 (refine @unH _ ?_;refine zF (aN Aqo (aN @Aq2 @Aq1)) ?_)
 (refine @unH _ ?_;refine zG (aN Aqo (aN @Aq2 @Aq1)) ?_)
 (refine @unH _ ?_;refine zG (aN Aqo (aN @Aq2 @Aq1)) ?_)
 (refine @unH _ ?_;refine zF (aN Aqo (aN @Aq2 @Aq1)) ?_)
 (refine @unH _ ?_;refine zF (aN Aqo (aN @Aq2 @Aq1)) ?_)
 (refine @unH _ ?_;refine zG (aN Aqo (aN @Aq2 @Aq1)) ?_)
 (refine @unH _ ?_;refine zG (aN Aqo (aN @Aq2 @Aq1)) ?_)
 (refine @unH _ ?_;refine zF (aN Aqo (aN @Aq2 @Aq1)) ?_)
 (refine @unH _ ?_;refine zF (aN Aqo (aN @Aq2 @Aq1)) ?_)
 (refine @unH _ ?_;refine zG (aN Aqo (aN @Aq2 @Aq1)) ?_)
 (refine @unH _ ?_;refine zG (aN Aqo (aN @Aq2 @Aq1)) ?_)
 (refine @unH _ ?_;refine zF (aN Aqo (aN @Aq2 @Aq1)) ?_)
 (refine @unH _ ?_;refine zF (aN Aqo (aN @Aq2 @Aq1)) ?_)
 (refine @unH _ ?_;refine zG (aN Aqo (aN @Aq2 @Aq1)) ?_)
 (refine @unH _ ?_;refine zN (aN Aqo (aN @Aq2 @Aq1)) ?_)
 intro g71 hg71
 generalize hG:Hp.set E50 g71 _=E71
 have lE71:=Aqc hG hg71
 have vg71:=Aqb hG
 clear hG
 have mE71:C8.le E71:=Hp.le_trans mE50 lE71
 refine ⟨.inr fun _=>mE71,?_⟩
 have sl71:SlI E71 (.slice (some ⟨g71,0,none⟩) 1 1) [0]:=Bxr (xs:=[0]) vg71 rfl
 have sw71:SlI E71 wv [0]:=SlI.le hw_C8 mE71
 clear hg71 vg71
 (refine @unH _ ?_;refine zN (aN Aqo (aN @Aq2 @Aq1)) ?_)
 refine (Ay2 _ E71 wv _ [0] [0] sw71 sl71 (by decide) (by decide)).runs.mono ?_
 rintro _ HQ ⟨rfl,hHQ⟩
 rw [hHQ]
 clear hHQ HQ
 rw [decide_eq_true rfl]
 clear sl71 sw71
 simp -implicitDefEqProofs (disch:=omega) only [Azn,Aq3,Aql]
 refine ⟨.inr fun _=>mE71,?_⟩
 (refine @unH _ ?_;refine zF (aN Aqo (aN @Aq2 @Aq1)) ?_)
 (refine @unH _ ?_;refine zF (aN Aqo (aN @Aq2 @Aq1)) ?_)
 (refine @unH _ ?_;refine zG (aN Aqo (aN @Aq2 @Aq1)) ?_)
 (refine @unH _ ?_;refine zN (aN Aqo (aN @Aq2 @Aq1)) ?_)
 intro g76 hg76
 generalize hG:Hp.set E71 g76 _=E76
 have lE76:=Aqc hG hg76
 have vg76:=Aqb hG
 clear hG
 have mE76:C8.le E76:=Hp.le_trans mE71 lE76
 refine ⟨.inr fun _=>mE76,?_⟩
 have sl76:SlI E76 (.slice (some ⟨g76,0,none⟩) 3 3) [2,1,2]:=Bxr (xs:=[2,1,2]) vg76 rfl
 have sw76:SlI E76 fv [2,1,2]:=SlI.le hf_C8 mE76
 clear hg76 vg76
 (refine @unH _ ?_;refine zN (aN Aqo (aN @Aq2 @Aq1)) ?_)
 refine (Ay2 _ E76 fv _ [2,1,2] [2,1,2] sw76 sl76 (by decide) (by decide)).runs.mono ?_
 rintro _ HQ ⟨rfl,hHQ⟩
 rw [hHQ]
 clear hHQ HQ
 rw [decide_eq_true rfl]
 clear sl76 sw76
 simp -implicitDefEqProofs (disch:=omega) only [Azn,Aq3,Aql]
 refine ⟨.inr fun _=>mE76,?_⟩
 (refine @unH _ ?_;refine zF (aN Aqo (aN @Aq2 @Aq1)) ?_)
 (refine @unH _ ?_;refine zF (aN Aqo (aN @Aq2 @Aq1)) ?_)
 refine Axq (hK _ _ ?_)
 clear hK K
 (try refine @unH _ (zQ ?_))
 (refine @unH _ ?_;refine z9 results10 ?_)
 exact ⟨by trivial,Hp.le_trans tC8 mE76⟩
end Go.Proofs.YtaehjjbekjglkaaGreatDoor
end
section
namespace Go.Proofs.YtaehjjbekjglkaaGreatDoor
open Go Go.X
def Cyd (d hr:Int):Int:=if d=99 then 1000 else hr+d
def Aw0 (s:Sm) (p hr:Int) (ts:List Int):List Int:=(List.range s.places.toNat).map fun (q:Nat)=>Cyd (gI (Axk s.doors p (pad6 ts)) q) hr
theorem Bx3 (s:Sm) (p hr:Int) (ts:List Int):(Aw0 s p hr ts).length=s.places.toNat:=by simp [Aw0]
theorem Cxf {s:Sm} {p hr:Int} {ts:List Int} {q:Int} (h0:0<=q) (h1:q<s.places):gI (Aw0 s p hr ts) q=Cyd (gI (Axk s.doors p (pad6 ts)) q) hr:=by
 unfold gI Aw0
 rw [List.getD,List.getElem?_map,List.getElem?_range (by omega)]
 simp only [Option.map_some,Option.getD_some]
 rw [show ((q.toNat:Nat):Int)=q by omega]
 rfl
structure Av0 (E:Int->Int->Int->Prop) (pl p hr:Int) (c:List Int):Prop where
 len:c.length=pl.toNat
 at0:gI c p=hr
 att:∀q,0<=q->q<pl->gI c q=1000∨(gI c q<1000/\Walk E p q (gI c q-hr))
 pos:∀q,0<=q->q<pl->hr<=gI c q
theorem Av0.start (E:Int->Int->Int->Prop) {pl p hr:Int} (h0:0<=p) (h1:p<pl) (hh:hr<=12):Av0 E pl p hr ((List.replicate pl.toNat (1000:Int)).set p.toNat hr):=by
 have hl:∀q,0<=q->q<pl->gI (List.replicate pl.toNat (1000:Int)) q=1000:=fun q h0 h1=>by
  unfold gI
  rw [List.getD,List.getElem?_replicate,if_pos (by omega)]
  rfl
 have hg:∀q,0<=q->q<pl->gI ((List.replicate pl.toNat (1000:Int)).set p.toNat hr) q=if p=q then hr else 1000:=fun q hq0 hq1=>by
  rw [Av5 h0 (by simp;omega) hq0,hl q hq0 hq1]
 refine ⟨by simp,by rw [hg p h0 h1,if_pos rfl],fun q hq0 hq1=>?_,fun q hq0 hq1=>?_⟩
 ·rw [hg q hq0 hq1]
  split
  ·rename_i h;subst h;refine .inr ⟨by omega,?_⟩;rw [Int.sub_self];exact .here
  ·exact .inl rfl
 ·rw [hg q hq0 hq1];split<;>omega
theorem Av0.le {E:Int->Int->Int->Prop} {pl p hr:Int} {c:List Int} (h:Av0 E pl p hr c) {q:Int} (h0:0<=q) (h1:q<pl):gI c q<=1000:=by
 rcases h.att q h0 h1 with h | h<;>omega
theorem Av0.one {E:Int->Int->Int->Prop} {pl p hr:Int} {c:List Int} (h:Av0 E pl p hr c) {a b t:Int} (hE:E a b t) (ht:1<=t) (ha0:0<=a) (ha1:a<pl) (hb0:0<=b) (hb1:b<pl) (h0:0<=p) (h1:p<pl) (hlt:gI c a+t<gI c b):Av0 E pl p hr (c.set b.toNat (gI c a+t)):=by
 have hl:=h.len
 have hg:∀q,0<=q->gI (c.set b.toNat (gI c a+t)) q=if b=q then gI c a+t else gI c q:=fun q hq=>Av5 hb0 (by omega) hq
 have pa:=h.pos a ha0 ha1
 have lb:=h.le hb0 hb1
 refine ⟨by rw [Cvv,hl],?_,fun q hq0 hq1=>?_,fun q hq0 hq1=>?_⟩
 ·rw [hg p h0]
  split
  ·rename_i e;subst e;have:=h.at0;omega
  ·exact h.at0
 ·rw [hg q hq0]
  split
  ·rename_i e;subst e
   rcases h.att a ha0 ha1 with h2 | ⟨h2,hw⟩
   ·omega
   ·refine .inr ⟨by omega,?_⟩
    rw [show gI c a+t-hr=gI c a-hr+t by omega]
    exact hw.step hE
  ·exact h.att q hq0 hq1
 ·rw [hg q hq0]
  split
  ·omega
  ·exact h.pos q hq0 hq1
def sumI (c:List Int):Int:=c.foldr (· + ·) 0
theorem Cxy:∀(c:List Int) (i:Nat) (v x:Int),c[i]?=some x->sumI (c.set i v)=sumI c-x+v
 | [],i,v,x,h=>by simp at h
 | y::c,0,v,x,h=>by
  simp at h
  subst h
  simp only [List.set_cons_zero,sumI,List.foldr_cons]
  omega
 | y::c,i+1,v,x,h=>by
  have:=Cxy c i v x (by simpa using h)
  simp only [List.set_cons_succ,sumI,List.foldr_cons] at this ⊢
  omega
theorem Cv6:∀ {c:List Int},(∀x∈c,0<=x)->0<=sumI c
 | [],_=>Int.le_refl _
 | x::c,h=>by
  have h1:=h x List.mem_cons_self
  have:=Cv6 (c:=c) fun y hy=>h y (List.mem_cons_of_mem _ hy)
  simp only [sumI,List.foldr_cons] at this ⊢
  omega
theorem Dkd {c:List Int} {x:Int} (h:x∈c):∃q:Int,0<=q/\q<c.length/\gI c q=x:=by
 obtain ⟨i,hi,rfl⟩:=List.mem_iff_getElem.1 h
 refine ⟨i,by omega,by omega,?_⟩
 unfold gI
 simp [List.getD,List.getElem?_eq_getElem hi]
theorem Av0.sum {E:Int->Int->Int->Prop} {pl p hr:Int} {c:List Int} (h:Av0 E pl p hr c) (hh:0<=hr):0<=sumI c:=Cv6 fun x hx=>by
 obtain ⟨q,h0,h1,rfl⟩:=Dkd hx
 have:=h.pos q h0 (by have:=h.len;omega)
 omega
theorem Av0.is {s:Sm} (ok:SmOk s) {p hr:Int} {ts c:List Int} (hc:Av0 (Edg s.doors ts) s.places p hr c) (ht:ts∈Ax1 s.doors) (hr0:0<=hr) (hr1:hr<=12) (h0:0<=p) (h1:p<s.places) (rel:∀a b n,Edg s.doors ts a b n->gI c b<=gI c a+n):c=Aw0 s p hr ts:=by
 have hE:∀a b n,Edg s.doors (pad6 ts) a b n↔Edg s.doors ts a b n:=fun a b n=>by unfold pad6;exact Cjy (Ake ht) _
 have hd:=Bko ok h0 h1 ht
 have hto:=Akn (pl:=s.places) ok.dk ht
 have h6:=ok.p1
 apply List.ext_getElem?
 intro i
 by_cases hi:i<s.places.toNat
 ·have g1:=Av4 (c:=c) (p:=(i:Int)) (by omega) (by rw [hc.len];omega)
  have g2:=Av4 (c:=Aw0 s p hr ts) (p:=(i:Int)) (by omega) (by rw [Bx3];omega)
  simp only [Int.toNat_natCast] at g1 g2
  rw [g1,g2,Cxf (by omega) (by omega)]
  congr 1
  unfold Cyd
  rcases hc.att i (by omega) (by omega) with ha | ⟨ha,hw⟩
  ·rcases hd.att i (by omega) (by omega) with hb | ⟨hb,hv⟩
   ·rw [if_pos hb,ha]
   ·have:=Walk.ge hv (c:=gI c) fun a b t he=>rel a b t ((hE a b t).1 he)
    rw [hc.at0] at this
    omega
  ·have hw':Walk (Edg s.doors (pad6 ts)) p i (gI c i-hr):=Walk.map (fun x=>x) (fun a b t he=>(hE a b t).2 he) hw
   obtain ⟨_,_,g3,g4⟩:=hd.walk h6 ok.dk hto h0 (by omega) hw'
   rcases hd.att i (by omega) (by omega) with hb | ⟨hb,hv⟩
   ·omega
   ·have:=Walk.ge hv (c:=gI c) fun a b t he=>rel a b t ((hE a b t).1 he)
    rw [hc.at0] at this
    rw [if_neg (by omega)]
    omega
 ·rw [List.getElem?_eq_none (by rw [hc.len];omega),List.getElem?_eq_none (by rw [Bx3];omega)]
def Dvc (s:Sm) (i b:Nat) (ts:List Int) (p:Int):Int:=gI (Aw0 s (s.hampers.getD i 0) b ts) p
structure Tr (s:Sm) (i₀ b₀:Nat) (ts:List Int):Prop where
 i:i₀<s.hampers.length
 b:b₀<13
 t:ts∈Ax1 s.doors
 n:∀m∈s.noses,m.sm=decide (Dvc s i₀ b₀ ts m.pl<=m.hr)
theorem walk_other {E E':Int->Int->Int->Prop} (hE:∀a b t,E a b t->∃t',E' a b t') {p q n:Int} (h:Walk E p q n):∃m,Walk E' p q m:=by
 induction h with
 | here=>exact ⟨0,.here⟩
 | step _ he ih=>
  obtain ⟨m,hm⟩:=ih
  obtain ⟨t',ht⟩:=hE _ _ _ he
  exact ⟨_,hm.step ht⟩
theorem reach_same {s:Sm} (ok:SmOk s) {h:Int} (h0:0<=h) (h1:h<s.places) {t t':List Int} (ht:t∈Ax1 s.doors) (ht':t'∈Ax1 s.doors) {p:Int} (hp0:0<=p) (hp1:p<s.places) (hc:gI (Axk s.doors h (pad6 t')) p=99):gI (Axk s.doors h (pad6 t)) p=99:=by
 have h6:=ok.p1
 have hd:=Bko ok h0 h1 ht
 have hd':=Bko ok h0 h1 ht'
 rcases hd.att p hp0 (by omega) with h2 | ⟨_,hw⟩
 ·exact h2
 ·exfalso
  obtain ⟨m,hm⟩:=walk_other (E':=Edg s.doors (pad6 t')) (fun a b n he=>by
   obtain ⟨i,d,g1,g2,g3⟩:=he.ix
   have hl:=Ake ht'
   have hil:=(List.getElem?_eq_some_iff.1 g1).1
   have g4:(pad6 t')[i]?=some (t'[i]'(by omega)):=by
    unfold pad6
    rw [List.getElem?_append_left (by omega),List.getElem?_eq_getElem]
   refine ⟨t'[i]'(by omega),?_⟩
   rcases g3 with ⟨rfl,rfl⟩ | ⟨rfl,rfl⟩
   ·exact Edg.of g1 g4
   ·exact (Edg.of g1 g4).symm) hw
  have:=(hd'.walk h6 ok.dk (Akn (pl:=s.places) ok.dk ht') h0 (by omega) hm).2.2.1
  omega
end Go.Proofs.YtaehjjbekjglkaaGreatDoor
end
section
namespace Go.Proofs.YtaehjjbekjglkaaGreatDoor
open Go Go.X Go.Proofs.Tryz
def Akt:=aN @Dyz (aN @Bqh (aN @Cke (aN @Ayg (aN @Ajf (aN @Aw4 @Dyj)))))
theorem Cv8 {a n:Int} (h0:0<=a) (h1:a<2*n):a.tmod n=if a<n then a else a-n:=by
 rw [Int.tmod_eq_emod_of_nonneg h0]
 split
 ·exact Int.emod_eq_of_lt h0 (by omega)
 ·rw [show a=(a-n)+n*1 by omega,Int.add_mul_emod_self_left,Int.emod_eq_of_lt (by omega) (by omega)]
  omega
theorem Byp (m:Md) (H:Hp) (b k:Nat) (places wide:Int) (h0:2<=places) (h1:places<=6) (w0:0<=wide) (w1:wide<=10) (hT:TinI H b (k+4)) :
  FnX Tryz.prog m 94 #[.pointer (some ⟨b,0,none⟩),.int .i64 places,.int .i64 wide] H fun e H'=>∃d:Dr,e=.returned (.agg #[.int .i64 d.a,.int .i64 d.b,.int .i64 d.mn,.int .i64 d.mx])/\DrOk places d/\Lex (some b) H H'/\TinI H' b k:=by
 refine Aqn func94 rfl ntmps94 (by simp) ?_
 (refine @unH _ (zA Akt ?_);(try clear hK K);intro K hK hc)
 (intro db hdb;generalize hG:Hp.set _ db _=H1;have lH1:=Aqc hG hdb;have vdb:=Aqb hG;clear hG)
 have hT1:=hT.le lH1
 have hne:=hT.ne hdb
 (refine @unH _ (zU Akt ?_);(try clear hK K);intro K hK hc)
 refine (Bjd m H1 b (k+3) (places-1) (by omega) hT1).runs.mono ?_
 rintro _ H2 ⟨r,r0,r1,rfl,x2,hT2⟩
 have v2:=x2.keeps vdb hne
 clear vdb hT1
 (refine @unH _ (zU Akt ?_);(try clear hK K);intro K hK hc)
 refine (Bzy m H2 b (k+2) 1 3 (by omega) (by omega) (by omega) (by omega) hT2).runs.mono ?_
 rintro _ H3 ⟨n,n0,n1,rfl,x3,hT3⟩
 have v3:=x3.keeps v2 hne
 clear v2 hT2
 (refine @unH _ (zU Akt ?_);(try clear hK K);intro K hK hc)
 refine Axm (fun HX=>True) [] (.free 0 (.free 1 (.free 2 (.free 3 (.free 4 (.free 7 (.free 9 (.free 10 (.free 11 (.free 12 (.one 5 (.free 6 (.free 8 (.one 13 (.free 14 (.free 15 (.free 16 (.free 17 (.one 18 .nil))))))))))))))))))) (by kernel_rfl) (by kernel_rfl) (by decide) (by kernel_rfl) ?_;intro K hK
 refine Ax6 fun ops hOz=>?_
 (iterate 10 (refine @unH _ ?_;refine zF Akt ?_))
 (refine @unH _ ?_;refine zM Akt ?_)
 refine (Bzy m H3 b (k+1) 1 (places-1) (by omega) (by omega) (by omega) (by omega) hT3).runs.mono ?_
 rintro _ H4 ⟨x,q0,q1,rfl,x4,hT4⟩
 have v4:=x4.keeps v3 hne
 clear v3 hT3
 simp -implicitDefEqProofs (disch:=omega) only [Azn,Aq3,Aql]
 refine ⟨.inr fun _=>trivial,?_⟩
 (iterate 2 (refine @unH _ ?_;refine zF Akt ?_))
 (refine @unH _ ?_;refine zM Akt ?_)
 refine (Bjd m H4 b k wide (by omega) hT4).runs.mono ?_
 rintro _ H5 ⟨y,y0,y1,rfl,x5,hT5⟩
 have v5:=x5.keeps v4 hne
 clear v4 hT4
 simp -implicitDefEqProofs (disch:=omega) only [Azn,Aq3,Aql]
 refine ⟨.inr fun _=>trivial,?_⟩
 (iterate 4 (refine @unH _ ?_;refine zF Akt ?_))
 (refine @unH _ ?_;refine zM Akt ?_)
 refine ⟨.inr fun _=>trivial,?_⟩
 (refine Az6 (hK _ _ ?_);clear hK K;(try simp only [nq,↓reduceIte,Nat.reduceEqDiff]))
 (refine Axr ?_;(try simp only [nq,↓reduceIte,Nat.reduceEqDiff]);rw [Aq8,Ax4 results94 (by decide) (b:=db) (o:=0) rfl underlying30 rfl sizeOf30];simp -implicitDefEqProofs (disch:=first | omega | (simp only [qd]<;>omega)) only [xq,↓xp,qc,Nat.reduceAdd,List.range,List.range.loop,fine,Nat.reduceEqDiff,↓reduceIte,yielded,reduceCtorEq,Nat.reduceLT,Nat.reduceMul,Nat.reduceSub,one,Nat.reduceLeDiff,Aqg,Akt,Axl,List.extract_toArray])
 refine ⟨⟨r,(r+x).tmod places,n,if n+y<4 then n+y else 4⟩,rfl,?_,(((((Lex.of lH1).trans x2).trans x3).trans x4).trans x5).own hdb,hT5.own v5 (Ne.symm hne)⟩
 have e:=Cv8 (a:=r+x) (n:=places) (by omega) (by omega)
 generalize (r+x).tmod places=z at e ⊢
 have hz:0<=z/\z<places/\r≠z:=by
  rw [e]
  split<;>omega
 refine ⟨r0,by simp only;omega,hz.1,hz.2.1,hz.2.2,n0,?_,?_⟩<;>simp only<;>split<;>omega
end Go.Proofs.YtaehjjbekjglkaaGreatDoor
end
