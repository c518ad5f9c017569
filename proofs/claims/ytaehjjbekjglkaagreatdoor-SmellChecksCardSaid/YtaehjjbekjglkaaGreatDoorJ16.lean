/- Texts SmD PlanW SmT SmP SmFq. -/
import Derived.Test.YtaehjjbekjglkaaGreatDoorJ15
set_option linter.defProp false
set_option linter.unusedSimpArgs false
set_option linter.unusedVariables false
set_option maxRecDepth 100000
set_option maxHeartbeats 2000000
section
namespace Go.Proofs.YtaehjjbekjglkaaGreatDoor
open Go Go.X Go.Proofs.Tryz
def Bqv:=aN @Dy1 (aN (fun H=>Aqu (H:=H) (P:=Tryz.prog) (h:=zeroValue58)) (aN (fun H=>Bwr (H:=H) sizeOf58) (aN (fun H=>Bzu (H:=H) sizeOf58) @Dw4)))
def Ak4:=aN @Dw5 (aN @Dwe (aN @Dwj (aN @Dwz (aN @Dv4 (aN (fun H=>Aqh (H:=H) underlying213 rfl) (aN @Dyd (aN @Dyo (aN @Dwq (aN @Dya (aN @Dyx (aN @Dyi (aN @Dwm (aN @Dw2 (aN @Dwn (aN @Aya (aN @Dv2 (aN @Dy5 @Dw4)))))))))))))))))
structure Drs (S:Nat->Prop) (T:Bool->List (List Int)->Hp->Prop) (y:Value) (yb tb gb thisb:Nat) (ds:List Dr) (L:List (List Int)) (pre:List Int) (H:Hp):Prop where
 cl:T true L H
 vy:H yb=some (true,.cells #[y] 213 (0,0))
 vg:H gb=some (true,.cells #[.func (.func 141) #[] #[.pointer (some ⟨thisb,0,none⟩),.pointer (some ⟨yb,0,none⟩),.pointer (some ⟨tb,0,none⟩),.pointer (some ⟨gb,0,none⟩)]] 58 (0,0))
 vt:∃p,H tb=some (true,.cells (ints p).toArray 77 (0,0))/\p.length=6/\p.take pre.length=pre/\p.drop ds.length=List.replicate (6-ds.length) 0
 ny:¬S yb
 ng:¬S gb
 nt:¬S tb
def Bxd (d:Dr) (R:List (List Int)) (pre:List Int) (i:Nat):List (List Int):=(((List.range i).map fun (n:Nat)=>(n:Int)).filter fun n=>decide (d.mn<=n/\n<=d.mx)).flatMap fun n=>R.map fun u=>pad6 (pre++n::u)
theorem Czl (d:Dr) (R:List (List Int)) (pre:List Int) (i:Nat):Bxd d R pre (i+1)=Bxd d R pre i++if d.mn<=(i:Int)/\(i:Int)<=d.mx then R.map (fun u=>pad6 ((pre++[(i:Int)])++u)) else []:=by
 unfold Bxd
 rw [List.range_succ,List.map_append,List.filter_append,List.flatMap_append]
 congr 1
 by_cases h:d.mn<=(i:Int)/\(i:Int)<=d.mx
 ·rw [if_pos h]
  simp [h]
 ·rw [if_neg h]
  simp [h]
theorem Ckl (d:Dr) (ds:List Dr) (pre:List Int):Bxd d (Ax1 ds) pre 5=(Ax1 (d::ds)).map fun u=>pad6 (pre++u):=by
 show _=((hrsF d).flatMap fun n=>(Ax1 ds).map (n :: ·)).map fun u=>pad6 (pre++u)
 unfold Bxd hrsF
 rw [List.map_flatMap]
 congr 1
 funext n
 rw [List.map_map]
 rfl
theorem Cvn {p pre:List Int} (h:p.length=6) (n:Nat) (hn:pre.length=n) (h1:p.take n=pre) (h2:p.drop n=List.replicate (6-n) 0):p=pad6 pre:=by
 unfold pad6
 rw [<-List.take_append_drop n p,h1,h2,hn]
theorem Czv (main:Md) {S:Nat->Prop} {A:List Int->Prop} {T:Bool->List (List Int)->Hp->Prop} {yf:Fn} {yi yc:Array Value} {yb tb gb thisb:Nat} {pl:Int} {da:Option Addr} {dc:Nat} {hv nv:Value} {ds:List Dr}
  (hC:Cjw Tryz.prog main (.func yf yi yc) S (fun H v xs=>v=.agg (ints xs).toArray) A T) (hT1:∀t L H,T t L H->t=true)
  (hthis:∀L H,T true L H->∃hb mb q q',H thisb=some (q',.cells #[.pointer (some ⟨hb,0,none⟩)] 78 (0,0))/\H hb=some (q,hsO pl (.slice da ds.length dc) hv nv mb)/\SlD H (.slice da ds.length dc) ds)
  (hl6:ds.length<=6):∀(n k:Nat) (hk:k+n=ds.length) (pre:List Int) (hpre:pre.length=k) (L:List (List Int)) (H:Hp) (hP:Drs S T (.func yf yi yc) yb tb gb thisb ds L pre H) (hA:∀u∈Ax1 (ds.drop k),A (pad6 (pre++u))),
  FnX Tryz.prog main 141 #[.int .i64 k,.pointer (some ⟨thisb,0,none⟩),.pointer (some ⟨yb,0,none⟩),.pointer (some ⟨tb,0,none⟩),.pointer (some ⟨gb,0,none⟩)] H fun e H'=>e=.returned (.bool true)/\Drs S T (.func yf yi yc) yb tb gb thisb ds (L++(Ax1 (ds.drop k)).map fun u=>pad6 (pre++u)) pre H'/\∀b x,¬S b->b≠tb->H b=some x->H' b=some x:=by
 intro n
 induction n with
 | zero=>
  intro k hk pre hpre L H hP hA
  obtain ⟨p,vt,hp6,hp1,hp2⟩:=hP.vt
  obtain ⟨hb,mb,q,q',vth,vh,dd⟩:=hthis _ _ hP.cl
  have vy:=hP.vy
  obtain rfl:k=ds.length:=by omega
  have hpp:p=pad6 pre:=Cvn hp6 _ hpre (by rw [<-hpre];exact hp1) hp2
  have hil:(ints p).length=6:=by rw [Aqz];exact hp6
  have hex:=Ajk hp6
  simp only [hsO] at vh
  replace hpp:Aqk _:=hpp
  replace hp1:Aqk _:=hp1
  replace hp2:Aqk _:=hp2
  replace hpre:Aqk _:=hpre
  refine Aqn func141 rfl ntmps141 (by simp) ?_
  (refine @unH _ (zA Ak4 ?_);(try clear hK K);intro K hK hc)
  have hcall:=hC.call L H _ p hP.cl rfl (by rw [show p=_ from hpp];have:=hA [] (by simp [Ax1]);simpa using this)
  refine Ajn.use hcall ?_
  clear hcall
  rintro _ H2 ⟨t,rfl,hT,hk2⟩
  obtain rfl:t=true:=hT1 _ _ _ hT
  have hP2:Drs S T (.func yf yi yc) yb tb gb thisb ds (L++[p]) pre H2:=⟨hT,hk2 _ _ hP.ny vy,hk2 _ _ hP.ng hP.vg,⟨p,hk2 _ _ hP.nt vt,hp6,hp1,hp2⟩,hP.ny,hP.ng,hP.nt⟩
  clear vy vt vth vh hex hil dd
  replace hk2:Aqk _:=hk2
  (refine @unH _ (zU Ak4 ?_);(try clear hK K);intro K hK hc)
  (refine @unH _ ?_;refine z9 results141 ?_)
  refine ⟨trivial,?_,fun b x h1 _ hx=>(show ∀b x,¬S b->H b=some x->H2 b=some x from hk2) b x h1 hx⟩
  rw [show p=_ from hpp] at hP2
  simpa [Ax1] using hP2
 | succ n ih=>
  intro k hk pre hpre L H hP hA
  obtain ⟨p,vt,hp6,hp1,hp2⟩:=hP.vt
  obtain ⟨hb,mb,q,q',vth,vh,dd⟩:=hthis _ _ hP.cl
  have hlt:k<ds.length:=by omega
  obtain ⟨db,o,p',cd,fr,rfl,hdb,hcs,hce⟩:=dd.get (List.getElem?_eq_getElem hlt)
  have hdr:ds.drop k=ds[k]::ds.drop (k+1):=List.drop_eq_getElem_cons hlt
  generalize ds[k]=d at *
  have hce2:cd.extract (o+k*4+2) (o+k*4+4)=#[.int .i64 d.mn,.int .i64 d.mx]:=by
   have h:(cd.extract (o+k*4) (o+k*4+4)).extract 2 4=#[.int .i64 d.mn,.int .i64 d.mx]:=by rw [hce];rfl
   rw [Array.extract_extract] at h
   rw [<-h]
   congr 1
   omega
  have hcs2:o+k*4+4<=cd.size:=hcs
  simp only [hsO] at vh
  rw [hdr] at hA ⊢
  rw [<-Ckl]
  clear hdr hce hcs
  have hke:((k:Int)==(ds.length:Int))=false:=by simp;omega
  have hA2:∀i:Int,d.mn<=i->i<=d.mx->0<=i->i<5->∀u∈Ax1 (ds.drop (k+1)),A (pad6 (pre++[i]++u)):=fun i h1 h2 h3 h4 u hu=>by
   rw [List.append_assoc]
   refine hA _ ?_
   unfold Ax1
   rw [List.mem_flatMap]
   refine ⟨i,?_,List.mem_map.2 ⟨u,hu,rfl⟩⟩
   unfold hrsF
   rw [List.mem_filter]
   exact ⟨List.mem_map.2 ⟨i.toNat,List.mem_range.2 (by omega),by omega⟩,by simp [h1,h2]⟩
  clear hA
  have hrec:=fun (L:List (List Int)) (H:Hp) (i:Int) (hP:Drs S T (.func yf yi yc) yb tb gb thisb ds L (pre++[i]) H) h=>ih (k+1) (by omega) (pre++[i]) (by simp [hpre]) L H hP h
  clear ih
  generalize Ax1 (ds.drop (k+1))=R at *
  replace hp1:Aqk _:=hp1
  replace hp2:Aqk _:=hp2
  replace hp6:Aqk _:=hp6
  replace hpre:Aqk _:=hpre
  refine Aqn func141 rfl ntmps141 (by simp) ?_
  (refine @unH _ (zA Ak4 ?_);(try clear hK K);intro K hK hc)
  intro bb hbb
  have nSb:¬S bb:=fun h=>hC.ex _ _ _ _ hP.cl h hbb
  have ntb:=Aqr vt hbb
  generalize hG:Hp.set H bb _=H1
  have lH1:=Aqc hG hbb
  have vb:=Aqb hG
  have hP1:Drs S T (.func yf yi yc) yb tb gb thisb ds (L++Bxd d R pre 0) pre H1:=by
   rw [show Bxd d R pre 0=[] from rfl,List.append_nil]
   exact ⟨hC.keep _ _ _ _ hP.cl fun b x _ hx=>lH1 _ _ hx,lH1 _ _ hP.vy,lH1 _ _ hP.vg,⟨p,lH1 _ _ vt,hp6,hp1,hp2⟩,hP.ny,hP.ng,hP.nt⟩
  have hnt:=hP.nt
  clear hG vt vth vh dd hdb hce2 hcs2 hP hp1 hp2 hp6 hbb
  (refine @unH _ (zU Ak4 ?_);(try clear hK K);intro K hK hc)
  refine Axg (fun w a' H'=>∃e,∃i:Nat,w=5-i/\i<=5/\a'=act 47 e []/\e 0=.int .i64 k/\e 3=.pointer (some ⟨tb,0,none⟩)/\e 4=.pointer (some ⟨gb,0,none⟩)/\e 7=.pointer (some ⟨bb,0,none⟩)/\e 29=.int .i64 (i:Nat) /\
   Drs S T (.func yf yi yc) yb tb gb thisb ds (L++Bxd d R pre i) pre H'/\∀b x,¬S b->b≠tb->H1 b=some x->H' b=some x) (n:=5) ?_ ?_
  ·exact ⟨_,0,by omega,by omega,rfl,rfl,rfl,rfl,rfl,rfl,hP1,fun _ _ _ _ h=>h⟩
  ·clear hP1
   rintro w a' H2 ⟨e,i,rfl,hi,rfl,e0,e3,e4,e7,e29,hP2,hfr⟩
   have vb2:=hfr _ _ nSb (Ne.symm ntb) vb
   by_cases hi5:i<5
   ·have hsu:=Czl d R pre i
    by_cases hin:d.mn<=(i:Int)/\(i:Int)<=d.mx
    ·rw [if_pos hin] at hsu
     obtain ⟨p2,vt2,hq6,hq1,hq2⟩:=hP2.vt
     have vg2:=hP2.vg
     have ngt:gb≠tb:=Aze vg2 vt2 (by decide)
     have hil:(ints p2).length=6:=by rw [Aqz];exact hq6
     have hk6:k<6:=by omega
     replace hsu:Aqk _:=hsu
     replace hq1:Aqk _:=hq1
     replace hq2:Aqk _:=hq2
     replace hq6:Aqk _:=hq6
     replace hfr:Aqk _:=hfr
     (refine @unH _ (zA Ak4 ?_);(try clear hK K);intro K hK hc)
     refine (Axj main H2 (i:Int) d.mn d.mx).runs.mono ?_
     rintro _ _ ⟨rfl,hQ⟩
     rw [hQ,show (decide ((i:Int)<d.mn)||decide (d.mx<(i:Int)))=false by simp;omega]
     clear hQ
     (refine @unH _ (zU (aN Ak4 @Azm) ?_);(try clear hK K);intro K hK hc)
     generalize hG:Hp.set H2 tb _=H3
     have hfr3:∀b x,b≠tb->H2 b=some x->H3 b=some x:=fun b x hb hx=>Aqi hG hx hb
     have hP3:Drs S T (.func yf yi yc) yb tb gb thisb ds (L++Bxd d R pre i) (pre++[(i:Int)]) H3:=by
      refine ⟨hC.keep _ _ _ _ hP2.cl fun b x hb hx=>hfr3 b x (fun e=>hnt (by rw [<-e];exact hb)) hx,hfr3 _ _ (Aze hP2.vy vt2 (by decide)) hP2.vy,hfr3 _ _ ngt hP2.vg,⟨p2.set k (i:Int),Aqb hG,by rw [List.length_set];exact hq6,?_,?_⟩,hP2.ny,hP2.ng,hP2.nt⟩
      ·rw [List.length_append,List.length_singleton,show pre.length=k from hpre,List.take_set,List.take_add_one,List.getElem?_eq_getElem (by rw [show p2.length=6 from hq6];omega)]
       have h1:p2.take k=pre:=by have:=hq1;rw [show pre.length=k from hpre] at this;exact this
       have hpl:pre.length=k:=hpre
       rw [h1,List.set_append_right _ _ (by omega),show k-pre.length=0 by omega]
       rfl
      ·rw [List.drop_set_of_lt hlt]
       exact hq2
     have hr:=hrec _ H3 (i:Int) hP3 (hA2 _ hin.1 hin.2 (by omega) (by omega))
     have vb3:=hfr3 _ _ (Ne.symm ntb) vb2
     replace hfr3:Aqk _:=hfr3
     clear hG vg2 vt2 hP2 hP3 hrec hA2 vb2
     rw [Cxb,Ajw]
     simp only [Array.empty_append,List.append_toArray,List.cons_append,List.nil_append]
     refine hr.runs.mono ?_
     clear hr
     rintro _ H4 ⟨rfl,hP4,hfr4⟩
     replace hfr4:Aqk _:=hfr4
     (refine @unH _ (zU Ak4 ?_);(try clear hK K);intro K hK hc)
     refine ⟨_,by omega,_,i+1,rfl,by omega,rfl,e0,e3,e4,e7,rfl,?_,fun b x h1 h2 hx=>(show ∀b x,¬S b->b≠tb->H3 b=some x->H4 b=some x from hfr4) b x h1 h2 ((show ∀b x,b≠tb->H2 b=some x->H3 b=some x from hfr3) b x h2 ((show ∀b x,¬S b->b≠tb->H1 b=some x->H2 b=some x from hfr) b x h1 h2 hx))⟩
     rw [show Bxd d R pre (i+1)=_ from hsu,<-List.append_assoc]
     obtain ⟨p4,vt4,h6,h1,h2⟩:=hP4.vt
     refine ⟨hP4.cl,hP4.vy,hP4.vg,⟨p4,vt4,h6,?_,h2⟩,hP4.ny,hP4.ng,hP4.nt⟩
     rw [List.length_append,List.length_singleton] at h1
     have h3:=congrArg (List.take pre.length) h1
     rw [List.take_take,Nat.min_eq_left (by omega),List.take_append_of_le_length (Nat.le_refl _),List.take_length] at h3
     exact h3
    ·rw [if_neg hin,List.append_nil] at hsu
     replace hsu:Aqk _:=hsu
     replace hfr:Aqk _:=hfr
     (refine @unH _ (zA Ak4 ?_);(try clear hK K);intro K hK hc)
     refine (Axj main H2 (i:Int) d.mn d.mx).runs.mono ?_
     rintro _ _ ⟨rfl,hQ⟩
     rw [hQ,show (decide ((i:Int)<d.mn)||decide (d.mx<(i:Int)))=true by simp;omega]
     clear hQ
     (refine @unH _ (zU Ak4 ?_);(try clear hK K);intro K hK hc)
     exact ⟨_,by omega,_,i+1,rfl,by omega,rfl,e0,e3,e4,e7,rfl,by rw [show Bxd d R pre (i+1)=Bxd d R pre i from hsu];exact hP2,hfr⟩
   ·obtain rfl:i=5:=by omega
    replace hfr:Aqk _:=hfr
    (refine @unH _ (zA Ak4 ?_);(try clear hK K);intro K hK hc)
    (refine @unH _ ?_;refine z9 results141 ?_)
    exact ⟨trivial,hP2,fun b x h1 h2 hx=>(show ∀b x,¬S b->b≠tb->H1 b=some x->H2 b=some x from hfr) b x h1 h2 (lH1 _ _ hx)⟩
theorem Byq (main:Md) {S:Nat->Prop} {A:List Int->Prop} {T:Bool->List (List Int)->Hp->Prop} {yf:Fn} {yi yc:Array Value} {thisb:Nat} {pl:Int} {da:Option Addr} {dc:Nat} {hv nv:Value} {ds:List Dr}
  (hC:Cjw Tryz.prog main (.func yf yi yc) S (fun H v xs=>v=.agg (ints xs).toArray) A T) (hT1:∀t L H,T t L H->t=true)
  (hthis:∀L H,T true L H->∃hb mb q q',H thisb=some (q',.cells #[.pointer (some ⟨hb,0,none⟩)] 78 (0,0))/\H hb=some (q,hsO pl (.slice da ds.length dc) hv nv mb)/\SlD H (.slice da ds.length dc) ds)
  (hl6:ds.length<=6) (H:Hp) (hT:T true [] H) (hA:∀u∈Ax1 ds,A (pad6 u)) :
  FnX Tryz.prog main 140 #[.func yf yi yc,.pointer (some ⟨thisb,0,none⟩)] H fun e H'=>e=.returned (.tuple #[])/\T true ((Ax1 ds).map pad6) H'/\∀b x,¬S b->H b=some x->H' b=some x:=by
 refine Aqn func140 rfl ntmps140 (by simp) ?_
 (refine @unH _ (zA (aN Bqv (aN @cells_func @Aj5)) ?_);(try clear hK K);intro K hK hc)
 (intro yb hyb;generalize hG:Hp.set _ yb _=H1;have lH1:=Aqc hG hyb;have vyb:=Aqb hG;clear hG)
 have ny:¬S yb:=fun h=>hC.ex _ _ _ _ hT h hyb
 have hT0:=hC.keep _ _ _ _ hT fun b x _ hx=>lH1 _ _ hx
 have l1:=lH1
 clear hyb lH1 hT
 (refine @unH _ (zU (aN Bqv (aN @cells_func @Aj5)) ?_);(try clear hK K);intro K hK hc)
 (intro tb htb;generalize hG:Hp.set _ tb _=H2;have lH2:=Aqc hG htb;have vtb:=Aqb hG;clear hG)
 have nt:¬S tb:=fun h=>hC.ex _ _ _ _ hT0 h htb
 have vyb2:=lH2 _ _ vyb
 replace hT0:=hC.keep _ _ _ _ hT0 fun b x _ hx=>lH2 _ _ hx
 have h0tb:=Hp.le_none l1 htb
 have l2:=Hp.le_trans l1 lH2
 clear htb lH2 vyb l1
 (refine @unH _ (zU (aN Bqv (aN @cells_func @Aj5)) ?_);(try clear hK K);intro K hK hc)
 (intro gb hgb;generalize hG:Hp.set _ gb _=H3;have lH3:=Aqc hG hgb;have vgb:=Aqb hG;clear hG)
 have ng:¬S gb:=fun h=>hC.ex _ _ _ _ hT0 h hgb
 have vyb3:=lH3 _ _ vyb2
 have vtb3:=lH3 _ _ vtb
 replace hT0:=hC.keep _ _ _ _ hT0 fun b x _ hx=>lH3 _ _ hx
 have h0gb:=Hp.le_none l2 hgb
 have l3:=Hp.le_trans l2 lH3
 clear hgb lH3 vyb2 vtb l2
 (refine @unH _ (zU (aN Bqv (aN @cells_func @Aj5)) ?_);(try clear hK K);intro K hK hc)
 generalize hG:Hp.set H3 gb _=H4
 have hk4:∀b x,b≠gb->H3 b=some x->H4 b=some x:=fun b x hb hx=>Aqi hG hx hb
 have vg4:=Aqb hG
 have vyb4:=hk4 _ _ (Aze vyb3 vgb (by decide)) vyb3
 have vtb4:=hk4 _ _ (Aze vtb3 vgb (by decide)) vtb3
 have hT4:=hC.keep _ _ _ H4 hT0 fun b x hb hx=>hk4 b x (fun e=>ng (by rw [<-e];exact hb)) hx
 have hfr4:Aqk (∀b x,H b=some x->H4 b=some x):=fun b x hx=>hk4 b x (fun e=>by rw [e,h0gb] at hx;cases hx) (l3 _ _ hx)
 have hz:List.drop ds.length [(0:Int),0,0,0,0,0]=List.replicate (6-ds.length) 0:=by
  rcases (by omega:ds.length=0∨ds.length=1∨ds.length=2∨ds.length=3∨ds.length=4∨ds.length=5∨ds.length=6) with h | h | h | h | h | h | h<;>rw [h]<;>rfl
 have hP:Drs S T (.func yf yi yc) yb tb gb thisb ds [] [] H4:=⟨hT4,vyb4,vg4,⟨[0,0,0,0,0,0],vtb4,rfl,rfl,hz⟩,ny,ng,nt⟩
 have hg:=Czv main hC hT1 hthis hl6 ds.length 0 (by omega) [] rfl [] H4 hP (by simpa using hA)
 clear hG vgb vyb3 vtb3 hT0 hT4 hz hP hk4 vyb4 vtb4
 (refine @unH _ (zU Bqv ?_);intro _ _ hc)
 rw [Cxb,Ajw]
 simp only [Array.empty_append,List.append_toArray,List.cons_append,List.nil_append]
 refine hg.runs.mono ?_
 clear hg
 rintro _ H5 ⟨rfl,hP5,hfr5⟩
 have hT5:=hP5.cl
 rw [List.nil_append,List.drop_zero] at hT5
 replace hfr5:Aqk _:=hfr5
 replace hT5:Aqk _:=hT5
 clear hP5 vg4
 (refine @unH _ (zU Bqv ?_);(try clear hK K);intro K hK hc)
 (refine @unH _ ?_;refine zD results140 ?_)
 refine ⟨by trivial,hT5,fun b x hb hx=>(show ∀b x,¬S b->b≠tb->H4 b=some x->H5 b=some x from hfr5) b x hb (fun e=>by rw [e,h0tb] at hx;cases hx) ((show ∀b x,H b=some x->H4 b=some x from hfr4) b x hx)⟩
theorem Czm (main:Md) (H:Hp) (hb:Nat) :
  FnX Tryz.prog main 126 #[.pointer (some ⟨hb,0,none⟩)] H fun e H'=>∃thisb,e=.returned (.func (.func 140) #[] #[.pointer (some ⟨thisb,0,none⟩)])/\H' thisb=some (true,.cells #[.pointer (some ⟨hb,0,none⟩)] 78 (0,0))/\H.le H'/\H thisb=none:=by
 refine Aqn func126 rfl ntmps126 (by simp) ?_
 (refine @unH _ (zA trivial ?_);(try clear hK K);intro K hK hc)
 (intro thisb hthisb;generalize hG:Hp.set _ thisb _=H1;have lH1:=Aqc hG hthisb;have vthisb:=Aqb hG;clear hG)
 (refine @unH _ (zU trivial ?_);(try clear hK K);intro K hK hc)
 (refine @unH _ ?_;refine z9 results126 ?_)
 exact ⟨thisb,rfl,vthisb,lH1,hthisb⟩
end Go.Proofs.YtaehjjbekjglkaaGreatDoor
end
section
namespace Go.X
open Go
section
variable {P:Program} {main:Md} {lp:Option Nat} {Q:Exit->Act->Hp->Prop} {ops:Array Oper} {S:Hp->Prop}
inductive PW where
 | nil
 | take (i:Nat) (p:PW)
 | free (i:Nat) (p:PW)
 | one (i:Nat) (p:PW)
 | two (i:Nat) (p:PW) (j:Nat) (q:PW)
 | three (i:Nat) (p:PW) (j:Nat) (q:PW) (k:Nat) (r:PW)
def PW.depth:PW->Nat
 | .nil=>0
 | .take _ p=>p.depth+1
 | .free _ p=>p.depth+1
 | .one _ p=>p.depth+1
 | .two _ p _ q=>max p.depth q.depth+1
 | .three _ p _ q _ r=>max p.depth (max q.depth r.depth)+1
def Ajz (P:Program) (main:Md) (lp:Option Nat) (ops:Array Oper) (Q:Exit->Act->Hp->Prop) (S:Hp->Prop) (ts:List Nat):PW->Act->Hp->Prop
 | .nil,a,H=>Q .normal a H
 | .take i p,a,H=>S H/\∃o,ops[i]?=some o/\∃v,Ax9 P main lp ops S o v a/\Ajz P main lp ops Q S ts p (a.put o.dst v) H
 | .free i p,a,H=>∃o,ops[i]?=some o/\∃v,Ax9 P main lp ops (fun _=>True) o v a/\Ajz P main lp ops Q S ts p (a.put o.dst v) H
 | .one i p,a,H=>numX P main lp ops i Q (fun a' H'=>(i∈ts∨(S H->S H'))/\Ajz P main lp ops Q S ts p a' H') a H
 | .two i p j q,a,H=>numX P main lp ops i Q (fun a' H'=>(i∈ts∨(S H->S H'))/\Ajz P main lp ops Q S ts p a' H') a H/\numX P main lp ops j Q (fun a' H'=>(j∈ts∨(S H->S H'))/\Ajz P main lp ops Q S ts q a' H') a H
 | .three i p j q k r,a,H=>numX P main lp ops i Q (fun a' H'=>(i∈ts∨(S H->S H'))/\Ajz P main lp ops Q S ts p a' H') a H/\numX P main lp ops j Q (fun a' H'=>(j∈ts∨(S H->S H'))/\Ajz P main lp ops Q S ts q a' H') a H/\numX P main lp ops k Q (fun a' H'=>(k∈ts∨(S H->S H'))/\Ajz P main lp ops Q S ts r a' H') a H
def Azz (ops:Array Oper) (ts:List Nat):PW->Array Bool->Bool
 | .nil,listed=>(Region.ready .any ops listed).isEmpty
 | .take i p,listed=>(ts.all fun t=>i != t&&(waitsFor ops t).getD i false)&&Region.free .any ops listed i&&(Region.ready .any ops listed).contains i&&Azz ops ts p (listed.setIfInBounds i true)
 | .free i p,listed=>Region.free .any ops listed i&&(Region.ready .any ops listed).contains i&&Azz ops ts p (listed.setIfInBounds i true)
 | .one i p,listed=>(Region.ready .any ops listed==[i])&&Azz ops ts p (listed.setIfInBounds i true)
 | .two i p j q,listed=>(Region.ready .any ops listed==[i,j])&&Azz ops ts p (listed.setIfInBounds i true)&&Azz ops ts q (listed.setIfInBounds j true)
 | .three i p j q k r,listed=>(Region.ready .any ops listed==[i,j,k])&&Azz ops ts p (listed.setIfInBounds i true)&&Azz ops ts q (listed.setIfInBounds j true)&&Azz ops ts r (listed.setIfInBounds k true)
theorem Azi {ts:List Nat} (hsel:Region.noSelect ops=true) (hQ:∀c a H d v,Q (.panic c) (a.put d v) H->Q (.panic c) a H) :
  ∀(plan:PW) (fuel:Nat) (listed:Array Bool) (a:Act) (H:Hp),plan.depth<=fuel->Closed ops listed->Azz ops ts plan listed=true ->
   Ajz P main lp ops Q S ts plan a H->anyV P main lp ops Q S ts fuel listed a H
 | .nil,fuel,listed,a,H,_,_,hok,h=>by
  have hr:Region.ready .any ops listed=[]:=by simpa [Azz] using hok
  cases fuel with
  | zero=>exact ⟨hr,h⟩
  | succ n=>exact ⟨fun _=>h,by rw [hr];simp⟩
 | .take i p,0,_,_,_,hl,_,_,_=>by simp [PW.depth] at hl
 | .free i p,0,_,_,_,hl,_,_,_=>by simp [PW.depth] at hl
 | .free i p,fuel+1,listed,a,H,hl,hcl,hok,h=>by
  simp only [Azz,Bool.and_eq_true] at hok
  obtain ⟨⟨hf,hr⟩,hok⟩:=hok
  obtain ⟨o,ho,v,hy,h⟩:=h
  have hr':i∈Region.ready .any ops listed:=by simpa using hr
  exact Bvl ho (Region.noSelect_spec hsel) (fun c a H=>hQ c a H _ _) fuel listed a H hcl (Region.free_spec ho hf) hr' hy
   (Azi hsel hQ p fuel _ _ _ (by simp [PW.depth] at hl;omega) (hcl.set hr') hok h)
 | .one i p,0,_,_,_,hl,_,_,_=>by simp [PW.depth] at hl
 | .two i p j q,0,_,_,_,hl,_,_,_=>by simp [PW.depth] at hl
 | .three i p j q k r,0,_,_,_,hl,_,_,_=>by simp [PW.depth] at hl
 | .take i p,fuel+1,listed,a,H,hl,hcl,hok,h=>by
  simp only [Azz,Bool.and_eq_true] at hok
  obtain ⟨⟨⟨hd,hf⟩,hr⟩,hok⟩:=hok
  obtain ⟨hS,o,ho,v,hy,h⟩:=h
  have hr':i∈Region.ready .any ops listed:=by simpa using hr
  refine Bjg ho (Region.noSelect_spec hsel) (fun t ht hlt=>?_) (fun c a H=>hQ c a H _ _) fuel listed a H hcl (Region.free_spec ho hf) hr' hy hS
   (Azi hsel hQ p fuel _ _ _ (by simp [PW.depth] at hl;omega) (hcl.set hr') hok h)
  have:=List.all_eq_true.1 hd t ht
  simp only [Bool.and_eq_true,bne_iff_ne,ne_eq] at this
  exact (Bq8 this.2).resolve_left this.1
 | .one i p,fuel+1,listed,a,H,hl,hcl,hok,h=>by
  simp only [Azz,Bool.and_eq_true,beq_iff_eq] at hok
  obtain ⟨hr,hok⟩:=hok
  refine ⟨fun h0=>(by rw [hr] at h0;cases h0),fun j hj=>?_⟩
  have hji:j=i:=by rw [hr] at hj;simpa using hj
  subst hji
  exact Axx (fun a' H' h'=>⟨h'.1,Azi hsel hQ p fuel _ _ _ (by simp [PW.depth] at hl;omega) (hcl.set hj) hok h'.2⟩) h
 | .two i p j q,fuel+1,listed,a,H,hl,hcl,hok,h=>by
  simp only [Azz,Bool.and_eq_true,beq_iff_eq] at hok
  obtain ⟨⟨hr,hok1⟩,hok2⟩:=hok
  refine ⟨fun h0=>(by rw [hr] at h0;cases h0),fun k hk=>?_⟩
  have hkk:k=i∨k=j:=by rw [hr] at hk;simpa using hk
  rcases hkk with rfl | rfl
  ·exact Axx (fun a' H' h'=>⟨h'.1,Azi hsel hQ p fuel _ _ _ (by simp [PW.depth] at hl;omega) (hcl.set hk) hok1 h'.2⟩) h.1
  ·exact Axx (fun a' H' h'=>⟨h'.1,Azi hsel hQ q fuel _ _ _ (by simp [PW.depth] at hl;omega) (hcl.set hk) hok2 h'.2⟩) h.2
 | .three i p j q k r,fuel+1,listed,a,H,hl,hcl,hok,h=>by
  simp only [Azz,Bool.and_eq_true,beq_iff_eq] at hok
  obtain ⟨⟨⟨hr,hok1⟩,hok2⟩,hok3⟩:=hok
  refine ⟨fun h0=>(by rw [hr] at h0;cases h0),fun x hk=>?_⟩
  have hkk:x=i∨x=j∨x=k:=by rw [hr] at hk;simpa using hk
  rcases hkk with rfl | rfl | rfl
  ·exact Axx (fun a' H' h'=>⟨h'.1,Azi hsel hQ p fuel _ _ _ (by simp [PW.depth] at hl;omega) (hcl.set hk) hok1 h'.2⟩) h.1
  ·exact Axx (fun a' H' h'=>⟨h'.1,Azi hsel hQ q fuel _ _ _ (by simp [PW.depth] at hl;omega) (hcl.set hk) hok2 h'.2⟩) h.2.1
  ·exact Axx (fun a' H' h'=>⟨h'.1,Azi hsel hQ r fuel _ _ _ (by simp [PW.depth] at hl;omega) (hcl.set hk) hok3 h'.2⟩) h.2.2
theorem Cwi {id:Nat} {a:Act} {H:Hp} (S:Hp->Prop) (ts:List Nat) (plan:PW) (hm:P.follows .mixedOrders=true) (hsel:Region.noSelect ops=true) (hlen:plan.depth<=ops.size)
  (hok:Azz ops ts plan (Array.replicate ops.size false)=true)
  (hQ:∀c a H d v,Q (.panic c) (a.put d v) H->Q (.panic c) a H) (h:Ajz P main lp ops Q S ts plan a H):wpX P main lp (.region id ops true) Q a H:=
 Bvb (fun _=>True) hm (Av2 _ _ _ _ (Azi hsel hQ plan _ _ _ _ hlen .start hok h))
theorem Cwj {id:Nat} {ops:Array Oper} {y:Code} {a:Act} {H:Hp} (S:Hp->Prop) (ts:List Nat) (plan:PW) (hm:P.follows .mixedOrders=true) (hsel:Region.noSelect ops=true) (hlen:plan.depth<=ops.size)
  (hok:Azz ops ts plan (Array.replicate ops.size false)=true)
  (h:∀K:Act->Hp->Prop,(∀a' H',wpX P main lp y Q a' H'->K a' H')->Ajz P main lp ops (only K) S ts plan a H) :
  wpX P main lp (.seq (.region id ops true) y) Q a H:=by
 refine Axn ?_
 refine Az3 (Q:=only fun a' H'=>wpX P main lp y Q a' H') (Cwi S ts plan hm hsel hlen hok (fun c a H d v h=>h) (h _ fun _ _ h=>h)) fun e a H q=>?_
 cases e<;>first | exact q | exact q.elim
theorem Bjx {S:Hp->Prop} {ts:List Nat} {a:Act} {H:Hp} {i:Nat} {ops:List Oper} {o:Oper} {p:PW} {v:Value} (ho:ops[i]?=some o) (hw:Region.wanted o (yielded ops.toArray a.tmps)=true) (hf:fine lp o=true)
  (hS:S H) (h:∀H',S H'->wpS P (execOp a.eval o) H' (YN P main v H') fun _ _=>False) (hk:Ajz P main lp ops.toArray Q S ts p (a.put o.dst v) H):Ajz P main lp ops.toArray Q S ts (.take i p) a H:=
 ⟨hS,o,by simpa using ho,v,.inl ⟨hw,hf,h⟩,hk⟩
theorem Axy {S:Hp->Prop} {ts:List Nat} {a:Act} {H:Hp} {i:Nat} {ops:Array Oper} {p:PW} (h:numX P main lp ops i Q (fun a' H'=>(i∈ts∨(S H->S H'))/\Ajz P main lp ops Q S ts p a' H') a H):Ajz P main lp ops Q S ts (.one i p) a H:=h
theorem Avc {S:Hp->Prop} {ts:List Nat} {a:Act} {H:Hp} {ops:Array Oper} (h:Q .normal a H):Ajz P main lp ops Q S ts .nil a H:=h
@[congr] theorem planW_congr {S:Hp->Prop} {ts:List Nat} {ops:Array Oper} {p:PW} {a a':Act} {H H':Hp} (ha:a=a') (hH:H=H'):Ajz P main lp ops Q S ts p a H=Ajz P main lp ops Q S ts p a' H':=by subst ha hH;rfl
theorem Bzi {S:Hp->Prop} {ts:List Nat} {a:Act} {H:Hp} {i j:Nat} {ops:Array Oper} {p q:PW} (h:numX P main lp ops i Q (fun a' H'=>(i∈ts∨(S H->S H'))/\Ajz P main lp ops Q S ts p a' H') a H)
 (h':numX P main lp ops j Q (fun a' H'=>(j∈ts∨(S H->S H'))/\Ajz P main lp ops Q S ts q a' H') a H):Ajz P main lp ops Q S ts (.two i p j q) a H:=⟨h,h'⟩
theorem By4 {S:Hp->Prop} {ts:List Nat} {a:Act} {H:Hp} {i j k:Nat} {ops:Array Oper} {p q r:PW} (h1:numX P main lp ops i Q (fun a' H'=>(i∈ts∨(S H->S H'))/\Ajz P main lp ops Q S ts p a' H') a H) (h2:numX P main lp ops j Q (fun a' H'=>(j∈ts∨(S H->S H'))/\Ajz P main lp ops Q S ts q a' H') a H) (h3:numX P main lp ops k Q (fun a' H'=>(k∈ts∨(S H->S H'))/\Ajz P main lp ops Q S ts r a' H') a H):Ajz P main lp ops Q S ts (.three i p j q k r) a H:=⟨h1,h2,h3⟩
end
end Go.X
end
section
namespace Go.X
open Go
theorem Ayc {α:Type} (f:α->List Value) (n:Nat) (hn:0<n):∀(L:List α),(∀x∈L,(f x).length=n)->∀j:Nat,(L.flatMap f)[j]?=(L[j/n]?).bind fun x=>(f x)[j%n]?
 | [],_,j=>by simp
 | x::L,h,j=>by
  rw [List.flatMap_cons]
  have hx:=h x List.mem_cons_self
  by_cases hj:j<n
  ·rw [List.getElem?_append_left (by omega),Nat.div_eq_of_lt hj,Nat.mod_eq_of_lt hj]
   rfl
  ·rw [List.getElem?_append_right (by omega),hx,Ayc f n hn L (fun y hy=>h y (List.mem_cons_of_mem _ hy))]
   have h1:j/n=(j-n)/n+1:=by
    rw [Nat.div_eq_sub_div hn (by omega)]
   have h2:j%n=(j-n)%n:=by
    rw [Nat.mod_eq_sub_mod (by omega)]
   rw [h1,h2,List.getElem?_cons_succ]
theorem Avj {α:Type} (f:α->List Value) (n:Nat):∀(L:List α),(∀x∈L,(f x).length=n)->(L.flatMap f).length=L.length*n
 | [],_=>by simp
 | x::L,h=>by
  rw [List.flatMap_cons,List.length_append,h x List.mem_cons_self,Avj f n L (fun y hy=>h y (List.mem_cons_of_mem _ hy)),List.length_cons,Nat.succ_mul,Nat.add_comm]
end Go.X
namespace Go.Proofs.YtaehjjbekjglkaaGreatDoor
open Go Go.X
def bdC (b:Bd):List Value:=[.int .i64 b.lo,.int .i64 b.hi,.bool b.some]
def Axv (x:Hint):List Value:=x.bs.flatMap bdC++(ints x.first++[.bool x.some])
def Axc (t:Trail):List Value:=.int .i64 t.ham::t.hs.flatMap Axv
structure Axo (x:Hint):Prop where
 b:x.bs.length=6
 f:x.first.length=6
structure Ax3 (t:Trail):Prop where
 l:t.hs.length=13
 k:∀x∈t.hs,Axo x
theorem Ax0 {x:Hint} (h:Axo x):(Axv x).length=25:=by
 unfold Axv
 rw [List.length_append,List.length_append,Avj bdC 3 _ (fun _ _=>rfl),Aqz,h.b,h.f]
 rfl
theorem Axt {t:Trail} (h:Ax3 t):(Axc t).length=326:=by
 unfold Axc
 rw [List.length_cons,Avj Axv 25 _ (fun x hx=>Ax0 (h.k x hx)),h.l]
theorem Bza (x:Hint):∀v∈Axv x,one v=true:=by
 intro v hv
 unfold Axv at hv
 rw [List.mem_append,List.mem_append] at hv
 rcases hv with hv | hv | hv
 ·obtain ⟨b,_,hb⟩:=List.mem_flatMap.1 hv
  simp only [bdC,List.mem_cons,List.not_mem_nil,or_false] at hb
  rcases hb with rfl | rfl | rfl<;>rfl
 ·exact Bxm _ v hv
 ·simp only [List.mem_singleton] at hv
  subst hv;rfl
theorem Bqt (t:Trail):∀v∈Axc t,one v=true:=by
 intro v hv
 unfold Axc at hv
 rcases List.mem_cons.1 hv with rfl | hv
 ·rfl
 ·obtain ⟨x,_,hx⟩:=List.mem_flatMap.1 hv
  exact Bza x v hx
theorem Awn {x:Hint} (h:Axo x):∃b0 b1 b2 b3 b4 b5 f0 f1 f2 f3 f4 f5 s,x=⟨[b0,b1,b2,b3,b4,b5],[f0,f1,f2,f3,f4,f5],s⟩:=by
 obtain ⟨bs,fs,s⟩:=x
 obtain ⟨hb,hf⟩:=h
 simp only at hb hf
 match bs,hb with
 | [b0,b1,b2,b3,b4,b5],_=>
  match fs,hf with
  | [f0,f1,f2,f3,f4,f5],_=>exact ⟨b0,b1,b2,b3,b4,b5,f0,f1,f2,f3,f4,f5,s,rfl⟩
theorem Cxm {x:Hint} (h:Axo x):(Axv x)[24]?=some (.bool x.some):=by
 obtain ⟨b0,b1,b2,b3,b4,b5,f0,f1,f2,f3,f4,f5,s,rfl⟩:=Awn h
 rfl
theorem Ay0 {x:Hint} (h:Axo x) {p:Nat} {b:Bd} (hb:x.bs[p]?=some b):(Axv x)[p*3]?=some (.int .i64 b.lo)/\(Axv x)[p*3+1]?=some (.int .i64 b.hi)/\(Axv x)[p*3+2]?=some (.bool b.some):=by
 have hp:p<6:=by have:=(List.getElem?_eq_some_iff.1 hb).1;rw [h.b] at this;exact this
 obtain ⟨b0,b1,b2,b3,b4,b5,f0,f1,f2,f3,f4,f5,s,rfl⟩:=Awn h
 rcases (by omega:p=0∨p=1∨p=2∨p=3∨p=4∨p=5) with rfl | rfl | rfl | rfl | rfl | rfl<;>(cases hb;exact ⟨rfl,rfl,rfl⟩)
theorem Ck6 {x:Hint} (h:Axo x) {p:Nat} (hp:p<6) (b:Bd):Axv ⟨x.bs.set p b,x.first,x.some⟩=(((Axv x).set (p*3) (.int .i64 b.lo)).set (p*3+1) (.int .i64 b.hi)).set (p*3+2) (.bool b.some):=by
 obtain ⟨b0,b1,b2,b3,b4,b5,f0,f1,f2,f3,f4,f5,s,rfl⟩:=Awn h
 rcases (by omega:p=0∨p=1∨p=2∨p=3∨p=4∨p=5) with rfl | rfl | rfl | rfl | rfl | rfl<;>rfl
theorem Byu {x:Hint} (h:Axo x) {d:List Int} (hd:d.length=6) (s:Bool) (k:Nat):(Axv ⟨x.bs,d,s⟩)[k]?=if k<18 then (Axv x)[k]? else if k<24 then (ints d)[k-18]? else if k=24 then some (.bool s) else none:=by
 have hl:(x.bs.flatMap bdC).length=18:=by rw [Avj bdC 3 _ (fun _ _=>rfl),h.b]
 unfold Axv
 simp only
 by_cases h1:k<18
 ·rw [if_pos h1,List.getElem?_append_left (by omega),List.getElem?_append_left (by omega)]
 ·rw [if_neg h1,List.getElem?_append_right (by omega),hl]
  by_cases h2:k<24
  ·rw [if_pos h2,List.getElem?_append_left (by rw [Aqz];omega)]
  ·rw [if_neg h2,List.getElem?_append_right (by rw [Aqz];omega),Aqz,hd]
   by_cases h3:k=24
   ·subst h3;rfl
   ·rw [if_neg h3,List.getElem?_eq_none (by simp;omega)]
structure HR (c c0:Array Value) (o:Nat) (x:Hint):Prop where
 size:c.size=c0.size
 out:∀i,i<o∨o+25<=i->c[i]?=c0[i]?
 inn:∀k,k<25->c[o+k]?=(Axv x)[k]?
theorem HR.bd {c c0:Array Value} {o:Nat} {x:Hint} (h:HR c c0 o x) (hx:Axo x) {p:Nat} {b:Bd} (hb:x.bs[p]?=some b):BdC c (o+p*3) b:=by
 have hp:p<6:=by have:=(List.getElem?_eq_some_iff.1 hb).1;rw [hx.b] at this;exact this
 obtain ⟨h1,h2,h3⟩:=Ay0 hx hb
 refine ⟨?_,?_,?_⟩
 ·rw [h.inn _ (by omega),h1]
 ·rw [Nat.add_assoc,h.inn _ (by omega),h2]
 ·rw [Nat.add_assoc,h.inn _ (by omega),h3]
theorem HR.sm {c c0:Array Value} {o:Nat} {x:Hint} (h:HR c c0 o x) (hx:Axo x):c[o+24]?=some (.bool x.some):=by
 rw [h.inn 24 (by omega),Cxm hx]
theorem HR.add {c c0:Array Value} {o:Nat} {x:Hint} (h:HR c c0 o x) (hx:Axo x) (hs:o+25<=c0.size) {p:Nat} (hp:p<6) (b:Bd):HR (Bz7 c (o+p*3) b) c0 o ⟨x.bs.set p b,x.first,x.some⟩:=by
 have hsz:o+p*3+2<c.size:=by rw [h.size];omega
 refine ⟨by rw [Czc];exact h.size,fun i hi=>?_,fun k hk=>?_⟩
 ·rw [Ayv hsz,if_neg (by omega),if_neg (by omega),if_neg (by omega)]
  exact h.out i hi
 ·have hl:=Ax0 hx
  rw [Ayv hsz,Ck6 hx hp,h.inn k hk]
  simp only [List.getElem?_set,List.length_set,hl]
  by_cases e2:k=p*3+2
  ·rw [if_neg (by omega),if_neg (by omega),if_pos (by omega),if_pos e2.symm,if_pos (by omega)]
  ·rw [if_neg (Ne.symm e2)]
   by_cases e1:k=p*3+1
   ·rw [if_neg (by omega),if_pos (by omega),if_pos e1.symm,if_pos (by omega)]
   ·rw [if_neg (Ne.symm e1)]
    by_cases e0:k=p*3
    ·rw [if_pos (by omega),if_pos e0.symm,if_pos (by omega)]
    ·rw [if_neg (by omega),if_neg (by omega),if_neg (by omega),if_neg (Ne.symm e0)]
theorem HR.set1 {c c0:Array Value} {o:Nat} {x:Hint} (h:HR c c0 o x) (hx:Axo x) (hs:o+25<=c0.size) {d:List Int} (hd:d.length=6):HR (over (c.setIfInBounds (o+24) (.bool true)) (o+18) (ints d)) c0 o ⟨x.bs,d,true⟩:=by
 have hsz:(c.setIfInBounds (o+24) (.bool true)).size=c0.size:=by rw [Array.size_setIfInBounds,h.size]
 refine ⟨by rw [Azo];exact hsz,fun i hi=>?_,fun k hk=>?_⟩
 ·by_cases hi2:i<c0.size
  ·rw [Ajt i (by rw [hsz];exact hi2),if_neg (by rw [Aqz,hd];omega),Array.getElem?_setIfInBounds,if_neg (by omega)]
   exact h.out i hi
  ·rw [Array.getElem?_eq_none (by rw [Azo,hsz];omega),Array.getElem?_eq_none (by omega)]
 ·rw [Ajt (o+k) (by rw [hsz];omega),Byu hx hd,Aqz,hd]
  by_cases h1:k<18
  ·rw [if_neg (by omega),if_pos h1,Array.getElem?_setIfInBounds,if_neg (by omega),h.inn k hk]
  ·rw [if_neg h1]
   by_cases h2:k<24
   ·rw [if_pos (by omega),if_pos h2,show o+k-(o+18)=k-18 by omega]
    simp [List.getD,List.getElem?_eq_getElem (show k-18<(ints d).length by rw [Aqz];omega)]
   ·obtain rfl:k=24:=by omega
    rw [if_neg (by omega),if_neg h2,if_pos rfl,Array.getElem?_setIfInBounds,if_pos rfl,if_pos (by rw [h.size];omega)]
theorem HR.refl {t:Trail} (ht:Ax3 t) {h:Nat} {x:Hint} (hx:t.hs[h]?=some x):HR (Axc t).toArray (Axc t).toArray (1+h*25) x:=by
 refine ⟨rfl,fun _ _=>rfl,fun k hk=>?_⟩
 simp only [List.getElem?_toArray]
 unfold Axc
 rw [show 1+h*25+k=(h*25+k)+1 by omega,List.getElem?_cons_succ,Ayc Axv 25 (by omega) _ (fun x hx=>Ax0 (ht.k x hx)),show (h*25+k)/25=h by omega,show (h*25+k)%25=k by omega,hx]
 rfl
theorem HR.done {t:Trail} (ht:Ax3 t) {h:Nat} (hh:h<13) {x:Hint} (hxo:Axo x) {c:Array Value} (hc:HR c (Axc t).toArray (1+h*25) x):c=(Axc ⟨t.ham,t.hs.set h x⟩).toArray:=by
 have hl:=Axt ht
 have ht2:Ax3 ⟨t.ham,t.hs.set h x⟩:=⟨by simp [ht.l],fun y hy=>by
  rcases List.mem_or_eq_of_mem_set hy with h | h
  ·exact ht.k y h
  ·subst h;exact hxo⟩
 apply Array.ext_getElem?
 intro i
 by_cases hi:1+h*25<=i/\i<1+h*25+25
 ·have h1:=hc.inn (i-(1+h*25)) (by omega)
  rw [show 1+h*25+(i-(1+h*25))=i by omega] at h1
  rw [h1]
  simp only [List.getElem?_toArray]
  unfold Axc
  rw [show i=(h*25+(i-(1+h*25)))+1 by omega,List.getElem?_cons_succ,Ayc Axv 25 (by omega) _ (fun x hx=>Ax0 (ht2.k x hx)),show (h*25+(i-(1+h*25)))/25=h by omega,show (h*25+(i-(1+h*25)))%25=i-(1+h*25) by omega]
  simp only [List.getElem?_set_self (show h<t.hs.length by rw [ht.l];exact hh)]
  rw [show h*25+(i-(1+h*25))+1-(1+h*25)=i-(1+h*25) by omega]
  rfl
 ·rw [hc.out i (by omega)]
  simp only [List.getElem?_toArray]
  unfold Axc
  cases i with
  | zero=>rfl
  | succ i=>
   rw [List.getElem?_cons_succ,List.getElem?_cons_succ,Ayc Axv 25 (by omega) _ (fun x hx=>Ax0 (ht.k x hx)),Ayc Axv 25 (by omega) _ (fun x hx=>Ax0 (ht2.k x hx))]
   rw [List.getElem?_set_ne (by omega)]
theorem Bwt {t:Trail} (h:Ax3 t):(Axc t).toArray.extract 0 326=(Axc t).toArray:=by
 rw [List.extract_toArray,List.extract_eq_take_drop,List.drop_zero,List.take_of_length_le (by rw [Axt h];omega)]
theorem Aym {H:Hp} {b:Nat} {t:Trail} {c:Array Value} {e:TypeId} {K:Hp->Prop} (ht:Ax3 t) (hb:H b=some (true,.cells c e (0,0))) (hs:c.size=326):Akm H b 0 (Axc t) K=K (H.set b (.cells (Axc t).toArray e (0,0))):=by
 have hl:=Axt ht
 rw [Aj9 (c:=c) (e:=e) (by intro h;rw [h] at hl;simp at hl) hb]
 have ho:over c 0 (Axc t)=(Axc t).toArray:=by
  obtain ⟨l⟩:=c
  exact Ay6 (by simp at hs;omega)
 rw [ho]
 have h3:(Axc t).all one=true:=by rw [List.all_eq_true];exact Bqt t
 rw [h3]
 simp [hl,hs]
end Go.Proofs.YtaehjjbekjglkaaGreatDoor
end
section
namespace Go.Proofs.YtaehjjbekjglkaaGreatDoor
open Go Go.X
theorem Cxl:Axo Czx:=⟨rfl,rfl⟩
theorem Bqk {pl b:Int} {x:Hint} {tc:List Int×List Int} (h:Axo x) (ht:tc.1.length=6):Axo (Ajy pl b x tc):=by
 refine ⟨by simp [Ajy,h.b],?_⟩
 unfold Ajy
 simp only
 split
 ·exact h.f
 ·exact ht
theorem Bzb {pl b:Int}:∀(L:List (List Int×List Int)) (x:Hint),Axo x->(∀tc∈L,tc.1.length=6)->Axo (L.foldl (Ajy pl b) x)
 | [],_,h,_=>h
 | tc::L,x,h,ht=>Bzb L _ (Bqk h (ht tc List.mem_cons_self)) fun y hy=>ht y (List.mem_cons_of_mem _ hy)
theorem Cy7 {s:Sm} {L:List (List Int×List Int)} {b:Int} (h:∀tc∈L,tc.1.length=6):Axo (Cy6 s L b):=Bzb _ _ Cxl fun tc htc=>h tc (List.mem_filter.1 htc).1
theorem Cj9 {s:Sm} {L:List (List Int×List Int)} (h:∀tc∈L,tc.1.length=6) (ham:Int):Ax3 ⟨ham,byL s L⟩:=by
 refine ⟨by simp [byL],fun x hx=>?_⟩
 simp only [byL,List.mem_map] at hx
 obtain ⟨b,_,rfl⟩:=hx
 exact Cy7 h
def Azw (pl:Int) (tc:List Int×List Int) (lo b:Int) (hs:List Hint):List Hint:=hs.mapIdx fun i x=>if lo<=(i:Int)/\(i:Int)<b then Ajy pl i x tc else x
theorem Bjs (pl:Int) (tc:List Int×List Int) (lo b:Int) (hs:List Hint):(Azw pl tc lo b hs).length=hs.length:=by simp [Azw]
theorem Bjr {pl:Int} {tc:List Int×List Int} {lo b:Int} {hs:List Hint} {i:Nat} {x:Hint} (h:hs[i]?=some x):(Azw pl tc lo b hs)[i]?=some (if lo<=(i:Int)/\(i:Int)<b then Ajy pl i x tc else x):=by simp [Azw,h]
theorem Ayd (pl:Int) (tc:List Int×List Int) {lo b:Int} (h:b<=lo) (hs:List Hint):Azw pl tc lo b hs=hs:=by
 apply List.ext_getElem?
 intro i
 unfold Azw
 rw [List.getElem?_mapIdx]
 cases hs[i]? with
 | none=>rfl
 | some x=>rw [Option.map_some,if_neg (by omega)]
theorem Byw {pl:Int} {tc:List Int×List Int} {lo:Int} {b:Nat} {hs:List Hint} {x:Hint} (hx:hs[b]?=some x) (hlo:lo<=(b:Int)):Azw pl tc lo ((b:Int)+1) hs=(Azw pl tc lo b hs).set b (Ajy pl b x tc):=by
 apply List.ext_getElem?
 intro i
 have hl:b<(Azw pl tc lo b hs).length:=by rw [Bjs];exact (List.getElem?_eq_some_iff.1 hx).1
 by_cases h:i=b
 ·subst h
  rw [Bjr hx,List.getElem?_set_self hl,if_pos ⟨hlo,by omega⟩]
 ·rw [List.getElem?_set_ne (Ne.symm h)]
  unfold Azw
  rw [List.getElem?_mapIdx,List.getElem?_mapIdx]
  cases hs[i]? with
  | none=>rfl
  | some y=>
   simp only [Option.map_some,Option.some.injEq]
   by_cases h1:lo<=(i:Int)/\(i:Int)<(b:Int)
   ·rw [if_pos h1,if_pos (by omega)]
   ·rw [if_neg h1,if_neg (by omega)]
theorem Cw1 {s:Sm} {L:List (List Int×List Int)} {tc:List Int×List Int} {lo hi:Int} (h:begN s.noses tc.2 0 12=some (lo,hi)):byL s (L++[tc])=Azw s.places tc lo (hi+1) (byL s L):=by
 apply List.ext_getElem?
 intro i
 unfold Azw byL
 rw [List.getElem?_mapIdx,List.getElem?_map,List.getElem?_map]
 cases hr:(List.range 13)[i]? with
 | none=>rfl
 | some b=>
  obtain rfl:b=i:=by
   obtain ⟨_,h2⟩:=List.getElem?_eq_some_iff.1 hr
   rw [List.getElem_range] at h2
   exact h2.symm
  simp only [Option.map_some,Option.some.injEq]
  unfold Cy6
  rw [List.filter_append]
  have hf:fitB s.noses tc.2 (b:Int)=decide (lo<=(b:Int)/\(b:Int)<=hi):=by unfold fitB;rw [h]
  by_cases hin:lo<=(b:Int)/\(b:Int)<hi+1
  ·rw [if_pos hin]
   have:[tc].filter (fun tc=>fitB s.noses tc.2 (b:Int))=[tc]:=by simp [hf];omega
   rw [this,List.foldl_append]
   rfl
  ·rw [if_neg hin]
   have:[tc].filter (fun tc=>fitB s.noses tc.2 (b:Int))=[]:=by simp [hf];omega
   rw [this,List.append_nil]
theorem Cw0 {s:Sm} {L:List (List Int×List Int)} {tc:List Int×List Int} (h:begN s.noses tc.2 0 12=none):byL s (L++[tc])=byL s L:=by
 unfold byL
 congr 1
 funext b
 unfold Cy6
 rw [List.filter_append]
 have hf:fitB s.noses tc.2 (b:Int)=false:=by unfold fitB;rw [h]
 have:[tc].filter (fun tc=>fitB s.noses tc.2 (b:Int))=[]:=by simp [hf]
 rw [this,List.append_nil]
theorem Ck9 {pl:Int} {tc:List Int×List Int} (ht:tc.1.length=6) {lo b:Int} {hs:List Hint} {ham:Int} (h:Ax3 ⟨ham,hs⟩):Ax3 ⟨ham,Azw pl tc lo b hs⟩:=by
 refine ⟨by rw [Bjs];exact h.l,fun x hx=>?_⟩
 simp only [Azw,List.mem_mapIdx] at hx
 obtain ⟨i,hi,rfl⟩:=hx
 have:=h.k _ (List.getElem_mem hi)
 split
 ·exact Bqk this ht
 ·exact this
def Aw1 (pl b:Int) (x:Hint) (tc:List Int×List Int) (k:Nat):Hint:=⟨x.bs.mapIdx fun p w=>if p<k/\(p:Int)<pl then Bqg w (min 99 (b+gI tc.2 p)) else w,if x.some then x.first else tc.1,true⟩
theorem Bjq (pl b:Int) (x:Hint) (tc:List Int×List Int):Aw1 pl b x tc 0=⟨x.bs,if x.some then x.first else tc.1,true⟩:=by
 unfold Aw1
 congr 1
 apply List.ext_getElem?
 intro i
 rw [List.getElem?_mapIdx]
 cases x.bs[i]? with
 | none=>rfl
 | some w=>rw [Option.map_some,if_neg (by omega)]
theorem Ck8 {pl b:Int} {x:Hint} {tc:List Int×List Int} {k:Nat} {w:Bd} (h:x.bs[k]?=some w):(Aw1 pl b x tc k).bs[k]?=some w:=by
 unfold Aw1
 simp only
 rw [List.getElem?_mapIdx,h,Option.map_some,if_neg (by omega)]
theorem Czy {pl b:Int} {x:Hint} {tc:List Int×List Int} {k:Nat} {w:Bd} (h:x.bs[k]?=some w) (hk:(k:Int)<pl):Aw1 pl b x tc (k+1)=⟨(Aw1 pl b x tc k).bs.set k (Bqg w (min 99 (b+gI tc.2 k))),(Aw1 pl b x tc k).first,(Aw1 pl b x tc k).some⟩:=by
 have hl:k<x.bs.length:=(List.getElem?_eq_some_iff.1 h).1
 unfold Aw1
 congr 1
 apply List.ext_getElem?
 intro i
 by_cases e:i=k
 ·subst e
  rw [List.getElem?_mapIdx,h,Option.map_some,if_pos ⟨by omega,hk⟩,List.getElem?_set_self (by simpa using hl)]
 ·rw [List.getElem?_set_ne (Ne.symm e),List.getElem?_mapIdx,List.getElem?_mapIdx]
  cases x.bs[i]? with
  | none=>rfl
  | some y=>
   simp only [Option.map_some,Option.some.injEq]
   by_cases h1:i<k/\(i:Int)<pl
   ·rw [if_pos h1,if_pos (by omega)]
   ·rw [if_neg h1,if_neg (by omega)]
theorem Ck7 {pl b:Int} {x:Hint} {tc:List Int×List Int} {k:Nat} (hk:pl<=(k:Int)):Aw1 pl b x tc k=Ajy pl b x tc:=by
 unfold Aw1 Ajy
 congr 1
 apply List.ext_getElem?
 intro i
 rw [List.getElem?_mapIdx,List.getElem?_mapIdx]
 cases x.bs[i]? with
 | none=>rfl
 | some y=>
  simp only [Option.map_some,Option.some.injEq]
  by_cases h1:(i:Int)<pl
  ·rw [if_pos h1,if_pos ⟨by omega,h1⟩]
  ·rw [if_neg h1,if_neg (by omega)]
theorem Cxn {pl b:Int} {x:Hint} {tc:List Int×List Int} (h:Axo x) (ht:tc.1.length=6) (k:Nat):Axo (Aw1 pl b x tc k):=by
 refine ⟨by simp [Aw1,h.b],?_⟩
 unfold Aw1
 simp only
 split
 ·exact h.f
 ·exact ht
end Go.Proofs.YtaehjjbekjglkaaGreatDoor
end
section
namespace Go.Proofs.YtaehjjbekjglkaaGreatDoor
open Go Go.X Go.Proofs.Tryz
def Cqw:=aN @Dw9 @Bke
theorem Akc (main:Md) (H:Hp) (pl:Int) (da:Option Addr) (dn dc:Nat) (ha:Option Addr) (hn kc:Nat) (na:Option Addr) (nn nc:Nat) :
  FnX Tryz.prog main 52 #[smV pl (.slice da dn dc) (.slice ha hn kc) (.slice na nn nc)] H fun e H'=>∃hb mb,e=.returned (.pointer (some ⟨hb,0,none⟩))/\H' hb=some (true,hsO pl (.slice da dn dc) (.slice ha hn kc) (.slice na nn nc) mb)/\H' mb=some (true,.map #[] 0)/\H hb=none/\H mb=none/\H.le H':=by
 refine Aqn func52 rfl ntmps52 (by simp) ?_
 (refine @unH _ (zA Cqw ?_);(try clear hK K);intro K hK hc)
 (intro sb hsb;generalize hG:Hp.set _ sb _=H1;have lH1:=Aqc hG hsb;have vsb:=Aqb hG;clear hG)
 (refine @unH _ (zU Cqw ?_);(try clear hK K);intro K hK hc)
 intro mb hmb hb hhb
 replace hhb:(Hp.set H1 mb (.map #[] 0)) hb=none:=hhb
 generalize hG:Hp.set H1 mb _=H2 at hhb ⊢
 have lH2:=Aqc hG hmb
 have vmb:=Aqb hG
 clear hG
 generalize hG:Hp.set H2 hb _=H3
 have lH3:=Aqc hG hhb
 have vhb:=Aqb hG
 clear hG
 (refine @unH _ (zU Cqw ?_);(try clear hK K);intro K hK hc)
 (refine @unH _ ?_;refine z9 results52 ?_)
 exact ⟨hb,mb,rfl,vhb,lH3 _ _ vmb,Hp.le_none (Hp.le_trans lH1 lH2) hhb,Hp.le_none lH1 hmb,Hp.le_trans lH1 (Hp.le_trans lH2 lH3)⟩
def FolS (H3:Hp) (sb ib rb:Nat) (pl:Int) (dv hv nv:Value) (t0:Trail) (e:Nat->Value) (H':Hp):Prop:=
 ∃hb mb pb tb,e 2=.pointer (some ⟨sb,0,none⟩)/\e 3=.pointer (some ⟨ib,0,none⟩)/\e 4=.pointer (some ⟨rb,0,none⟩)/\e 5=.pointer (some ⟨pb,0,none⟩)/\e 6=.pointer (some ⟨tb,0,none⟩)/\H3.le H'/\(H3 hb=none/\H3 mb=none/\H3 pb=none/\H3 tb=none) /\
  H' hb=some (true,hsO pl dv hv nv mb)/\H' mb=some (true,.map #[] 0)/\H' pb=some (true,.cells #[.pointer (some ⟨hb,0,none⟩)] 78 (0,0))/\H' tb=some (true,.cells (Axc t0).toArray 150 (0,0))
theorem Bye {H:Hp} (p:Int) (xs:List Int) (h:xs.length=6) (K:Value->Hp->Prop) (E:Value->Hp->Prop):wpS Tryz.prog (Instr.build 83 #[(0,.int .i64 p),(1,.agg (ints xs).toArray)]) H K E=K (.agg (.int .i64 p::ints xs).toArray) H:=by
 obtain ⟨x0,x1,x2,x3,x4,x5,rfl⟩:=Bzn xs h
 exact Akw H .i64 p .i64 x0 .i64 x1 .i64 x2 .i64 x3 .i64 x4 .i64 x5 K E
def RdS (Hb:Hp) (sb pb tb xb mb:Nat) (ds:List Dr) (c:List Int) (e:Nat->Value) (H':Hp):Prop:=
 ∃cb,e 2=.pointer (some ⟨sb,0,none⟩)/\e 5=.pointer (some ⟨pb,0,none⟩)/\e 6=.pointer (some ⟨tb,0,none⟩)/\e 7=.pointer (some ⟨xb,0,none⟩)/\e 8=.pointer (some ⟨cb,0,none⟩) /\
  H' cb=some (true,.cells (ints c).toArray 80 (0,0))/\Aje ds mb H'/\∀b x,b≠mb->Hb b=some x->H' b=some x
theorem SmIn.mv {H H':Hp} {dv hv nv:Value} {s:Sm} (h:SmIn H dv hv nv s) (hl:∀x p c t fr,(t=30∨t=3∨t=32)->H x=some (p,.cells c t fr)->H' x=some (p,.cells c t fr)):SmIn H' dv hv nv s:=
 ⟨h.dd.move fun x p c fr hx=>⟨p,hl x p c _ fr (.inl rfl) hx⟩,h.hh.move fun x p c fr hx=>hl x p c _ fr (.inr (.inl rfl)) hx,h.nn.move fun x p c fr hx=>⟨p,hl x p c _ fr (.inr (.inr rfl)) hx⟩⟩
def prF (s:Sm) (p:Int) (L:List (List Int)):List (List Int×List Int):=L.map fun t=>(t,Axk s.doors p t)
end Go.Proofs.YtaehjjbekjglkaaGreatDoor
end
