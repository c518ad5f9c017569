/- Texts SmS1 SmS2 SmS SmN. -/
import Derived.Test.YtaehjjbekjglkaaGreatDoorJ14
set_option linter.defProp false
set_option linter.unusedSimpArgs false
set_option linter.unusedVariables false
set_option maxRecDepth 100000
set_option maxHeartbeats 2000000
section
namespace Go.X
open Go
section
variable {P:Program} {κ:Type} [DecidableEq κ] {enc:κ->Value} {ks:TypeId}
theorem Bx7 (h:KeyT P ks enc) {ok:κ->Prop} {F:κ->Value} {clock:Nat} (a:κ) :
  ∀(es:List MapEntry) (i:Nat),MapG enc ok F clock es->∃r:Option (Nat×Value),(∀j v,r=some (j,v)->i<=j/\v=F a/\∃e,es[j-i]?=some e/\e.key=enc a) /\
   ∀(H:Hp) (K:Option (Nat×Value)->Hp->Prop) (E:Value->Hp->Prop),K r H->wpS P (Instr.findAsking ks (enc a) es i) H K E
 | [],i,_=>⟨none,fun j v h=>(by cases h),fun H K E hk=>hk⟩
 | e::es,i,hm=>by
  obtain ⟨c,_,hke,hve,_⟩:=hm e List.mem_cons_self
  unfold Instr.findAsking
  by_cases hq:a=c
  ·subst hq
   refine ⟨some (i,e.val),fun j v hj=>?_,fun H K E hK=>?_⟩
   ·cases hj
    exact ⟨Nat.le_refl _,hve,e,by simp,hke⟩
   ·rw [Aqa,hke,h.eq]
    simp only [decide_true,if_true,Aqf]
    exact hK
  ·obtain ⟨r,hr,hk⟩:=Bx7 h a es (i+1) (fun e he=>hm e (List.mem_cons_of_mem _ he))
   refine ⟨r,fun j v hj=>?_,fun H K E hK=>?_⟩
   ·obtain ⟨h1,h2,e',h3,h4⟩:=hr j v hj
    refine ⟨by omega,h2,e',?_,h4⟩
    rw [show j-i=(j-(i+1))+1 by omega,List.getElem?_cons_succ]
    exact h3
   ·rw [Aqa,hke,h.eq]
    simp only [hq,decide_false,Bool.false_eq_true,if_false]
    exact hk H K E hK
theorem Dz9 {mt vt:TypeId} {z:Value} (hu:P.underlying mt=some (.map ks vt)) (h:KeyT P ks enc) (hz:∀w,(zeroValue vt).run P w=.ok z w) {ok:κ->Prop} {F:κ->Value} (a:κ)
  {es:Array MapEntry} {clock:Nat} (hm:MapG enc ok F clock es.toList):∃v met,(met=true->v=F a)/\(met=false->v=z)/\∀(mb:Nat) (p:Bool) (H:Hp),H mb=some (p,.map es clock)->∀(K:Value->Hp->Prop) (E:Value->Hp->Prop),
   K (.tuple #[v,.bool met]) H->wpS P (Instr.lookup mt (.map (some mb)) (enc a) true) H K E:=by
 obtain ⟨d,hud,hd⟩:=h.un
 obtain ⟨r,hr,hk'⟩:=Bx7 h a es.toList 0 hm
 have hk2:∀(H:Hp) (K:Option (Nat×Value)->Hp->Prop) (E:Value->Hp->Prop),K r H->wpS P (Instr.findKey ks (enc a) es.toList) H K E:=fun H K E hK=>by
  cases hes:es.toList with
  | nil=>
   rw [hes] at hr hk'
   have hr0:r=none:=by
    cases r with
    | none=>rfl
    | some q=>
     obtain ⟨j,v⟩:=q
     obtain ⟨_,_,e,he,_⟩:=hr j v rfl
     simp at he
   subst hr0
   unfold Instr.findKey
   rw [Aqa,Aqj hud]
   exact hK
  | cons e es'=>
   have hmem:e∈es.toList:=by rw [hes];exact List.mem_cons_self
   obtain ⟨c,_,hke,hve,_⟩:=hm e hmem
   unfold Instr.findKey
   rw [Aqa,Aqj hud]
   simp only [Instr.findNow,hke,hd]
   rw [<-hes]
   exact hk' H K E hK
 have step:∀(mb:Nat) (p:Bool) (H:Hp),H mb=some (p,.map es clock)->∀(K:Value->Hp->Prop) (E:Value->Hp->Prop),(match r with | some (_,v)=>K (.tuple #[v,.bool true]) H | none=>K (.tuple #[z,.bool false]) H)->wpS P (Instr.lookup mt (.map (some mb)) (enc a) true) H K E:=fun mb p H hb K E hK=>by
  unfold Instr.lookup
  simp only [Aqa,Aqj hu]
  refine ⟨p,_,hb,rfl,rfl,?_⟩
  simp only [Akq,Aqf,Aqa,h.ck]
  refine hk2 H _ _ ?_
  cases r with
  | none=>
   simp only [Aqa,Axe hz,Aqf,if_true]
   exact hK
  | some q=>
   obtain ⟨j,v⟩:=q
   simp only [Aqf,if_true]
   exact hK
 cases r with
 | none=>exact ⟨z,false,by simp,fun _=>rfl,fun mb p H hb K E hK=>step mb p H hb K E hK⟩
 | some q=>
  obtain ⟨j,v⟩:=q
  exact ⟨v,true,fun _=>(hr j v rfl).2.1,by simp,fun mb p H hb K E hK=>step mb p H hb K E hK⟩
end
theorem Aze {H:Hp} {b b':Nat} {p p':Bool} {c c':Array Value} {t t':TypeId} {f f':Nat×Nat} (h:H b=some (p,.cells c t f)) (h':H b'=some (p',.cells c' t' f')) (hn:t≠t'):b≠b':=fun e=>by
 rw [e,h'] at h
 simp only [Option.some.injEq,Prod.mk.injEq,Obj.cells.injEq] at h
 exact hn h.2.2.1.symm
theorem Cxg {P:Program} {H:Hp} {t:TypeId} (h:P.eqGuardType P.depth t=false) (op:BinOp) (x y:Operand) (p q:Array Value) (K:Unit->Hp->Prop) (E:Value->Hp->Prop):wpS P (eqGuard op t x y (.agg p) (.agg q)) H K E=K () H:=by
 unfold eqGuard
 cases op<;>first | rfl | (simp only [Aqa,Ajr,h,Bool.not_false,if_true];first | rfl | (simp [Aqa,Ajr,h,Aqf];done))
end Go.X
namespace Go.Proofs.YtaehjjbekjglkaaGreatDoor
open Go Go.X Go.Proofs.Tryz
def Bq4 (q:Option (Bool×Obj)) (H:Hp) (b:Nat) (c:List Int) (K:Hp->Prop):Prop:=match q with
 | some (true,.cells d e f)=>if f=(0,0)/\d.size=c.length/\c.length≠0 then K (H.set b (.cells (ints c).toArray e (0,0))) else Akm H b 0 (ints c) K
 | _=>Akm H b 0 (ints c) K
theorem Avq {H:Hp} {b:Nat} {c:List Int} {K:Hp->Prop}:Akm H b 0 (ints c) K=Bq4 (H b) H b c K:=by
 rcases hb:H b with _ | ⟨p,ob⟩
 ·rfl
 ·cases p
  ·rfl
  ·cases ob<;>try rfl
   rename_i d e f
   simp only [Bq4]
   split
   ·rename_i hf
    obtain ⟨rfl,h1,h2⟩:=hf
    rw [Aj9 (c:=d) (e:=e) (by intro h;rw [<-Aqz c,h] at h2;exact h2 rfl) hb]
    have ho:over d 0 (ints c)=(ints c).toArray:=by
     obtain ⟨l⟩:=d
     exact Ay6 (by simp at h1;rw [Aqz];omega)
    rw [ho]
    have h3:(ints c).all one=true:=by rw [List.all_eq_true];exact Bxm c
    rw [h3,Aqz,<-h1]
    simp
   ·rfl
theorem Bzs {H:Hp} {d:Array Value} {e:TypeId} {b:Nat} {c:List Int} {K:Hp->Prop}:Bq4 (some (true,.cells d e (0,0))) H b c K=if d.size=c.length/\c.length≠0 then K (H.set b (.cells (ints c).toArray e (0,0))) else Akm H b 0 (ints c) K:=by
 simp [Bq4]
theorem Aj7 {H:Hp} {v0 v1 v2 v3 v4 v5:Value} {e:TypeId} {b:Nat} {c:List Int} {K:Hp->Prop} (h:c.length=6):Bq4 (some (true,.cells #[v0,v1,v2,v3,v4,v5] e (0,0))) H b c K=K (H.set b (.cells (ints c).toArray e (0,0))):=by
 rw [Bzs,if_pos (by rw [h];exact ⟨rfl,by decide⟩)]
theorem Aj8 {H:Hp} {c':List Int} {e:TypeId} {b:Nat} {c:List Int} {K:Hp->Prop} (h:c.length=6) (h':c'.length=6):Bq4 (some (true,.cells (ints c').toArray e (0,0))) H b c K=K (H.set b (.cells (ints c).toArray e (0,0))):=by
 rw [Bzs,if_pos (by rw [List.size_toArray,Aqz,h,h'];exact ⟨rfl,by decide⟩)]
@[congr] theorem storIK_congr {q q':Option (Bool×Obj)} {H H':Hp} {b b':Nat} {c c':List Int} {K:Hp->Prop} (hq:q=q') (hH:H=H') (hb:b=b') (hc:c=c'):Bq4 q H b c K=Bq4 q' H' b' c' K:=by subst hq hH hb hc;rfl
theorem Ajk {c:List Int} (h:c.length=6):(ints c).toArray.extract 0 6=(ints c).toArray:=by
 rw [List.extract_toArray,List.extract_eq_take_drop,List.drop_zero,List.take_of_length_le (by rw [Aqz];omega)]
theorem Av6 {c:List Int} (h:c.length=6) {p:Int} (h0:0<=p) (h1:p<6):(ints c)[p.toNat]?=some (.int .i64 (gI c p)):=Aj6 (Av4 h0 (by omega))
theorem K7.key:KeyT Tryz.prog 83 K7.enc:=Dvg ⟨⟨_,_,_,underlying83,by decide,by decide,rfl,rfl,underlying77,sizeOf77,⟨_,underlying3⟩,sizeOf3,⟨_,underlying3⟩⟩,by kernel_rfl⟩
def wayK (p:Int) (ts:List Int) (h:ts.length=6):K7:=⟨p::ts,by simp [h]⟩
def Cv0 (ds:List Dr) (k:K7):Value:=.agg (ints (Axk ds (k.1.headD 0) (k.1.drop 1))).toArray
def Aje (ds:List Dr) (mb:Nat) (H:Hp):Prop:=∃es clock,H mb=some (true,.map es clock)/\MapG K7.enc (fun _=>True) (Cv0 ds) clock es.toList
theorem Aje.le {ds:List Dr} {mb:Nat} {H H':Hp} (h:Aje ds mb H) (hl:H.le H'):Aje ds mb H':=by
 obtain ⟨es,clock,h1,h2⟩:=h
 exact ⟨es,clock,hl _ _ h1,h2⟩
abbrev hsO (pl:Int) (dv hv nv:Value) (mb:Nat):Obj:=.cells #[.int .i64 pl,dv,hv,nv,.map (some mb)] 140 (0,0)
theorem Bzk:∀(ds:List Dr) (ts c:List Int) (k:Nat) (d:Dr) (t:Int),ds[k]?=some d->ts[k]?=some t->Ajg (ds.take (k+1)) ts c=Akk (Ajg (ds.take k) ts c) d t
 | d'::ds,t'::ts,c,0,d,t,h1,h2=>by
  simp at h1 h2
  subst h1 h2
  simp [Ajg]
 | d'::ds,t'::ts,c,k+1,d,t,h1,h2=>by
  simp only [List.take_succ_cons,Ajg]
  exact Bzk ds ts _ k d t (by simpa using h1) (by simpa using h2)
 | [],_,_,_,_,_,h1,_=>by simp at h1
 | _::_,[],_,_,_,_,_,h2=>by simp at h2
theorem Cq3:∀ {ds:List Dr} {ts:List Int} {k:Nat} {a b n:Int},Edg (ds.take k) ts a b n->Edg ds ts a b n
 | [],ts,k,a,b,n,h=>by cases k<;>simp [Edg] at h
 | d::ds,ts,0,a,b,n,h=>by simp [Edg] at h
 | d::ds,[],k+1,a,b,n,h=>by simp [Edg] at h
 | d::ds,t::ts,k+1,a,b,n,h=>by
  rcases h with h | h
  ·exact .inl h
  ·exact .inr (Cq3 h)
theorem Aj4.le99 {E:Int->Int->Int->Prop} {pl p:Int} {c:List Int} (h:Aj4 E pl p c) {q:Int} (h0:0<=q) (h1:q<6):0<=gI c q/\gI c q<=99:=by
 have:=h.pos q h0 h1
 rcases h.att q h0 h1 with h2 | h2<;>omega
theorem Bjp:(Tryz.prog).eqGuardType (Tryz.prog).depth 80=false:=by kernel_rfl
theorem Cxv {H:Hp} (l l':List Int) (hl:l.length=6) (hl':l'.length=6) (K:Value->Hp->Prop) (E:Value->Hp->Prop):wpS Tryz.prog (binOp .neq 80 (.agg (ints l).toArray) (.agg (ints l').toArray)) H K E=K (.bool (decide (l≠l'))) H:=
 Bvq underlying80 underlying3 sizeOf3 l l' hl hl' K E
end Go.Proofs.YtaehjjbekjglkaaGreatDoor
end
section
namespace Go.X
open Go
def sdC:Code->Code
 | .seq _ y=>y
 | c=>c
def scC:Code->Code
 | .scope c=>c
 | c=>c
theorem Dkq {c:Code} {I:Nat->Act->Hp->Prop} {Q:Exit->Act->Hp->Prop} {l:Nat} {a:Act} {H:Hp} (h:(findLabel c l).isSome=true):scp c I Q (.goto l) a H=I l a H:=by
 simp [scp,h]
theorem Bwj {c:Code} {I I':Nat->Act->Hp->Prop} {Q Q':Exit->Act->Hp->Prop} (hI:∀l a H,I l a H->I' l a H) (hQ:∀e a H,Q e a H->Q' e a H):∀ {e:Exit} {a:Act} {H:Hp},scp c I Q e a H->scp c I' Q' e a H
 | .normal,_,_,h=>hQ _ _ _ h
 | .exit _,_,_,h=>hQ _ _ _ h
 | .ret,_,_,h=>hQ _ _ _ h
 | .panic _,_,_,h=>hQ _ _ _ h
 | .outgrown,_,_,h=>h
 | .goto l,a,H,h=>by
  simp only [scp] at h ⊢
  split
  ·rename_i hs
   rw [if_pos hs] at h
   exact hI _ _ _ h
  ·rename_i hs
   rw [if_neg hs] at h
   exact hQ _ _ _ h
end Go.X
namespace Go.Proofs.YtaehjjbekjglkaaGreatDoor
open Go Go.X Go.Proofs.Tryz
def Azu:=aN @Dy3 (aN @Dwf (aN @Dwx (aN @Dyf (aN @Dym (aN @Dye (aN @Dv3 (aN @Dy5 (aN @Dwu (aN @Dw2 (aN @Dwe (aN @Dwj (aN @Dwz (aN @Dv4 (aN @Dyo (aN @Dyb (aN @Dyz (aN @Dyj (aN @Dwo (aN @Dwp (aN @Dwv (aN @Dv2 (aN @Azx @Ckb))))))))))))))))))))))
theorem Dk4 {p q:Prop} (g:q) (h:Hid q->p:=by
 intro g
 repeat' (first
 | (refine Axz rfl ?_;intro Kz hKz;simp -implicitDefEqProofs (disch:=first | omega | (simp only [qd]<;>omega)) only [xq,↓xp,qc,Nat.reduceAdd,List.range,List.range.loop,fine,Nat.reduceEqDiff,↓reduceIte,yielded,reduceCtorEq,Nat.reduceLT,Nat.reduceMul,Nat.reduceSub,one,Nat.reduceLeDiff,Aqg,Azu,aq,↓ap,qe0,qe1,qe2, *,-g,-hKz,Cxg Bjp];try (refine hKz _ _ ?_;clear hKz Kz))
 | (refine Azq rfl ?_;intro Kz hKz;simp -implicitDefEqProofs (disch:=first | omega | (simp only [qd]<;>omega)) only [xq,↓xp,qc,Nat.reduceAdd,List.range,List.range.loop,fine,Nat.reduceEqDiff,↓reduceIte,yielded,reduceCtorEq,Nat.reduceLT,Nat.reduceMul,Nat.reduceSub,one,Nat.reduceLeDiff,Aqg,Azu,aq,↓ap,qe0,qe1,qe2, *,-g,-hKz,Cxg Bjp];try (refine hKz _ _ ?_;clear hKz Kz;(try simp only [nq,↓reduceIte,Nat.reduceEqDiff])))
 | (refine Aza ?_;(try simp only [nq,↓reduceIte,Nat.reduceEqDiff]))
 | (refine Azd ?_;(try simp only [nq,↓reduceIte,Nat.reduceEqDiff]))
 | (refine Az2 ?_;(try simp only [nq,↓reduceIte,Nat.reduceEqDiff]))
 | (refine Az9 ?_;(try simp only [nq,↓reduceIte,Nat.reduceEqDiff]))
 | (refine Azp (by simp only [Aq7,Axf,Nat.reduceEqDiff,Nat.reduceLT,↓reduceIte, *,-g];rfl) ?_ ?_<;>(intro hcz;first | (exfalso;simp -implicitDefEqProofs (disch:=omega) only [*,-g,bq,reduceCtorEq] at hcz;done) | (simp only [dq,qe3,qe4,qe5,qe6] at hcz) | skip))
 | (refine Azs ?_)
 | (refine Ax7 ?_)
 | (refine Axn ?_))
 refine unT ?_;(try (revert hcz;refine unC ?_));(repeat (revert hcz;refine unD ?_));first | revert Kz | refine unU ?_
 exact Hid.out g):Hid p:=⟨h ⟨g⟩⟩
structure SpH (H0:Hp) (hb wb rb nb mb:Nat) (pl:Int) (da:Option Addr) (dc:Nat) (hv nv:Value) (p:Int) (ts:List Int) (ds:List Dr):Prop where
 vh:∃q,H0 hb=some (q,hsO pl (.slice da ds.length dc) hv nv mb)
 vw:H0 wb=some (true,.cells ((.int .i64 p)::ints ts).toArray 83 (0,0))
 vr:H0 rb=some (true,.cells #[.int .i64 0,.int .i64 0,.int .i64 0,.int .i64 0,.int .i64 0,.int .i64 0] 80 (0,0))
 kn:Aje ds mb H0
 dd:SlD H0 (.slice da ds.length dc) ds
 vn0:∃c0,H0 nb=some (true,.cells c0 80 (0,0))
 nh:hb≠nb
 nw:wb≠nb
 nr:rb≠nb
 nm:mb≠nb
def SpI (H0:Hp) (hb wb rb nb mb:Nat) (pl:Int) (p:Int) (ts:List Int) (ds:List Dr) (l n:Nat) (a:Act) (H':Hp):Prop:=
 ∃e c,a=act 92 e []/\e 0=.pointer (some ⟨hb,0,none⟩)/\e 3=.pointer (some ⟨wb,0,none⟩)/\e 4=.pointer (some ⟨rb,0,none⟩)/\e 7=.pointer (some ⟨nb,0,none⟩) /\
  H' nb=some (true,.cells (ints c).toArray 80 (0,0))/\Lex (some nb) H0 H'/\Avp ds ts n c=Axk ds p ts/\Aj4 (Edg ds ts) pl p c/\sum6 c<n
theorem Bzp (main:Md) (H0:Hp) (hb wb rb nb mb:Nat) (pl:Int) (da:Option Addr) (dc:Nat) (hv nv:Value) (p:Int) (ts:List Int) (ds:List Dr) (hH:SpH H0 hb wb rb nb mb pl da dc hv nv p ts ds)
  (hp:pl<=6) (h0:0<=p) (h1:p<pl) (hd:Avx pl ds) (hl6:ds.length<=6) (hts:ts.length=6) (ht:TsOk ds ts) (R:Ending->Hp->Prop)
  (hR:Aqk (∀H',(∀b x,b≠mb->b≠nb->b≠rb->H0 b=some x->H' b=some x)->Aje ds mb H'->R (.returned (.agg (ints (Axk ds p ts)).toArray)) H'))
  (n:Nat) (a:Act) (H':Hp) (hI:SpI H0 hb wb rb nb mb pl p ts ds 0 n a H') :
  wpX Tryz.prog main none (sdC (sdC (sdC (sdC (sdC (scC (sdC ((Tryz.f53).body.getD .skip)))))))) (scp (scC (sdC ((Tryz.f53).body.getD .skip))) (fun l a H=>∃n',n'<n/\SpI H0 hb wb rb nb mb pl p ts ds l n' a H) (Bvs Tryz.prog main Tryz.f53 R)) a H':=by
 obtain ⟨e,c,rfl,e0,e3,e4,e7,vn,lx,hs,ok,hsum⟩:=hI
 show wpX _ _ _ (.seq _ _) _ _ _
 have hcl:=ok.len
 have hil:(ints c).length=6:=by rw [Aqz];exact hcl
 have hex:=Ajk hcl
 have htk:(ints c).take 6=ints c:=List.take_of_length_le (by omega)
 obtain ⟨q0,vh0⟩:=hH.vh
 have vh:=lx.keeps vh0 hH.nh
 simp only [hsO] at vh
 (refine @unH _ (zA Azu ?_);(try clear hK K);intro K hK hc)
 intro xb hxb
 have nxn:=Aqr vn hxb
 have h0x:=lx.gone hxb
 have nxh:=Aqr vh hxb
 (refine @unH _ (zU (aN Azu (aN @Avq (aN @Aj7 @Aj8))) ?_);(try clear hK K);intro K hK hc)
 generalize hG:Hp.set H' xb _=H2
 have vx:=Aqb hG
 have vn2:=Aqi hG vn nxn
 have lx2:=lx.le (Aqc hG hxb)
 have nxw:=Aqr (lx.keeps hH.vw hH.nw) hxb
 have nxr:=Aqr (lx.keeps hH.vr hH.nr) hxb
 obtain ⟨es,clock,vm0,hmap⟩:=hH.kn
 have nxm:=Aqr (lx.keeps vm0 hH.nm) hxb
 have vh2:=Aqi hG vh nxh
 have vw2:=Aqi hG (lx.keeps hH.vw hH.nw) nxw
 have vr2:=Aqi hG (lx.keeps hH.vr hH.nr) nxr
 have vm2:=Aqi hG (lx.keeps vm0 hH.nm) nxm
 obtain ⟨c0,vn0⟩:=hH.vn0
 have dd2:SlD H2 (.slice da ds.length dc) ds:=SlD.move hH.dd (fun x p c fr hx=>by
  have h1:=lx.keeps hx (fun e=>by rw [e,vn0] at hx;cases hx)
  exact ⟨p,Aqi hG h1 (Aqr h1 hxb)⟩)
 clear hG vm0 vn0 c0
 refine Axg (fun w a' H'=>∃e c',∃k:Nat,w=ds.length-k/\k<=ds.length/\a'=act 92 e []/\e 0=.pointer (some ⟨hb,0,none⟩)/\e 3=.pointer (some ⟨wb,0,none⟩)/\e 4=.pointer (some ⟨rb,0,none⟩)/\e 7=.pointer (some ⟨nb,0,none⟩)/\e 9=.pointer (some ⟨xb,0,none⟩) /\
  e 37=.slice da ds.length dc/\e 38=.int .i64 ds.length/\e 39=.int .i64 (k:Nat)/\H' xb=some (true,.cells (ints c').toArray 80 (0,0))/\Lex (some xb) H2 H'/\c'=Ajg (ds.take k) ts c) (n:=ds.length) ?_ ?_
 ·exact ⟨_,c,0,by omega,by omega,rfl,e0,e3,e4,e7,rfl,rfl,rfl,rfl,vx,Lex.refl,by simp [Ajg]⟩
 ·clear vh vn lx e0 e3 e4 e7 hxb hex htk
  rintro w a' H3 ⟨e,c',k,rfl,hk,rfl,e0,e3,e4,e7,e9,e37,e38,e39,vx3,lxx,hc'⟩
  by_cases hlt:k<ds.length
  ·obtain ⟨b,o,p',cd,fr,rfl,hb,hcs,hce⟩:=dd2.get (List.getElem?_eq_getElem hlt)
   have hdk:=hd _ (List.getElem_mem hlt)
   have hsn:=Bzk ds ts c k _ _ (List.getElem?_eq_getElem hlt) (List.getElem?_eq_getElem (show k<ts.length by omega))
   have htk:(Value.int .i64 p::ints ts)[1+k]?=some (.int .i64 (ts[k]'(by omega))):=by rw [Nat.add_comm,List.getElem?_cons_succ];exact Aj6 (List.getElem?_eq_getElem _)
   have ok':Aj4 (Edg ds ts) pl p c':=by
    rw [hc']
    exact (Aj4.all hp h0 (by omega) (fun _ _ _ h=>h.symm) (fun _ _ _ h=>(ht _ _ _ h).1) (ds.take k) ts (fun x hx=>hd x (List.mem_of_mem_take hx)) (fun _ _ _ h=>Cq3 h) ok).1
   obtain ⟨t1,t4⟩:=ht _ _ _ (Edg.of (List.getElem?_eq_getElem hlt) (List.getElem?_eq_getElem (show k<ts.length by omega)))
   generalize ds[k]=d at *
   generalize ts[k]'(by omega)=tk at *
   obtain ⟨a0,a1,b0,b1,dne,m0,m1,m2⟩:=hdk
   have hcl':c'.length=6:=by rw [hc',Aws];exact hcl
   obtain ⟨qa0,qa9⟩:=ok'.le99 a0 (by omega)
   obtain ⟨qb0,qb9⟩:=ok'.le99 b0 (by omega)
   clear ok'
   have hga:=Av6 hcl' a0 (by omega)
   have hgb:=Av6 hcl' b0 (by omega)
   have hb3:=lxx.keeps hb (fun e=>by rw [e,vx] at hb;cases hb)
   have vw3:=lxx.keeps vw2 nxw
   rw [<-hc'] at hsn
   replace hsn:Aqk _:=hsn
   replace hc':Aqk _:=hc'
   replace hcl':Aqk _:=hcl'
   clear hb vx vm2 vr2 vh2 vn2 hmap lx2
   (refine @unH _ (zA Azu ?_);(try clear hK K);intro K hK hc)
   intro ab hab
   have nxa:=Aqr vx3 hab
   have nwa:=Aqr vw3 hab
   (refine @unH _ (zU Azu ?_);(try clear hK K);intro K hK hc)
   generalize hG:Hp.set H3 ab _=H4
   have va:=Aqb hG
   have vx4:=Aqi hG vx3 nxa
   have vw4:=Aqi hG vw3 nwa
   have lx4:=lxx.le (Aqc hG hab)
   clear hG vx3 vw3 lxx hb3
   refine Axm (fun HX=>H4.le HX) [18] (.take 0 (.take 1 (.take 2 (.take 3 (.take 4 (.take 5 (.take 6 (.take 7 (.take 8 (.take 9 (.take 10 (.take 11 (.take 12 (.take 13 (.take 14 (.one 15 (.one 16 (.take 17 (.one 18 .nil))))))))))))))))))) (by kernel_rfl) (by kernel_rfl) (by decide) (by kernel_rfl) ?_;intro K hK
   have hle4:H4.le H4:=Hp.le_refl _
   (iterate 15 (apply Axd rfl rfl rfl ‹_›;(focus (intro HX hHX;simp -implicitDefEqProofs (disch:=first | omega | (simp only [qd]<;>omega)) only [xq,↓xp,qc,Nat.reduceAdd,List.range,List.range.loop,fine,Nat.reduceEqDiff,↓reduceIte,yielded,reduceCtorEq,Nat.reduceLT,Nat.reduceMul,Nat.reduceSub,one,Nat.reduceLeDiff,Aqg,Azu,aq,↓ap,qe0,qe1,qe2, *,-hK,Axa,hHX _ _ va,hHX _ _ vx4,hHX _ _ vw4]<;>(first | exact rfl | exact ⟨rfl,rfl⟩ | exact ⟨rfl,trivial⟩)));simp -implicitDefEqProofs (disch:=first | omega | (simp only [qd]<;>omega)) only [Aq3,Aql]))
   refine Aqw ?_
   (refine @unH _ ?_;refine zX Azu ?_)
   (intro g2 hg2;generalize hG:Hp.set _ g2 _=H5;have lH5:=Aqc hG hg2;have vg2:=Aqb hG;clear hG)
   have vx5:=lH5 _ _ vx4
   have lx5:=lx4.le lH5
   refine ⟨.inr (fun _=>by first | exact lH5 | trivial),Aqw ?_⟩
   (refine @unH _ ?_;refine zX Azu ?_)
   refine (Bzc main H5 _ _ g2 true _ vg2).runs.mono ?_
   rintro _ _ ⟨rfl,hQ⟩
   rw [hQ]
   clear hQ
   (refine @unH _ ?_;refine zX Azu ?_)
   refine ⟨.inr (fun _=>by first | exact lH5 | trivial),?_⟩
   (apply Axd rfl rfl rfl ‹_›;(focus (intro HX hHX;simp -implicitDefEqProofs (disch:=first | omega | (simp only [qd]<;>omega)) only [xq,↓xp,qc,Nat.reduceAdd,List.range,List.range.loop,fine,Nat.reduceEqDiff,↓reduceIte,yielded,reduceCtorEq,Nat.reduceLT,Nat.reduceMul,Nat.reduceSub,one,Nat.reduceLeDiff,Aqg,Azu,aq,↓ap,qe0,qe1,qe2, *,-hK,Axa,hHX _ _ va,hHX _ _ vx4,hHX _ _ vw4]<;>(first | exact rfl | exact ⟨rfl,rfl⟩ | exact ⟨rfl,trivial⟩)));simp -implicitDefEqProofs (disch:=first | omega | (simp only [qd]<;>omega)) only [Aq3,Aql])
   refine Aqw ?_
   (refine @unH _ ?_;refine zX (aN Azu @Azm) ?_)
   refine ⟨by rw [Aqz,show c'.length=6 from hcl'];omega,.inl (by decide),Axq (hK _ _ ?_)⟩
   clear hK K hle4
   (try refine @unH _ (zQ ?_))
   have va5:=lH5 _ _ va
   have vw5:=lH5 _ _ vw4
   have nax:ab≠xb:=Ne.symm nxa
   have nwx:wb≠xb:=nxw
   clear va vw4 vx4 lx4 lH5 hg2 vg2
   generalize hC:c'.set d.a.toNat (min (gI c' d.a) (gI c' d.b+tk))=c2 at *
   generalize hG:Hp.set H5 xb _=H6
   have va:=Aqi hG va5 nax
   have vw4:=Aqi hG vw5 nwx
   have vx4:=Aqb hG
   have lx4:Lex (some xb) H2 H6:=by rw [<-hG];exact lx5.set
   have hga2:gI c2 d.a=min (gI c' d.a) (gI c' d.b+tk):=by rw [<-hC,Av5 a0 (by rw [show c'.length=6 from hcl'];omega) a0,if_pos rfl]
   have hgb2:gI c2 d.b=gI c' d.b:=by rw [<-hC,Av5 a0 (by rw [show c'.length=6 from hcl'];omega) b0,if_neg dne]
   have hcl2:Aqk (c2.length=6):=show c2.length=6 by rw [<-hC,List.length_set];exact hcl'
   have hga':=Av6 (show c2.length=6 from hcl2) a0 (by omega)
   have hgb':=Av6 (show c2.length=6 from hcl2) b0 (by omega)
   have qa2:0<=gI c2 d.a/\gI c2 d.a<=99:=by omega
   obtain ⟨qa20,qa29⟩:=qa2
   have hfin:Aqk (Akk c' d tk=c2.set d.b.toNat (min (gI c2 d.b) (gI c2 d.a+tk))):=show Akk c' d tk=_ by unfold Akk;rw [hC]
   replace hga2:Aqk _:=hga2
   replace hgb2:Aqk _:=hgb2
   clear hG hC va5 vw5 lx5 vx5 hga hgb
   refine Axm (fun HX=>H6.le HX) [18] (.take 0 (.take 1 (.take 2 (.take 3 (.take 4 (.take 5 (.take 6 (.take 7 (.take 8 (.take 9 (.take 10 (.take 11 (.take 12 (.take 13 (.take 14 (.one 15 (.one 16 (.take 17 (.one 18 .nil))))))))))))))))))) (by kernel_rfl) (by kernel_rfl) (by decide) (by kernel_rfl) ?_;intro K hK
   have hle4:H6.le H6:=Hp.le_refl _
   (iterate 15 (apply Axd rfl rfl rfl ‹_›;(focus (intro HX hHX;simp -implicitDefEqProofs (disch:=first | omega | (simp only [qd]<;>omega)) only [xq,↓xp,qc,Nat.reduceAdd,List.range,List.range.loop,fine,Nat.reduceEqDiff,↓reduceIte,yielded,reduceCtorEq,Nat.reduceLT,Nat.reduceMul,Nat.reduceSub,one,Nat.reduceLeDiff,Aqg,Azu,aq,↓ap,qe0,qe1,qe2, *,-hK,Axa,hHX _ _ va,hHX _ _ vx4,hHX _ _ vw4]<;>(first | exact rfl | exact ⟨rfl,rfl⟩ | exact ⟨rfl,trivial⟩)));simp -implicitDefEqProofs (disch:=first | omega | (simp only [qd]<;>omega)) only [Aq3,Aql]))
   refine Aqw ?_
   (refine @unH _ ?_;refine zX Azu ?_)
   (intro g2 hg2;generalize hG:Hp.set _ g2 _=H7;have lH7:=Aqc hG hg2;have vg2:=Aqb hG;clear hG)
   have vx5:=lH7 _ _ vx4
   have lx5:=lx4.le lH7
   refine ⟨.inr (fun _=>by first | exact lH7 | trivial),Aqw ?_⟩
   (refine @unH _ ?_;refine zX Azu ?_)
   refine (Bzc main H7 _ _ g2 true _ vg2).runs.mono ?_
   rintro _ _ ⟨rfl,hQ⟩
   rw [hQ]
   clear hQ
   (refine @unH _ ?_;refine zX Azu ?_)
   refine ⟨.inr (fun _=>by first | exact lH7 | trivial),?_⟩
   (apply Axd rfl rfl rfl ‹_›;(focus (intro HX hHX;simp -implicitDefEqProofs (disch:=first | omega | (simp only [qd]<;>omega)) only [xq,↓xp,qc,Nat.reduceAdd,List.range,List.range.loop,fine,Nat.reduceEqDiff,↓reduceIte,yielded,reduceCtorEq,Nat.reduceLT,Nat.reduceMul,Nat.reduceSub,one,Nat.reduceLeDiff,Aqg,Azu,aq,↓ap,qe0,qe1,qe2, *,-hK,Axa,hHX _ _ va,hHX _ _ vx4,hHX _ _ vw4]<;>(first | exact rfl | exact ⟨rfl,rfl⟩ | exact ⟨rfl,trivial⟩)));simp -implicitDefEqProofs (disch:=first | omega | (simp only [qd]<;>omega)) only [Aq3,Aql])
   refine Aqw ?_
   (refine @unH _ ?_;refine zX (aN Azu @Azm) ?_)
   refine ⟨by rw [Aqz,show c2.length=6 from hcl2];omega,.inl (by decide),Axq (hK _ _ ?_)⟩
   clear hK K hle4
   (try refine @unH _ (zQ ?_))
   generalize hC:c2.set d.b.toNat (min (gI c2 d.b) (gI c2 d.a+tk))=c3 at *
   generalize hG:Hp.set H7 xb _=H8
   have vx8:=Aqb hG
   have lx8:Lex (some xb) H2 H8:=by rw [<-hG];exact lx5.set
   clear hG hC
   (refine @unH _ (zA Azu ?_);(try clear hK K);intro K hK hc)
   exact ⟨_,by omega,_,c3,k+1,rfl,by omega,rfl,e0,e3,e4,e7,e9,e37,e38,rfl,vx8,lx8,(show Akk c' d tk=c3 from hfin).symm.trans (show Ajg (ds.take (k+1)) ts c=_ from hsn).symm⟩
  ·obtain rfl:k=ds.length:=by omega
   rw [List.take_length] at hc'
   have hcl':c'.length=6:=by rw [hc',Aws];exact hcl
   have hil':(ints c').length=6:=by rw [Aqz];exact hcl'
   have hex':=Ajk hcl'
   have hex:=Ajk hcl
   obtain ⟨ok',hle'⟩:Aj4 (Edg ds ts) pl p c'/\_:=by
    rw [hc']
    exact Aj4.all hp h0 (by omega) (fun _ _ _ h=>h.symm) (fun _ _ _ h=>(ht _ _ _ h).1) ds ts hd (fun _ _ _ h=>h) ok
   have vn3:=lxx.keeps vn2 nxn
   replace hc':Aqk _:=hc'
   obtain ⟨m,rfl⟩:∃m,n=m+1:=⟨n-1,by
    have:=ok.pos 0 (by omega) (by omega)
    have:=ok.pos 1 (by omega) (by omega)
    have:=ok.pos 2 (by omega) (by omega)
    have:=ok.pos 3 (by omega) (by omega)
    have:=ok.pos 4 (by omega) (by omega)
    have:=ok.pos 5 (by omega) (by omega)
    unfold sum6 at hsum
    omega⟩
   rw [Avp,<-show c'=Ajg ds ts c from hc'] at hs
   have vm3:=lxx.keeps vm2 nxm
   have lx3:Lex (some nb) H0 H3:=fun x v hx=>by
    obtain ⟨v',h1,h2⟩:=lx2 x v hx
    exact ⟨v',lxx.keeps h1 (fun e=>by rw [e,h0x] at hx;cases hx),h2⟩
   have vh3:=lxx.keeps vh2 nxh
   have vw3:=lxx.keeps vw2 nxw
   have vr3:=lxx.keeps vr2 nxr
   by_cases heq:c'=c
   ·have hne:∀(K:Value->Hp->Prop) (E:Value->Hp->Prop),wpS Tryz.prog (binOp .neq 80 (.agg (ints c').toArray) (.agg (ints c).toArray)) H3 K E=K (.bool false) H3:=fun K E=>by
     rw [Cxv c' c hcl' hcl,heq];simp
    rw [if_pos heq] at hs
    replace heq:Aqk _:=heq
    replace hs:Aqk _:=hs
    (refine @unH _ (Dk4 ?_);(try clear hK K);intro K hK hc)
    clear hne vx3 hex' hil' hcl' ok' hle' vn2 vw2 vr2 vm2 vh2 e9 e37 e38 e39
    have hw7:(Value.int .i64 p::ints ts).toArray.extract 0 7=(Value.int .i64 p::ints ts).toArray:=by
     rw [List.extract_toArray,List.extract_eq_take_drop,List.drop_zero,List.take_of_length_le (by simp [Aqz,hts])]
    have hw6:(Value.int .i64 p::ints ts).length=7:=by simp [Aqz,hts]
    (refine Aka 6 [(true,0),(true,1),(true,2),(true,3),(true,4),(true,5),(false,6)] (by kernel_rfl) (by kernel_rfl) (by simp) (by kernel_rfl) ?_;intro K hK;(iterate 6 (refine @unH _ ?_;refine z3 Azu ?_));refine Bzj ?_;(refine @unH _ ?_;refine zX Azu ?_);try (refine hK _ _ ?_;clear hK K;(try refine @unH _ (zQ ?_))))
    obtain rfl:c=Axk ds p ts:=hs
    refine Djj (P:=Tryz.prog) underlying138 K7.key (F:=Cv0 ds) (wayK p ts hts) trivial vm3 hmap _ _ (fun es' clock' hm'=>?_)
    have nnm:nb≠mb:=Ne.symm hH.nm
    have nrm:rb≠mb:=fun e=>by rw [e,vm3] at vr3;cases vr3
    have nrn:=hH.nr
    (refine @unH _ (zU (aN Azu (aN @Avq (aN @Aj7 @Aj8))) ?_);(try clear hK K);intro K hK hc)
    (refine Axr ?_;(try simp only [nq,↓reduceIte,Nat.reduceEqDiff]);rw [Aq8,Ax4 results53 (by decide) (b:=rb) (o:=0) ?hcell underlying80 rfl sizeOf80];(case hcell=>exact e4);simp -implicitDefEqProofs (disch:=first | omega | (simp only [qd]<;>omega)) only [xq,↓xp,qc,Nat.reduceAdd,List.range,List.range.loop,fine,Nat.reduceEqDiff,↓reduceIte,yielded,reduceCtorEq,Nat.reduceLT,Nat.reduceMul,Nat.reduceSub,one,Nat.reduceLeDiff,Aqg,Azu,hil,hex,Axl])
    refine (show ∀H',(∀b x,b≠mb->b≠nb->b≠rb->H0 b=some x->H' b=some x)->Aje ds mb H'->R (.returned (.agg (ints (Axk ds p ts)).toArray)) H' from hR) _ (fun b x h1 h2 h3 hx=>?_) ⟨es',clock',?_,hm'⟩
    ·rw [Aqv h3,Aqv h1]
     exact lx3.keeps hx h2
    ·rw [Aqv (Ne.symm nrm),Axh]
   ·have hne:∀(K:Value->Hp->Prop) (E:Value->Hp->Prop),wpS Tryz.prog (binOp .neq 80 (.agg (ints c').toArray) (.agg (ints c).toArray)) H3 K E=K (.bool true) H3:=fun K E=>by
     rw [Cxv c' c hcl' hcl];simp [heq]
    rw [if_neg heq] at hs
    have hlt':=Cv5 hcl hcl' (by rw [show c'=_ from hc'];exact hle') heq
    replace heq:Aqk _:=heq
    replace hs:Aqk _:=hs
    (refine @unH _ (Dk4 ?_);(try clear hK K);intro K hK hc)
    (refine @unH _ (zU (aN Azu (aN @Avq (aN @Aj7 @Aj8))) ?_);(try clear hK K);intro K hK hc)
    rw [Dkq (by rfl)]
    refine ⟨m,by omega,_,c',rfl,e0,e3,e4,e7,Axh,?_,hs,ok',by omega⟩
    exact lx3.set
end Go.Proofs.YtaehjjbekjglkaaGreatDoor
end
section
namespace Go.Proofs.YtaehjjbekjglkaaGreatDoor
open Go Go.X Go.Proofs.Tryz
def Azg:=aN @Dy3 (aN @Dwf (aN @Dwx (aN @Dyf (aN @Dym (aN @Dye (aN @Dv3 (aN @Dy5 (aN @Dwu (aN @Dw2 (aN @Dwe (aN @Dwj (aN @Dwz (aN @Dv4 (aN @Dyo (aN @Dyb (aN @Dyz (aN @Dyj (aN @Dwo (aN @Dwp (aN @Dwv (aN @Dv2 (aN @Azx @Ckb))))))))))))))))))))))
theorem Bzq (main:Md) (H:Hp) (hb mb:Nat) (q:Bool) (pl:Int) (da:Option Addr) (dc:Nat) (hv nv:Value) (p:Int) (ts:List Int) (ds:List Dr) (vh:H hb=some (q,hsO pl (.slice da ds.length dc) hv nv mb)) (kn:Aje ds mb H) (dd:SlD H (.slice da ds.length dc) ds)
  (hp:pl<=6) (h0:0<=p) (h1:p<pl) (hd:Avx pl ds) (hl6:ds.length<=6) (hts:ts.length=6) (ht:TsOk ds ts) :
  FnX Tryz.prog main 53 #[.pointer (some ⟨hb,0,none⟩),.agg (.int .i64 p::ints ts).toArray] H fun e H'=>e=.returned (.agg (ints (Axk ds p ts)).toArray)/\(∀b x,b≠mb->H b=some x->H' b=some x)/\Aje ds mb H':=by
 have hw6:(Value.int .i64 p::ints ts).length=7:=by simp [Aqz,hts]
 have hw7:(Value.int .i64 p::ints ts).toArray.extract 0 7=(Value.int .i64 p::ints ts).toArray:=by
  rw [List.extract_toArray,List.extract_eq_take_drop,List.drop_zero,List.take_of_length_le (by omega)]
 refine Aqn func53 rfl ntmps53 (by simp) ?_
 (refine @unH _ (zS Azg ?_);(try clear hK K);intro K hK hc)
 (intro wb hwb rb hrb;replace hrb:(Hp.set _ wb _) rb=none:=hrb;generalize hG:Hp.set _ wb _=H1 at hrb ⊢;have lH1:=Aqc hG hwb;have wwb:=Aqb hG;clear hG;generalize hG:Hp.set _ rb _=H2;have lH2:=Aqc hG hrb;have vrb:=Aqb hG;have vwb:=lH2 _ _ wwb;have nwbrb:=Aqr wwb hrb;clear hG wwb)
 have l2:=Hp.le_trans lH1 lH2
 have h0wb:=hwb
 have h0rb:=Hp.le_none lH1 hrb
 have nrw:=nwbrb
 have vh2:=l2 _ _ vh
 have vw2:=vwb
 have vr2:=vrb
 have kn2:=kn.le l2
 have dd2:=dd.le l2
 obtain ⟨es,clock,vm2,hmap⟩:=id kn2
 simp only [hsO] at vh2
 clear hwb hrb lH1 lH2 vwb vrb vh kn
 (refine @unH _ (zV Azg ?_);(try clear hK K);intro K hK hc)
 refine Bwy (fun l w a' H'=>∃nb H0,H2.le H0/\H2 nb=none/\SpH H0 hb wb rb nb mb pl da dc hv nv p ts ds/\SpI H0 hb wb rb nb mb pl p ts ds l w a' H') ?_ ?_
 ·obtain ⟨v,met,hmet,hunmet,hlk⟩:=Dz9 (P:=Tryz.prog) underlying138 K7.key zeroValue80 (wayK p ts hts) hmap
  (refine @unH _ (zS Azg ?_);(try clear hK K);intro K hK hc)
  cases met with
  | true=>
   obtain rfl:v=.agg (ints (Axk ds p ts)).toArray:=hmet rfl
   have hcl:=Avo ds p ts
   have hil:(ints (Axk ds p ts)).length=6:=by rw [Aqz];exact hcl
   have hex:=Ajk hcl
   generalize hC:Axk ds p ts=c at *
   replace hC:Aqk _:=hC
   clear hmet hunmet
   refine Axn ?_
   refine Bz4 (fun HX=>H2.le HX) [10] (.take 0 (.take 1 (.take 2 (.take 3 (.take 4 (.take 5 (.take 6 (.take 7 (.free 8 (.one 9 (.one 10 (.free 11 .nil)))))))))))) (by kernel_rfl) (by kernel_rfl) (by decide) (by kernel_rfl) ?_;intro K hK
   have hle2:H2.le H2:=Hp.le_refl _
   (iterate 5 (apply Axd rfl rfl rfl ‹_›;(focus (intro HX hHX;simp -implicitDefEqProofs (disch:=first | omega | (simp only [qd]<;>omega)) only [xq,↓xp,qc,Nat.reduceAdd,List.range,List.range.loop,fine,Nat.reduceEqDiff,↓reduceIte,yielded,reduceCtorEq,Nat.reduceLT,Nat.reduceMul,Nat.reduceSub,one,Nat.reduceLeDiff,Aqg,Azg,aq,↓ap,qe0,qe1,qe2, *,-hK,Axa,hHX _ _ vh2,hHX _ _ vw2,hw7,hw6]<;>(first | exact rfl | exact ⟨rfl,rfl⟩ | exact ⟨rfl,trivial⟩)));simp -implicitDefEqProofs (disch:=first | omega | (simp only [qd]<;>omega)) only [Aq3,Aql]))
   (apply Axd rfl rfl rfl ‹_›;(focus (intro HX hHX;(refine @unH _ ?_;refine zX (aN Azg @Axa) ?_);refine hlk mb true HX (hHX _ _ vm2) _ _ ?_;exact ⟨rfl,rfl⟩));simp -implicitDefEqProofs (disch:=first | omega | (simp only [qd]<;>omega)) only [Aq3,Aql])
   (iterate 2 (apply Axd rfl rfl rfl ‹_›;(focus (intro HX hHX;simp -implicitDefEqProofs (disch:=first | omega | (simp only [qd]<;>omega)) only [xq,↓xp,qc,Nat.reduceAdd,List.range,List.range.loop,fine,Nat.reduceEqDiff,↓reduceIte,yielded,reduceCtorEq,Nat.reduceLT,Nat.reduceMul,Nat.reduceSub,one,Nat.reduceLeDiff,Aqg,Azg,aq,↓ap,qe0,qe1,qe2, *,-hK,Axa,hHX _ _ vh2,hHX _ _ vw2,hw7,hw6]<;>(first | exact rfl | exact ⟨rfl,rfl⟩ | exact ⟨rfl,trivial⟩)));simp -implicitDefEqProofs (disch:=first | omega | (simp only [qd]<;>omega)) only [Aq3,Aql]))
   (refine @unH _ ?_;refine zI Azg ?_)
   refine Aqw ?_
   (refine @unH _ ?_;refine zX Azg ?_)
   (intro gb hgb;generalize hG:Hp.set _ gb _=H3;have lH3:=Aqc hG hgb;have vgb:=Aqb hG;clear hG)
   refine ⟨.inr (fun _=>by first | exact lH3 | trivial),Aqw ?_⟩
   (refine @unH _ ?_;refine zX (aN Azg (aN @Avq (aN @Aj7 @Aj8))) ?_)
   refine ⟨.inl (by decide),?_⟩
   (refine @unH _ ?_;refine zI Azg ?_)
   refine Axq (hK _ _ ?_)
   clear hK K hlk
   (try refine @unH _ (zQ ?_))
   generalize hG:Hp.set H3 gb _=H4
   have vg4:=Aqb hG
   have nrg:=Aqr vr2 hgb
   have vr4:=Aqi hG (lH3 _ _ vr2) nrg
   have hk4:∀b x,H b=some x->H4 b=some x:=fun b x hx=>Aqi hG (lH3 _ _ (l2 _ _ hx)) (Aqr (l2 _ _ hx) hgb)
   have kn4:Aje ds mb H4:=⟨es,clock,Aqi hG (lH3 _ _ vm2) (Aqr vm2 hgb),hmap⟩
   clear hG vgb lH3 hgb
   replace hk4:Aqk _:=hk4
   (refine @unH _ (zA Azg ?_);(try clear hK K);intro K hK hc)
   (refine @unH _ (zU (aN Azg (aN @Avq (aN @Aj7 @Aj8))) ?_);(try clear hK K);intro K hK hc)
   (refine Axr ?_;(try simp only [nq,↓reduceIte,Nat.reduceEqDiff]);rw [Aq8,Ax4 results53 (by decide) (b:=rb) (o:=0) rfl underlying80 rfl sizeOf80];simp -implicitDefEqProofs (disch:=first | omega | (simp only [qd]<;>omega)) only [xq,↓xp,qc,Nat.reduceAdd,List.range,List.range.loop,fine,Nat.reduceEqDiff,↓reduceIte,yielded,reduceCtorEq,Nat.reduceLT,Nat.reduceMul,Nat.reduceSub,one,Nat.reduceLeDiff,Aqg,Azg,hil,hex,Axl])
   refine ⟨fun b x hb hx=>?_,?_⟩
   ·rw [Aqv (fun e=>by rw [e,h0rb] at hx;cases hx)]
    exact (show ∀b x,H b=some x->H4 b=some x from hk4) b x hx
   ·obtain ⟨es,clock,vm4,hm4⟩:=kn4
    exact ⟨es,clock,by rw [Aqv (fun e=>by rw [e,vr4] at vm4;cases vm4)];exact vm4,hm4⟩
  | false=>
   obtain rfl:=hunmet rfl
   clear hmet hunmet
   refine Axn ?_
   refine Bz4 (fun HX=>H2.le HX) [10] (.take 0 (.take 1 (.take 2 (.take 3 (.take 4 (.take 5 (.take 6 (.take 7 (.free 8 (.one 9 (.one 10 (.free 11 .nil)))))))))))) (by kernel_rfl) (by kernel_rfl) (by decide) (by kernel_rfl) ?_;intro K hK
   have hle2:H2.le H2:=Hp.le_refl _
   (iterate 5 (apply Axd rfl rfl rfl ‹_›;(focus (intro HX hHX;simp -implicitDefEqProofs (disch:=first | omega | (simp only [qd]<;>omega)) only [xq,↓xp,qc,Nat.reduceAdd,List.range,List.range.loop,fine,Nat.reduceEqDiff,↓reduceIte,yielded,reduceCtorEq,Nat.reduceLT,Nat.reduceMul,Nat.reduceSub,one,Nat.reduceLeDiff,Aqg,Azg,aq,↓ap,qe0,qe1,qe2, *,-hK,Axa,hHX _ _ vh2,hHX _ _ vw2,hw7,hw6]<;>(first | exact rfl | exact ⟨rfl,rfl⟩ | exact ⟨rfl,trivial⟩)));simp -implicitDefEqProofs (disch:=first | omega | (simp only [qd]<;>omega)) only [Aq3,Aql]))
   (apply Axd rfl rfl rfl ‹_›;(focus (intro HX hHX;(refine @unH _ ?_;refine zX (aN Azg @Axa) ?_);refine hlk mb true HX (hHX _ _ vm2) _ _ ?_;exact ⟨rfl,rfl⟩));simp -implicitDefEqProofs (disch:=first | omega | (simp only [qd]<;>omega)) only [Aq3,Aql])
   (iterate 2 (apply Axd rfl rfl rfl ‹_›;(focus (intro HX hHX;simp -implicitDefEqProofs (disch:=first | omega | (simp only [qd]<;>omega)) only [xq,↓xp,qc,Nat.reduceAdd,List.range,List.range.loop,fine,Nat.reduceEqDiff,↓reduceIte,yielded,reduceCtorEq,Nat.reduceLT,Nat.reduceMul,Nat.reduceSub,one,Nat.reduceLeDiff,Aqg,Azg,aq,↓ap,qe0,qe1,qe2, *,-hK,Axa,hHX _ _ vh2,hHX _ _ vw2,hw7,hw6]<;>(first | exact rfl | exact ⟨rfl,rfl⟩ | exact ⟨rfl,trivial⟩)));simp -implicitDefEqProofs (disch:=first | omega | (simp only [qd]<;>omega)) only [Aq3,Aql]))
   (refine @unH _ ?_;refine zI Azg ?_)
   refine Aqw ?_
   (refine @unH _ ?_;refine zX Azg ?_)
   (intro gb hgb;generalize hG:Hp.set _ gb _=H3;have lH3:=Aqc hG hgb;have vgb:=Aqb hG;clear hG)
   refine ⟨.inr (fun _=>by first | exact lH3 | trivial),Aqw ?_⟩
   (refine @unH _ ?_;refine zX (aN Azg (aN @Avq (aN @Aj7 @Aj8))) ?_)
   refine ⟨.inl (by decide),?_⟩
   (refine @unH _ ?_;refine zI Azg ?_)
   refine Axq (hK _ _ ?_)
   clear hK K hlk
   (try refine @unH _ (zQ ?_))
   generalize hG:Hp.set H3 gb _=H4
   have l24:H2.le H4:=fun b x hx=>Aqi hG (lH3 _ _ hx) (Aqr hx hgb)
   have vh4:=l24 _ _ vh2
   have vw4:=l24 _ _ vw2
   have vr4:=l24 _ _ vr2
   clear hG vgb lH3 hgb hle2
   (refine @unH _ (zS Azg ?_);(try clear hK K);intro K hK hc)
   intro nb hnb
   have nhn:=Aqr vh4 hnb
   have nwn:=Aqr vw4 hnb
   have nrn:=Aqr vr4 hnb
   have nmn:=Aqr (l24 _ _ vm2) hnb
   have h2nb:=Hp.le_none l24 hnb
   generalize hG:Hp.set H4 nb _=H5
   have vn:=Aqb hG
   have l25:=Hp.le_trans l24 (Aqc hG hnb)
   have l45:=Aqc hG hnb
   have vh5:=l45 _ _ vh4
   have vw5:=l45 _ _ vw4
   have vr5:=l45 _ _ vr4
   clear hG hnb l45 vh4 vw4 vr4
   (refine @unH _ (zV Azg ?_);(try clear hK K);intro K hK hc)
   refine Axn ?_
   have hSp:SpH H5 hb wb rb nb mb pl da dc hv nv p ts ds:=⟨⟨_,vh5⟩,vw5,vr5,kn2.le l25,dd2.le l25,⟨_,vn⟩,nhn,nwn,nrn,nmn⟩
   have vn0:H5 nb=some (true,.cells (ints (List.replicate 0 (99:Int)++List.replicate (6-0) 0)).toArray 80 (0,0)):=vn
   clear vn
   (refine @unH _ (zS Azg ?_);(try clear hK K);intro K hK hc)
   refine Ax7 (Axg (fun w a' H'=>∃e c,∃k:Nat,w=6-k/\k<=6/\a'=act 92 e []/\e 0=.pointer (some ⟨hb,0,none⟩)/\e 3=.pointer (some ⟨wb,0,none⟩)/\e 4=.pointer (some ⟨rb,0,none⟩)/\e 7=.pointer (some ⟨nb,0,none⟩)/\e 23=.int .i64 (k:Nat) /\
    H' nb=some (true,.cells (ints c).toArray 80 (0,0))/\Lex (some nb) H5 H'/\c=List.replicate k (99:Int)++List.replicate (6-k) 0) (n:=6) ?_ ?_)
   ·exact ⟨_,_,0,by omega,by omega,rfl,rfl,rfl,rfl,rfl,rfl,vn0,Lex.refl,rfl⟩
   ·clear vn0
    rintro w a' H6 ⟨e,c,k,rfl,hk,rfl,e0,e3,e4,e7,e23,vn6,lx6,hc⟩
    have hcl:c.length=6:=by rw [hc];simp;omega
    have hil:(ints c).length=6:=by rw [Aqz];exact hcl
    by_cases hlt:k<6
    ·have hstep:c.set k 99=List.replicate (k+1) (99:Int)++List.replicate (6-(k+1)) 0:=by
      rw [hc]
      rcases (by omega:k=0∨k=1∨k=2∨k=3∨k=4∨k=5) with rfl | rfl | rfl | rfl | rfl | rfl<;>rfl
     replace hc:Aqk _:=hc
     replace hstep:Aqk _:=hstep
     (refine @unH _ (zA (aN Azg @Azm) ?_);(try clear hK K);intro K hK hc)
     exact ⟨_,by omega,_,c.set k 99,k+1,rfl,by omega,rfl,e0,e3,e4,e7,rfl,Axh,lx6.set,hstep⟩
    ·obtain rfl:k=6:=by omega
     have hcc:Aqk (c=List.replicate 6 99):=show c=_ by rw [hc];rfl
     have vw6:=lx6.keeps vw5 nwn
     clear hc
     have hp1:p.toNat<6:=by omega
     (refine @unH _ (zS (aN Azg @Azm) ?_);(try clear hK K);intro K hK hc)
     refine Axn ?_
     (refine @unH _ (zS (aN Azg @Azm) ?_);(try clear hK K);intro K hK hc)
     have hfr:Aj4 (Edg ds ts) pl p (c.set p.toNat 0):=by rw [show c=_ from hcc];exact Aj4.start _ h0 (by omega)
     have hfs:Avp ds ts 600 (c.set p.toNat 0)=Axk ds p ts:=by rw [show c=_ from hcc];rfl
     have hsm:sum6 (c.set p.toNat 0)<600:=by
      have h0:=(hfr.le99 (q:=0) (by omega) (by omega)).2
      have h1:=(hfr.le99 (q:=1) (by omega) (by omega)).2
      have h2:=(hfr.le99 (q:=2) (by omega) (by omega)).2
      have h3:=(hfr.le99 (q:=3) (by omega) (by omega)).2
      have h4:=(hfr.le99 (q:=4) (by omega) (by omega)).2
      have h5:=(hfr.le99 (q:=5) (by omega) (by omega)).2
      unfold sum6
      omega
     refine Axn (Azd ?_)
     refine Az3 (Bzp main H5 hb wb rb nb mb pl da dc hv nv p ts ds hSp hp h0 h1 hd hl6 hts ht (fun e H'=>e=.returned (.agg (ints (Axk ds p ts)).toArray)/\(∀b x,b≠mb->H b=some x->H' b=some x)/\Aje ds mb H')
      (fun H' h1 h2=>⟨rfl,fun b x hb hx=>h1 b x hb (fun e=>by have:=l2 _ _ hx;rw [e,h2nb] at this;cases this) (fun e=>by rw [e,h0rb] at hx;cases hx) (l25 _ _ (l2 _ _ hx)),h2⟩) 600 _ _ ⟨_,_,rfl,e0,e3,e4,e7,Axh,lx6.set,hfs,hfr,hsm⟩) ?_
     exact fun e a H' q=>Bwj (fun l a H' ⟨n',hlt,h⟩=>⟨n',nb,H5,l25,h2nb,hSp,h⟩) (fun _ _ _ h=>h) q
 ·rintro l rest w a' H' hf ⟨nb,H0,l20,hnb,hS,hI⟩
  have hl:l=0:=by
   apply Classical.byContradiction
   intro hl
   have h9:(0==l)=false:=by simp;omega
   simp only [findLabel,h9,Bool.false_eq_true,if_false] at hf
   cases hf
  subst hl
  simp only [findLabel,beq_self_eq_true,if_true,Option.some.injEq] at hf
  subst hf
  refine Axn (Aza ?_)
  refine Az3 (Bzp main H0 hb wb rb nb mb pl da dc hv nv p ts ds hS hp h0 h1 hd hl6 hts ht (fun e H'=>e=.returned (.agg (ints (Axk ds p ts)).toArray)/\(∀b x,b≠mb->H b=some x->H' b=some x)/\Aje ds mb H')
   (fun H' h1 h2=>⟨rfl,fun b x hb hx=>h1 b x hb (fun e=>by have:=l2 _ _ hx;rw [e,hnb] at this;cases this) (fun e=>by rw [e,h0rb] at hx;cases hx) (l20 _ _ (l2 _ _ hx)),h2⟩) w _ H' hI) ?_
  exact fun e a H' q=>Bwj (fun l a H' ⟨n',hlt,h⟩=>⟨n',hlt,nb,H0,l20,hnb,hS,h⟩) (fun _ _ _ h=>h) q
end Go.Proofs.YtaehjjbekjglkaaGreatDoor
end
section
namespace Go.X
open Go
theorem Avn {P:Program} {H:Hp} {fn:Func} {t u r:Tmp} {ty:TypeId} (h:fn.results=#[.tmp t,.tmp u,.cell r ty]) {n:Nat} {e:Nat->Value} {ds:List Deferred} (ht:t<n) (hu:u<n) (hr:r<n) {a:Addr} (hb:e r=.pointer (some a))
  {d:TypeDesc} (hty:P.underlying ty=some d) (hd:aggB d=false) (K:Value->Hp->Prop) (E:Value->Hp->Prop) :
  wpS P (results fn (act n e ds).tmps) H K E=∃v,H.cell a=some v/\K (.tuple #[e t,e u,v]) H:=by
 have hl:∀K E,wpS P (loadVar ty a) H K E=∃v,H.cell a=some v/\K v H:=fun K E=>Aqh hty hd a K E
 simp [-bind_pure_comp,results,h,act_get? ht,act_get? hu,act_get? hr,hb,asAddr,Aqa,Aqf,hl]
end Go.X
namespace Go.Proofs.YtaehjjbekjglkaaGreatDoor
open Go Go.X Go.Proofs.Tryz
def Axs:=aN (fun H=>Aqu (H:=H) (P:=Tryz.prog) (h:=zeroValue4)) (aN @Dwe (aN @Dwl (aN @Dw1 (aN @Dv6 (aN @Dyq (aN @Dyc (aN @Dy0 (aN @Dyk (aN @Cw9 (aN (fun H st=>Ayu (H:=H) (st:=st) underlying220 rfl zeroValue220) (aN @Ay4 (aN @Ay5 (aN @Cya (aN @Bxg (aN @Bxi (aN @Cyb (aN @Dwr (aN @Dw2 (aN @Dv3 (aN @Ayg (aN (fun H st=>Ayu (H:=H) (st:=st) underlying222 rfl zeroValue222) (aN @Bkv (aN (fun H=>Aqu (H:=H) (P:=Tryz.prog) (h:=zeroValue220)) (aN (fun H=>Aqs (H:=H) sizeOf220) (aN @Cze (aN (fun H=>Dqe (H:=H) underlying214 rfl) @Dvz))))))))))))))))))))))))))
def Cqu:=aN (fun H st=>Ayu (H:=H) (st:=st) underlying214 rfl zeroValue214) (aN (fun H=>Aqu (H:=H) (P:=Tryz.prog) (h:=zeroValue214)) (aN (fun H=>Aqs (H:=H) sizeOf214) @Dvz))
def Bve:=aN @Dwt (aN @Dw3 (aN @Dws (aN @Dw2 (aN @Byb (aN (fun H=>Dqe (H:=H) underlying220 rfl) (aN @Byc (fun H=>Dqe (H:=H) underlying222 rfl)))))))
def Cwk:=aN (fun H=>Aqd (H:=H) underlying220 (i:=0) rfl (off:=0) rfl sizeOf3) @Dw2
def Cwl:=aN (fun H=>Aqd (H:=H) underlying222 (i:=0) rfl (off:=0) rfl sizeOf3) @Dw2
def nsV (n:Ns):Value:=if n.sm then .iface 220 (.agg #[.int .i64 n.hr]) else .iface 222 (.agg #[.int .i64 n.hr])
theorem By1 (main:Md) (H:Hp) (n:Ns) :
  FnX Tryz.prog main 143 #[.agg #[.int .i64 n.pl,.int .i64 n.hr,.bool n.sm]] H fun e H'=>e=.returned (nsV n)/\H.le H':=by
 obtain ⟨pl,hr,sm⟩:=n
 cases sm with
 | true=>
  refine Aqn func143 rfl ntmps143 (by simp) ?_
  (refine @unH _ (zA Bve ?_);(try clear hK K);intro K hK hc)
  (intro sb hsb;generalize hG:Hp.set _ sb _=H1;have lH1:=Aqc hG hsb;have vsb:=Aqb hG;clear hG)
  (refine @unH _ (zU Bve ?_);(try clear hK K);intro K hK hc)
  (refine @unH _ ?_;refine z9 results143 ?_)
  exact ⟨rfl,lH1⟩
 | false=>
  refine Aqn func143 rfl ntmps143 (by simp) ?_
  (refine @unH _ (zA Bve ?_);(try clear hK K);intro K hK hc)
  (intro sb hsb;generalize hG:Hp.set _ sb _=H1;have lH1:=Aqc hG hsb;have vsb:=Aqb hG;clear hG)
  (refine @unH _ (zU Bve ?_);(try clear hK K);intro K hK hc)
  (refine @unH _ ?_;refine z9 results143 ?_)
  exact ⟨rfl,lH1⟩
theorem Cvy (main:Md) (H:Hp) (x:Int) :
  FnX Tryz.prog main 178 #[.agg #[.int .i64 x]] H fun e H'=>e=.returned (.int .i64 x)/\H.le H':=by
 refine Aqn func178 rfl ntmps178 (by simp) ?_
 (refine @unH _ (zA Cwk ?_);(try clear hK K);intro K hK hc)
 (intro sb hsb;generalize hG:Hp.set _ sb _=H1;have lH1:=Aqc hG hsb;have vsb:=Aqb hG;clear hG)
 (refine @unH _ (zU Cwk ?_);(try clear hK K);intro K hK hc)
 (refine @unH _ ?_;refine z9 results178 ?_)
 exact ⟨trivial,lH1⟩
theorem Cki (main:Md) (H:Hp) (x:Int) :
  FnX Tryz.prog main 179 #[.agg #[.int .i64 x]] H fun e H'=>e=.returned (.int .i64 x)/\H.le H':=by
 refine Aqn func179 rfl ntmps179 (by simp) ?_
 (refine @unH _ (zA Cwl ?_);(try clear hK K);intro K hK hc)
 (intro sb hsb;generalize hG:Hp.set _ sb _=H1;have lH1:=Aqc hG hsb;have vsb:=Aqb hG;clear hG)
 (refine @unH _ (zU Cwl ?_);(try clear hK K);intro K hK hc)
 (refine @unH _ ?_;refine z9 results179 ?_)
 exact ⟨trivial,lH1⟩
def Cvg (k:Bool):Value:=if k then .iface 214 (.agg #[]) else .nilIface
theorem Bvp (H:Hp) (k:Bool) (st:TypeId) (K:Value->Hp->Prop) (E:Value->Hp->Prop):wpS Tryz.prog (Instr.typeAssert (Cvg k) st 214 true) H K E=K (.tuple #[.agg #[],.bool k]) H:=by
 cases k
 ·show wpS Tryz.prog (Instr.typeAssert .nilIface st 214 true) H K E=_
  unfold Instr.typeAssert
  rw [Aqa,Aqj underlying214]
  simp only [Bzz,Aqf,if_true,Aqa,Axe zeroValue214]
 ·show wpS Tryz.prog (Instr.typeAssert (.iface 214 (.agg #[])) st 214 true) H K E=_
  rw [Ayu underlying214 rfl zeroValue214]
  rfl
theorem Akv (main:Md) (H:Hp) (isb:Nat) (x:Value) (hb:H isb=some (true,.cells #[x] 4 (0,0))) (m:FrameMode) (k:Bool) (hm:m=.returning/\k=false∨m=.panicking [{ v:=Cvg true,recovered:=false }]/\k=true) (R:FrameMode->Hp->Prop)
  (hR:Aqk (∀H',H.le H'->R .returning (if k=true then H'.set isb (.cells #[.bool false] 4 (0,0)) else H'))) :
  DefX Tryz.prog main m { target:=.fn (.func 142) #[.pointer (some ⟨isb,0,none⟩)],args:=#[] } H R:=by
 refine Bvi (v:=Cvg k) func142 rfl (fun _ _=>Cw8 _) ?_ ?_
 ·rcases hm with ⟨h1,h2⟩ | ⟨h1,h2⟩
  ·exact .inl ⟨h1,by rw [h2];rfl⟩
  ·exact .inr (by rw [h1,h2])
 intro K hK
 rw [ntmps142]
 rw [show ((#[]:Array Value)++#[.pointer (some ⟨isb,0,none⟩)])=[Value.pointer (some ⟨isb,0,none⟩)].toArray from rfl,Ayy (by simp)]
 (refine @unH _ ?_;refine zX (aN Cqu @Bvp) ?_)
 (intro nb hnb;generalize hG:Hp.set _ nb _=H1;have lH1:=Aqc hG hnb;have vnb:=Aqb hG;clear hG)
 have hb1:=lH1 _ _ hb
 refine hK _ _ ?_;clear hK K
 cases k
 ·have hR1:=(show ∀H',H.le H'->R .returning (if false=true then H'.set isb (.cells #[.bool false] 4 (0,0)) else H') from hR) H1 lH1
  simp only [Bool.false_eq_true,if_false] at hR1
  replace hR1:Aqk _:=hR1
  (refine @unH _ (zA Cqu ?_);(try clear hK K);intro K hK hc)
  refine ⟨rfl,?_⟩
  rw [Awa results142]
  exact hR1
 ·have hR1:=(show ∀H',H.le H'->R .returning (if true=true then H'.set isb (.cells #[.bool false] 4 (0,0)) else H') from hR) H1 lH1
  simp only [if_true] at hR1
  replace hR1:Aqk _:=hR1
  (refine @unH _ (zA Cqu ?_);(try clear hK K);intro K hK hc)
  refine ⟨rfl,?_⟩
  rw [Awa results142]
  exact hR1
def Bw4 (ns:List Ns) (c:List Int) (lo hi:Int) (f:Bool):Prop:=match begN ns c 0 12 with
 | none=>f=false
 | some (l,h)=>f=true/\lo=l/\hi=h
theorem Bw5 (main:Md) (H:Hp) (hb mb:Nat) (q:Bool) (pl:Int) (dv hv:Value) (na:Option Addr) (nc:Nat) (c:List Int) (ns:List Ns) (vh:H hb=some (q,hsO pl dv hv (.slice na ns.length nc) mb)) (nn:SlN H (.slice na ns.length nc) ns)
  (hp:pl<=6) (hns:∀n∈ns,NsOk pl n) (hl4:ns.length<=4) (hcl:c.length=6) (hc0:∀q,0<=q->q<6->0<=gI c q/\gI c q<=99) :
  FnX Tryz.prog main 127 #[.pointer (some ⟨hb,0,none⟩),.agg (ints c).toArray] H fun e H'=>∃lo hi f,e=.returned (.tuple #[.int .i64 lo,.int .i64 hi,.bool f])/\Bw4 ns c lo hi f/\H.le H':=by
 have hil:(ints c).length=6:=by rw [Aqz];exact hcl
 simp only [hsO] at vh
 refine Aqn func127 rfl ntmps127 (by simp) ?_
 refine Axz rfl ?_;intro K hK
 (refine @unH _ ?_;refine zXi Axs ?_)
 (intro cb hcb fb hfb;replace hfb:(Hp.set _ cb _) fb=none:=hfb;generalize hG:Hp.set _ cb _=H1 at hfb ⊢;have lH1:=Aqc hG hcb;have wcb:=Aqb hG;clear hG;generalize hG:Hp.set _ fb _=H2;have lH2:=Aqc hG hfb;have vfb:=Aqb hG;have vcb:=lH2 _ _ wcb;have ncbfb:=Aqr wcb hfb;clear hG wcb)
 have l2:=Hp.le_trans lH1 lH2
 have h0fb:=Hp.le_none lH1 hfb
 have vh2:=l2 _ _ vh
 have nn2:=nn.le l2
 clear hcb hfb lH1 lH2 vh nn
 refine hK _ _ ?_;clear hK K
 refine Axz rfl ?_;intro K hK
 (refine @unH _ ?_;refine zXi (aN Axs (aN @Ckq (aN @Byo @Bq7))) ?_)
 refine hK _ _ ?_;clear hK K
 (refine @unH _ (zAi Axs ?_);(try clear hK K);intro K hK hc)
 refine Axg (fun w a' H'=>∃e,∃k:Nat,∃lo hi:Int,w=ns.length-k/\k<=ns.length/\a'=act 74 e [{ target:=.fn (.func 142) #[.pointer (some ⟨fb,0,none⟩)],args:=#[] }]/\e 0=.pointer (some ⟨hb,0,none⟩)/\e 3=.pointer (some ⟨cb,0,none⟩)/\e 4=.int .i64 lo/\e 5=.int .i64 hi/\e 6=.pointer (some ⟨fb,0,none⟩) /\
  e 17=.slice na ns.length nc/\e 18=.int .i64 ns.length/\e 19=.int .i64 (k:Nat)/\H2.le H'/\(0<=lo/\lo<=13 /\ -99<=hi/\hi<=12)/\begN (ns.drop k) c lo hi=begN ns c 0 12) (n:=ns.length) ?_ ?_
 ·exact ⟨_,0,0,12,by omega,by omega,rfl,rfl,rfl,rfl,rfl,rfl,rfl,rfl,rfl,Hp.le_refl _,by omega,rfl⟩
 ·rintro w a' H3 ⟨e,k,lo,hi,rfl,hk,rfl,e0,e3,e4,e5,e6,e17,e18,e19,l23,hlh,hbeg⟩
  have vc3:=l23 _ _ vcb
  have vf3:=l23 _ _ vfb
  by_cases hlt:k<ns.length
  ·obtain ⟨b,o,p',cd,fr,rfl,hb',hcs,hce⟩:=nn2.get (List.getElem?_eq_getElem hlt)
   obtain ⟨p0,p1,q0,q1⟩:=hns _ (List.getElem_mem hlt)
   have hdr:ns.drop k=ns[k]::ns.drop (k+1):=List.drop_eq_getElem_cons hlt
   rw [hdr,begN] at hbeg
   clear hdr
   generalize ns[k]=n at *
   obtain ⟨npl,nhr,nsm⟩:=n
   simp only at p0 p1 q0 q1 hce hbeg
   have hg:=Av6 hcl p0 (by omega)
   obtain ⟨g0,g9⟩:=hc0 npl p0 (by omega)
   have hb3:=l23 _ _ hb'
   replace hbeg:Aqk _:=hbeg
   obtain ⟨lo0,lo13,hi99,hi12⟩:=hlh
   (refine @unH _ (zAi Axs ?_);(try clear hK K);intro K hK hc)
   intro ab hab
   have nca:=Aqr vc3 hab
   have nfa:=Aqr vf3 hab
   (refine @unH _ (zUi Axs ?_);(try clear hK K);intro K hK hc)
   generalize hG:Hp.set H3 ab _=H4
   have va:=Aqb hG
   have l24:=Hp.le_trans l23 (Aqc hG hab)
   clear hG hb3 hb' hcs hce vc3 vf3 nca nfa hab l23
   refine (By1 main H4 ⟨npl,nhr,nsm⟩).runs.mono ?_
   rintro _ H5 ⟨rfl,lH5⟩
   have va5:=lH5 _ _ va
   have l25:=Hp.le_trans l24 lH5
   have vc5:=l25 _ _ vcb
   have vf5:=l25 _ _ vfb
   clear va l24 lH5
   generalize hgc:gI c npl=g at *
   cases nsm with
   | true=>
    rw [show nsV ⟨npl,nhr,true⟩=.iface 220 (.agg #[.int .i64 nhr]) from rfl]
    have hs:Aqk ((if g=99∨(min hi (nhr-g))<lo then none else begN (ns.drop (k+1)) c lo (min hi (nhr-g)))=begN ns c 0 12):=by
     have h:_=begN ns c 0 12:=hbeg
     simp only [true_and,if_true] at h
     exact h
    clear hbeg
    (refine @unH _ (zUi Axs ?_);(try clear hK K);intro K hK hc)
    refine Aka 10 [(true,0),(true,1),(true,2),(true,3),(true,4),(true,5),(true,6),(true,7),(true,8),(true,9)] (by kernel_rfl) (by kernel_rfl) (by simp) (by kernel_rfl) ?_;intro K hK
    (iterate 2 (refine @unH _ ?_;refine z3i Axs ?_))
    (apply Akj rfl rfl rfl;(focus ((refine @unH _ ?_;refine zXi Axs ?_);exact Cxw (Cvy main H5 nhr)));simp -implicitDefEqProofs (disch:=first | omega | (simp only [qd]<;>omega)) only [Aq3,Aql])
    (iterate 7 (refine @unH _ ?_;refine z3i Axs ?_))
    refine Aky (hK _ _ ?_)
    clear hK K
    (try refine @unH _ (zQ ?_))
    rw [show (if nhr-g<hi then nhr-g else hi)=min hi (nhr-g) by split<;>omega]
    have hb2 : -99<=min hi (nhr-g)/\min hi (nhr-g)<=12:=by omega
    generalize min hi (nhr-g)=hi2 at *
    obtain ⟨hb21,hb22⟩:=hb2
    (refine @unH _ (zAi Axs ?_);(try clear hK K);intro K hK hc)
    intro xb hxb
    have nax:=Aqr va5 hxb
    have ncx:=Aqr vc5 hxb
    have nfx:=Aqr vf5 hxb
    clear hgc
    by_cases hz:g=99
    ·subst hz
     try (refine @unH _ ?_;refine zXi Axs ?_)
     refine hK _ _ ?_
     clear hK K
     (try refine @unH _ (zQ ?_))
     refine Axz rfl ?_;intro K hK
     (refine @unH _ ?_;refine zXi Axs ?_)
     refine hK _ _ ?_
     clear hK K
     (try refine @unH _ (zQ ?_))
     refine Avs (t:=true) (by simp only [Aq7,Axf,Nat.reduceEqDiff,Nat.reduceLT,↓reduceIte, *];first | done | rfl) ?_
     rw [if_pos rfl]
     generalize hG:Hp.set H5 xb _=H6
     have l26:=Hp.le_trans l25 (Aqc hG hxb)
     have vf6:=l26 _ _ vfb
     clear hG va5 vc5 vf5 nax ncx nfx hxb hg l25
     refine Bz2 rfl ?_;intro K E hK hE
     (refine @unH _ ?_;refine zXi (aN Axs (aN @Cj6 (aN @Cj7 (aN @Bks @Ayh)))) ?_)
     refine hE _ _ _ ?_
     refine Akv main H6 fb _ vf6 (.panicking _) true (.inr ⟨rfl,rfl⟩) _ (fun H8 l8=>?_)
     show wpS _ (results _ _) _ _ _
     rw [Avn results127 (by decide) (by decide) (by decide) (a:=⟨fb,0,none⟩) (by exact e6) underlying4 rfl]
     refine ⟨.bool false,by rw [if_pos rfl,cell_of Axh];rfl,lo,hi2,false,by (show Ending.returned (.tuple #[e 4,_,_])=_;rw [e4];rfl),?_,?_⟩
     ·unfold Bw4;rw [<-show _=begN ns c 0 12 from hs,if_pos (.inl rfl)]
     ·exact (((Lex.of (Hp.le_trans l2 (Hp.le_trans l26 l8))).own h0fb:Lex none H _)).toLe
    ·by_cases hz2:hi2<lo
     ·try (refine @unH _ ?_;refine zXi Axs ?_)
      refine hK _ _ ?_
      clear hK K
      (try refine @unH _ (zQ ?_))
      refine Axz rfl ?_;intro K hK
      (refine @unH _ ?_;refine zXi Axs ?_)
      refine hK _ _ ?_
      clear hK K
      (try refine @unH _ (zQ ?_))
      refine Avs (t:=true) (by simp only [Aq7,Axf,Nat.reduceEqDiff,Nat.reduceLT,↓reduceIte, *];first | done | rfl) ?_
      rw [if_pos rfl]
      generalize hG:Hp.set H5 xb _=H6
      have l26:=Hp.le_trans l25 (Aqc hG hxb)
      have vf6:=l26 _ _ vfb
      clear hG va5 vc5 vf5 nax ncx nfx hxb hg l25
      refine Bz2 rfl ?_;intro K E hK hE
      (refine @unH _ ?_;refine zXi (aN Axs (aN @Cj6 (aN @Cj7 (aN @Bks @Ayh)))) ?_)
      refine hE _ _ _ ?_
      refine Akv main H6 fb _ vf6 (.panicking _) true (.inr ⟨rfl,rfl⟩) _ (fun H8 l8=>?_)
      show wpS _ (results _ _) _ _ _
      rw [Avn results127 (by decide) (by decide) (by decide) (a:=⟨fb,0,none⟩) (by exact e6) underlying4 rfl]
      refine ⟨.bool false,by rw [if_pos rfl,cell_of Axh];rfl,lo,hi2,false,by (show Ending.returned (.tuple #[e 4,_,_])=_;rw [e4];rfl),?_,?_⟩
      ·unfold Bw4;rw [<-show _=begN ns c 0 12 from hs,if_pos (.inr hz2)]
      ·exact (((Lex.of (Hp.le_trans l2 (Hp.le_trans l26 l8))).own h0fb:Lex none H _)).toLe
     ·(refine @unH _ (zUi Axs ?_);(try clear hK K);intro K hK hc)
      generalize hG:Hp.set H5 xb _=H6
      have l26:=Hp.le_trans l25 (Aqc hG hxb)
      have vf6:=l26 _ _ vfb
      clear hG va5 vc5 vf5 nax ncx nfx hxb hg l25
      (refine @unH _ (zAi Axs ?_);(try clear hK K);intro K hK hc)
      refine ⟨_,by omega,_,k+1,lo,hi2,rfl,by omega,rfl,e0,e3,e4,rfl,e6,e17,e18,rfl,l26,by omega,?_⟩
      rw [<-show _=begN ns c 0 12 from hs,if_neg (by omega)]
   | false=>
    rw [show nsV ⟨npl,nhr,false⟩=.iface 222 (.agg #[.int .i64 nhr]) from rfl]
    have hs:Aqk ((if hi<(max lo (nhr-g+1)) then none else begN (ns.drop (k+1)) c (max lo (nhr-g+1)) hi)=begN ns c 0 12):=by
     have h:_=begN ns c 0 12:=hbeg
     simp only [Bool.false_eq_true,false_and,false_or,if_false] at h
     exact h
    clear hbeg
    (refine @unH _ (zUi Axs ?_);(try clear hK K);intro K hK hc)
    refine Aka 11 [(true,0),(true,1),(true,2),(true,3),(true,4),(true,5),(true,6),(true,7),(true,8),(true,9),(true,10)] (by kernel_rfl) (by kernel_rfl) (by simp) (by kernel_rfl) ?_;intro K hK
    (iterate 2 (refine @unH _ ?_;refine z3i Axs ?_))
    (apply Akj rfl rfl rfl;(focus ((refine @unH _ ?_;refine zXi Axs ?_);exact Cxw (Cki main H5 nhr)));simp -implicitDefEqProofs (disch:=first | omega | (simp only [qd]<;>omega)) only [Aq3,Aql])
    (iterate 8 (refine @unH _ ?_;refine z3i Axs ?_))
    refine Aky (hK _ _ ?_)
    clear hK K
    (try refine @unH _ (zQ ?_))
    rw [show (if lo<nhr-g+1 then nhr-g+1 else lo)=max lo (nhr-g+1) by split<;>omega]
    have hb2:0<=max lo (nhr-g+1)/\max lo (nhr-g+1)<=13:=by omega
    generalize max lo (nhr-g+1)=lo2 at *
    obtain ⟨hb21,hb22⟩:=hb2
    (refine @unH _ (zAi Axs ?_);(try clear hK K);intro K hK hc)
    intro xb hxb
    have nax:=Aqr va5 hxb
    have ncx:=Aqr vc5 hxb
    have nfx:=Aqr vf5 hxb
    clear hgc
    by_cases hz2:hi<lo2
    ·try (refine @unH _ ?_;refine zXi Axs ?_)
     refine hK _ _ ?_
     clear hK K
     (try refine @unH _ (zQ ?_))
     refine Axz rfl ?_;intro K hK
     (refine @unH _ ?_;refine zXi Axs ?_)
     refine hK _ _ ?_
     clear hK K
     (try refine @unH _ (zQ ?_))
     refine Avs (t:=true) (by simp only [Aq7,Axf,Nat.reduceEqDiff,Nat.reduceLT,↓reduceIte, *];first | done | rfl) ?_
     rw [if_pos rfl]
     generalize hG:Hp.set H5 xb _=H6
     have l26:=Hp.le_trans l25 (Aqc hG hxb)
     have vf6:=l26 _ _ vfb
     clear hG va5 vc5 vf5 nax ncx nfx hxb hg l25
     refine Bz2 rfl ?_;intro K E hK hE
     (refine @unH _ ?_;refine zXi (aN Axs (aN @Cj6 (aN @Cj7 (aN @Bks @Ayh)))) ?_)
     refine hE _ _ _ ?_
     refine Akv main H6 fb _ vf6 (.panicking _) true (.inr ⟨rfl,rfl⟩) _ (fun H8 l8=>?_)
     show wpS _ (results _ _) _ _ _
     rw [Avn results127 (by decide) (by decide) (by decide) (a:=⟨fb,0,none⟩) (by exact e6) underlying4 rfl]
     refine ⟨.bool false,by rw [if_pos rfl,cell_of Axh];rfl,lo2,hi,false,by (show Ending.returned (.tuple #[_,e 5,_])=_;rw [e5];rfl),?_,?_⟩
     ·unfold Bw4;rw [<-show _=begN ns c 0 12 from hs,if_pos hz2]
     ·exact (((Lex.of (Hp.le_trans l2 (Hp.le_trans l26 l8))).own h0fb:Lex none H _)).toLe
    ·(refine @unH _ (zUi Axs ?_);(try clear hK K);intro K hK hc)
     generalize hG:Hp.set H5 xb _=H6
     have l26:=Hp.le_trans l25 (Aqc hG hxb)
     have vf6:=l26 _ _ vfb
     clear hG va5 vc5 vf5 nax ncx nfx hxb hg l25
     (refine @unH _ (zAi Axs ?_);(try clear hK K);intro K hK hc)
     refine ⟨_,by omega,_,k+1,lo2,hi,rfl,by omega,rfl,e0,e3,rfl,e5,e6,e17,e18,rfl,l26,by omega,?_⟩
     rw [<-show _=begN ns c 0 12 from hs,if_neg (by omega)]
  ·obtain rfl:k=ns.length:=by omega
   rw [List.drop_length,begN] at hbeg
   replace hbeg:Aqk _:=hbeg
   obtain ⟨lo0,lo13,hi99,hi12⟩:=hlh
   (refine @unH _ (zAi Axs ?_);(try clear hK K);intro K hK hc)
   generalize hG:Hp.set H3 fb _=H4
   have vf4:=Aqb hG
   have hl:Lex none H H4:=by rw [<-hG];exact (Lex.of (Hp.le_trans l2 l23)).own h0fb
   clear hG
   refine Axr ?_
   refine Akv main H4 fb _ vf4 .returning false (.inl ⟨rfl,rfl⟩) _ (fun H8 l8=>?_)
   show wpS _ (results _ _) _ _ _
   rw [Avn results127 (by decide) (by decide) (by decide) (a:=⟨fb,0,none⟩) (by exact e6) underlying4 rfl]
   refine ⟨.bool true,by rw [if_neg (by simp),cell_of (l8 _ _ vf4)];rfl,lo,hi,true,rfl,?_,?_⟩
   ·unfold Bw4;rw [<-show _=begN ns c 0 12 from hbeg];exact ⟨rfl,rfl,rfl⟩
   ·exact Hp.le_trans hl.toLe l8
end Go.Proofs.YtaehjjbekjglkaaGreatDoor
end
