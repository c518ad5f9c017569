/- Texts SmX SmY SmZ SmRe. -/
import Derived.Test.YtaehjjbekjglkaaGreatDoorJ19
set_option linter.defProp false
set_option linter.unusedSimpArgs false
set_option linter.unusedVariables false
set_option maxRecDepth 100000
set_option maxHeartbeats 2000000
section
namespace Go.Proofs.YtaehjjbekjglkaaGreatDoor
open Go Go.X Go.Proofs.Tryz
def Ajs:=aN @Bv7 (aN @Dv7 (aN @Dyr (aN @Dw0 (aN @Dv5 (aN @Dyp (aN @Dw2 (aN @Dzn @Azx)))))))
def lowI (l:List Int):Int:=match l.getLast? with
 | none=>0
 | some x=>x+1
def Bxh (l:List Int) (k:Nat):List (List Int):=(List.range k).map fun (i:Nat)=>l++[lowI l+(i:Int)]
def Azc (n:Nat):Nat->List (List Int)
 | 0=>[[]]
 | k+1=>match (Azc n k)[k]? with
  | none=>Azc n k
  | some l=>Azc n k++Bxh l ((n:Int)-lowI l).toNat
def Ay3 (n:Nat):List (List Int):=Azc n 16
def Cv1 (n:Nat):Bool:=(List.range 17).all fun k=>decide ((Azc n k).length<=16)&&(Azc n k).all fun l=>decide (lowI l<=(n:Int))&&decide (0<=lowI l)&&decide (l.length<=4)
theorem Cv2 (n:Nat) (hn:n<=4):Cv1 n=true:=by
 rcases (by omega:n=0∨n=1∨n=2∨n=3∨n=4) with rfl | rfl | rfl | rfl | rfl<;>kernel_rfl
theorem Cxx {n k:Nat} (hn:n<=4) (hk:k<=16):(Azc n k).length<=16/\∀l∈Azc n k,lowI l<=(n:Int)/\0<=lowI l/\l.length<=4:=by
 have h:=Cv2 n hn
 unfold Cv1 at h
 rw [List.all_eq_true] at h
 have h:=h k (List.mem_range.2 (by omega))
 rw [Bool.and_eq_true,List.all_eq_true] at h
 refine ⟨by simpa using h.1,fun l hl=>?_⟩
 have:=h.2 l hl
 simp only [Bool.and_eq_true,decide_eq_true_eq] at this
 exact ⟨this.1.1,this.1.2,this.2⟩
theorem Bwp {n k:Nat} (h:(Azc n k).length<=k):∀j,Azc n (k+j)=Azc n k
 | 0=>rfl
 | j+1=>by
  have ih:=Bwp h j
  show (match (Azc n (k+j))[k+j]? with | none=>Azc n (k+j) | some l=>Azc n (k+j)++Bxh l ((n:Int)-lowI l).toNat)=_
  rw [ih,List.getElem?_eq_none (by omega)]
theorem Cz7 (l:List Int) (k:Nat):Bxh l (k+1)=Bxh l k++[l++[lowI l+(k:Int)]]:=by
 unfold Bxh
 rw [List.range_succ,List.map_append]
 rfl
theorem Cvz {H0 H:Hp} {b:Nat} {u:Value} (hb:H0 b=none) (hl:H0.le H) (hv:H b=some (true,.cells #[u] 23 (0,0))):RowX none H0 H (.slice (some ⟨b,0,none⟩) 1 1) 23 [u]:=
 ⟨Lex.of hl,.inr ⟨b,#[u],1,hb,hv,rfl,rfl,Nat.le_refl _,fun i w h=>by
  cases i with
  | zero=>simpa using h
  | succ i=>simp at h⟩⟩
theorem Bwo {H:Hp} {a:Option Addr} {n cap:Nat} {xss:List (List Int)} (h:SlR H (.slice a n cap) xss) {i:Nat} {xs:List Int} (hx:xss[i]?=some xs) :
  ∃(b o:Nat) (p:Bool) (c:Array Value) (fr:Nat×Nat) (w:Value),a=some ⟨b,o,none⟩/\H b=some (p,.cells c 23 fr)/\c[o+i]?=some w/\SlI H w xs:=by
 obtain ⟨a',cap',he,_,hg⟩:=h
 cases he
 exact hg i xs hx
theorem last_at {l:List Int} (h:l≠[]):∃x,l[l.length-1]?=some x/\lowI l=x+1:=by
 unfold lowI
 rw [List.getLast?_eq_getElem?]
 have hl:0<l.length:=List.length_pos_iff.2 h
 rw [List.getElem?_eq_getElem (show l.length-1<l.length by omega)]
 exact ⟨_,rfl,rfl⟩
theorem Cqc (m:Md) (H:Hp) (n:Nat) (hn:n<=4) :
  FnX Tryz.prog m 65 #[.int .i64 (n:Nat)] H fun e H'=>∃v,e=.returned v/\SlR H' v (Ay3 n)/\H.le H':=by
 refine Aqn func65 rfl ntmps65 (by simp) ?_
 (refine @unH _ (zA Ajs ?_);(try clear hK K);intro K hK hc)
 (intro ob hob;generalize hG:Hp.set _ ob _=H1;have lH1:=Aqc hG hob;have vob:=Aqb hG;clear hG)
 have hrow:RowX none H H1 (.slice (some ⟨ob,0,none⟩) 1 1) 23 [.slice none 0 0]:=Cvz hob lH1 vob
 have hR:Rows H1 [.slice none 0 0] (Azc n 0):=⟨rfl,fun i xs hi=>by
  cases i with
  | zero=>simp only [Azc,List.getElem?_cons_zero,Option.some.injEq] at hi;subst hi;exact ⟨_,rfl,nilS _⟩
  | succ i=>simp [Azc] at hi⟩
 clear hob lH1 vob
 (refine @unH _ (zU Ajs ?_);(try clear hK K);intro K hK hc)
 refine Axg (fun w a' H'=>∃e k ov vs,w=16-k/\k<=16/\k<=(Azc n k).length/\a'=act 44 e []/\e 0=.int .i64 (n:Nat)/\e 3=ov/\e 4=.int .i64 (k:Nat)/\RowX none H H' ov 23 vs/\Rows H' vs (Azc n k)) (n:=16) ?_ ?_
 ·exact ⟨_,0,_,_,by omega,by omega,Nat.zero_le _,rfl,rfl,rfl,rfl,hrow,hR⟩
 clear hrow hR
 rintro w a' H2 ⟨e,k,ov,vs,rfl,hk,hk2,rfl,e0,e3,e4,hrow,hR⟩
 obtain ⟨hlen,hall⟩:=Cxx hn hk
 have hsucc:Azc n (k+1)=match (Azc n k)[k]? with | none=>Azc n k | some l=>Azc n k++Bxh l ((n:Int)-lowI l).toNat:=rfl
 have hend:=Bwp (n:=n) (k:=k)
 obtain ⟨oa,oc,rfl⟩:=hrow.len
 have hvl:=hR.1
 have hsr:=hrow.rows hR
 generalize Azc n k=R0 at *
 rw [hvl] at hsr e3
 by_cases hlt:k<R0.length
 ·have hkt:=List.getElem?_eq_getElem hlt
  obtain ⟨g1,g2,g3⟩:=hall _ (List.getElem_mem hlt)
  generalize R0[k]=l at *
  rw [hkt] at hsucc
  simp only at hsucc
  replace hsucc:Aqk _:=hsucc
  replace hall:Aqk _:=hall
  replace hend:Aqk _:=hend
  obtain ⟨b,o,p,c,fr,u,rfl,hb,hcu,hu⟩:=Bwo hsr hkt
  obtain ⟨ua,uc,rfl,_,_⟩:=id hu
  replace hvl:Aqk _:=hvl
  refine Avt (fun a' H'=>∃e,a'=act 44 e []/\e 0=.int .i64 (n:Nat)/\e 3=.slice (some ⟨b,o,none⟩) R0.length oc/\e 4=.int .i64 (k:Nat)/\H'=H2) ?_ ?_
  ·(refine @unH _ (zA Ajs ?_);(try clear hK K);intro K hK hc)
   exact ⟨_,rfl,e0,e3,e4,trivial⟩
  clear e0 e3 e4
  rintro _ HQ ⟨e,rfl,e0,e3,e4,hQ⟩
  rw [hQ];clear hQ HQ
  refine Axn (Ax7 ?_)
  refine Axn ?_
  (refine @unH _ (zS Ajs ?_);(try clear hK K);intro K hK hc)
  refine Avt (fun a' H'=>∃e,a'=act 44 e []/\e 0=.int .i64 (n:Nat)/\e 3=.slice (some ⟨b,o,none⟩) R0.length oc/\e 4=.int .i64 (k:Nat)/\e 5=.slice ua l.length uc/\e 6=.int .i64 (lowI l)/\H'=H2) ?_ ?_
  ·by_cases hl0:l=[]
   ·have hlow:lowI l=0:=by rw [hl0];rfl
    have hln:l.length<=0:=by rw [hl0];exact Nat.le_refl _
    replace hlow:Aqk _:=hlow
    clear hl0
    (refine @unH _ (zA Ajs ?_);(try clear hK K);intro K hK hc)
    exact ⟨_,rfl,e0,e3,e4,rfl,by rw [show lowI l=0 from hlow];rfl,trivial⟩
   ·obtain ⟨z,hz,hlow⟩:=last_at hl0
    have hln:0<l.length:=List.length_pos_iff.2 hl0
    obtain ⟨ub,uo,up,cc,ufr,rfl,hub,hux⟩:=hu.get hz
    have hux2:cc[uo+((l.length:Int)-1).toNat]?=some (.int .i64 z):=by rw [show ((l.length:Int)-1).toNat=l.length-1 by omega];exact hux
    have hz0:0<=z+1/\z+1<=n:=by rw [<-hlow];exact ⟨g2,g1⟩
    obtain ⟨hz1,hz2⟩:=hz0
    replace hlow:Aqk _:=hlow
    clear hl0
    (refine @unH _ (zA Ajs ?_);(try clear hK K);intro K hK hc)
    exact ⟨_,rfl,e0,e3,e4,rfl,by rw [show lowI l=_ from hlow];rfl,trivial⟩
  clear e0 e3 e4
  rintro _ HQ ⟨e,rfl,e0,e3,e4,e5,e6,hQ⟩
  rw [hQ];clear hQ HQ
  (refine @unH _ (zA Ajs ?_);(try clear hK K);intro K hK hc)
  obtain ⟨q,hq⟩:∃q:Nat,q=((n:Int)-lowI l).toNat:=⟨_,rfl⟩
  have hqn:lowI l+(q:Int)=n:=by omega
  rw [<-hq] at hsucc
  have hq4:q<=4:=by omega
  clear hq
  have hns:=Cz7 l
  generalize lowI l=lo at *
  replace hns:Aqk _:=hns
  refine Axg (fun w a' H'=>∃e x ov vs,w=q-x/\x<=q/\a'=act 44 e []/\e 0=.int .i64 (n:Nat)/\e 3=ov/\e 4=.int .i64 (k:Nat)/\e 5=.slice ua l.length uc/\e 7=.int .i64 (lo+(x:Int))/\RowX none H H' ov 23 vs/\Rows H' vs (R0++Bxh l x)/\SlI H' (.slice ua l.length uc) l) (n:=q) ?_ ?_
  ·exact ⟨_,0,.slice (some ⟨b,o,none⟩) vs.length oc,vs,by omega,by omega,rfl,e0,by rw [show vs.length=R0.length from hvl];exact e3,e4,e5,by simp [Axf],hrow,by simpa [Bxh] using hR,hu⟩
  clear e0 e3 e4 e5 e6 hrow hR hu hsr hb hcu
  rintro w a' H4 ⟨e,x,ov,vs,rfl,hx,rfl,e0,e3,e4,e5,e7,hrow,hR,hu⟩
  by_cases hxq:x<q
  ·obtain ⟨oa,oc,rfl⟩:=hrow.len
   have hvb:vs.length<=20:=by
    rw [hR.1,List.length_append]
    simp only [Bxh,List.length_map,List.length_range]
    omega
   (refine @unH _ (zA Ajs ?_);(try clear hK K);intro K hK hc)
   refine (Czk _ H4 _ l hu (by omega)).runs.mono ?_
   rintro _ H5 ⟨cv,rfl,hcl⟩
   have l45:=hcl.1.toLe
   obtain ⟨ca,cc2,rfl⟩:=id hcl.len
   rw [Aqz] at hcl ⊢
   (refine @unH _ (zU Ajs ?_);intro _ _ hc)
   intro nb hnb
   refine Cwt hcl hnb (by omega) _ _ _ _ (fun v6 H6 hw ho6=>?_)
   have l46:=hw.1.toLe
   have hwv:=hw.ints
   obtain ⟨wa,wc,rfl⟩:=id hw.len
   (refine @unH _ (zU Ajs ?_);intro _ _ hc)
   intro mb hmb
   refine Cwu (hrow.le l46) rfl hmb (by omega) _ _ _ _ (fun v7 H7 hrB hoB=>?_)
   (refine @unH _ (zU Ajs ?_);(try clear hK K);intro K hK hc)
   have hmv:∀v xs,SlI H6 v xs->SlI H7 v xs:=fun v xs h=>h.move fun x p c fr hx=>hoB.cells hx (by decide)
   refine ⟨_,by omega,_,x+1,v7,_,rfl,hxq,rfl,e0,rfl,e4,e5,?_,hrB,?_,hmv _ _ (hu.le l46)⟩
   ·simp only [Axf,Nat.reduceEqDiff,↓reduceIte]
    exact congrArg (Value.int .i64) (by omega)
   ·rw [show Bxh l (x+1)=_ from (show ∀k:Nat,Bxh l (k+1)=Bxh l k++[l++[lo+(k:Int)]] from hns) x,<-List.append_assoc]
    exact (hR.mono fun v xs h=>hmv _ _ (h.le l46)).snoc (hmv _ _ hwv)
  ·obtain rfl:x=q:=by omega
   obtain ⟨oa,oc,rfl⟩:=hrow.len
   (refine @unH _ (zA Ajs ?_);(try clear hK K);intro K hK hc)
   refine ⟨_,by omega,_,k+1,_,vs,rfl,by omega,?_,rfl,e0,e3,rfl,hrow,by rw [show Azc n (k+1)=_ from hsucc];exact hR⟩
   rw [show Azc n (k+1)=_ from hsucc,List.length_append]
   omega
 ·obtain rfl:k=R0.length:=by omega
  replace hend:Aqk _:=hend
  replace hsucc:Aqk _:=hsucc
  replace hall:Aqk _:=hall
  replace hvl:Aqk _:=hvl
  (refine @unH _ (zA Ajs ?_);(try clear hK K);intro K hK hc)
  (refine @unH _ ?_;refine z9 results65 ?_)
  refine ⟨_,rfl,?_,hrow.1.toLe⟩
  have h16:=(show R0.length<=R0.length->∀j:Nat,Azc n (R0.length+j)=R0 from hend) (Nat.le_refl _) (16-R0.length)
  rw [show R0.length+(16-R0.length)=16 by omega] at h16
  unfold Ay3
  rw [h16]
  exact hsr
end Go.Proofs.YtaehjjbekjglkaaGreatDoor
end
section
namespace Go.X
open Go
theorem RdG.cells {sz:Nat} (hsz:0<sz) {H:Hp} {b o n cap:Nat} {rows:List (List Value)} (h:RdG sz H (.slice (some ⟨b,o,none⟩) n cap) rows):∀j u,(rows.flatMap id)[j]?=some u->H.cell ⟨b,o+j,none⟩=some u:=by
 have hl:∀r∈rows,(id r:List Value).length=sz:=fun r hr=>by
  obtain ⟨i,hi⟩:=List.getElem?_of_mem hr
  obtain ⟨_,_,_,_,_,_,_,_,_,h4,_⟩:=h.get hi
  exact h4
 intro j u hj
 rw [Ayc id sz hsz rows hl] at hj
 cases hi:rows[j/sz]? with
 | none=>rw [hi] at hj;cases hj
 | some r=>
  rw [hi] at hj
  simp only [Option.bind_some,id] at hj
  obtain ⟨b',o',p,c,_,fr,h1,h2,h3,h4,h5⟩:=h.get hi
  cases h1
  have hm:j%sz<sz:=Nat.mod_lt _ hsz
  have hx:=Bxk h5 h3 hj
  rw [cell_of h2]
  rw [show o+j=o+j/sz*sz+j%sz by have:=Nat.div_add_mod j sz;rw [Nat.mul_comm] at this;omega]
  exact hx
theorem SlG.cells {e:TypeId} {sz:Nat} (hsz:0<sz) {H:Hp} {b o n cap:Nat} {rows:List (List Value)} (h:SlG e sz H (.slice (some ⟨b,o,none⟩) n cap) rows):∀j u,(rows.flatMap id)[j]?=some u->H.cell ⟨b,o+j,none⟩=some u:=RdG.cells hsz h.rd
theorem SlG.of {e:TypeId} {sz:Nat} (hsz:0<sz) {H:Hp} {b N:Nat} {p:Bool} {c:Array Value} {fr:Nat×Nat} {rows:List (List Value)} (hb:H b=some (p,.cells c e fr)) (hr:∀r∈rows,r.length=sz) (hc:∀(j:Nat) (u:Value),(rows.flatMap id)[j]?=some u->c[j]?=some u) (hN:rows.length<=N):SlG e sz H (.slice (some ⟨b,0,none⟩) rows.length N) rows:=by
 refine ⟨_,N,rfl,hN,fun i r hi=>⟨b,0,p,c,fr,rfl,hb,?_,hr r (List.mem_of_getElem? hi),?_⟩⟩
 ·have hir:=(List.getElem?_eq_some_iff.1 hi).1
  have hlen:(rows.flatMap id).length=rows.length*sz:=by
   rw [Avj id sz rows hr]
  have h1:i*sz+sz<=rows.length*sz:=by
   rw [<-Nat.succ_mul]
   exact Nat.mul_le_mul_right _ hir
  have h2:i*sz+sz-1<(rows.flatMap id).length:=by omega
  have h3:=hc _ _ (List.getElem?_eq_getElem h2)
  have h4:=(Array.getElem?_eq_some_iff.1 h3).1
  omega
 ·apply Array.ext_getElem?
  intro k
  have hrl:=hr r (List.mem_of_getElem? hi)
  rw [Array.getElem?_extract]
  by_cases hk:k<sz
  ·have hfl:(rows.flatMap id)[i*sz+k]?=r[k]?:=by
    rw [Ayc id sz hsz rows hr,Nat.mul_comm,Nat.mul_add_div hsz,Nat.div_eq_of_lt hk,Nat.add_zero,hi,Nat.mul_add_mod,Nat.mod_eq_of_lt hk]
    rfl
   have h2:k<r.length:=by omega
   have h3:=hc (i*sz+k) r[k] (by rw [hfl,List.getElem?_eq_getElem h2])
   have h4:=(Array.getElem?_eq_some_iff.1 h3).1
   rw [if_pos (by omega),Nat.zero_add,h3]
   simp [h2]
  ·rw [if_neg (by omega),Array.getElem?_eq_none (by simp;omega)]
theorem Bvm {P:Program} {t e:TypeId} {z:Value} {inf:TypeInfo} {sz:Nat} (hsz:0<sz) (hu:P.underlying t=some (.slice e)) (hs:∀w,(sizeOf e).run P w=.ok sz w) (hz:∀w,(zeroValue e).run P w=.ok z w) (hzc:z.cells.size=sz)
  (hi:∀w,(typeInfo e).run P w=.ok inf w) (hby:inf.bytes<=1024) (hby0:0<inf.bytes) {H:Hp} {a:Option Addr} {n:Nat} {rows1 rows2:List (List Value)} (h1:SlG e sz H (.slice a n n) rows1)
  {g:Option Addr} {m cap:Nat} (h2:RdG sz H (.slice g m cap) rows2) (hn:n+m<=1000000)
  (ty:TypeId) (cb:Array Bool) (K:Next->Hp->Prop) (E:Value->Hp->Prop)
  (h0:rows2=[]->K (.value (.slice a n n)) H)
  (h:∀b' C N,H b'=none->rows2≠[]->n+m<=N->C.size=N*sz->(∀r∈rows1++rows2,r.length=sz)->(∀(j:Nat) (u:Value),((rows1++rows2).flatMap id)[j]?=some u->C[j]?=some u)->K (.value (.slice (some ⟨b',0,none⟩) (n+m) N)) (H.set b' (.cells C e (0,0)))) :
  wpS P (builtin .append #[t,t] ty cb #[.slice a n n,.slice g m cap]) H K E:=by
 have hl1:=h1.len.1
 have hl2:=h2.len.1
 by_cases hm:m=0
 ·subst hm
  have:rows2=[]:=List.eq_nil_of_length_eq_zero hl2.symm
  exact Aw9 hu hs _ _ _ _ _ _ _ (Nat.le_refl _) _ _ (h0 this)
 have hr1:∀r∈rows1,(id r:List Value).length=sz:=fun r hr=>by
  obtain ⟨i,hi⟩:=List.getElem?_of_mem hr
  obtain ⟨_,_,_,_,_,_,_,_,h4,_⟩:=h1.get hi
  exact h4
 have hr2:∀r∈rows2,(id r:List Value).length=sz:=fun r hr=>by
  obtain ⟨i,hi⟩:=List.getElem?_of_mem hr
  obtain ⟨_,_,_,_,_,_,_,_,_,h4,_⟩:=h2.get hi
  exact h4
 obtain ⟨⟨gb,go,rfl⟩⟩:Nonempty (∃gb go,g=some ⟨gb,go,none⟩):=by
  cases hx:rows2 with
  | nil=>rw [hx] at hl2;exact absurd hl2 hm
  | cons r l=>
   obtain ⟨b,o,_,_,_,_,hh,_⟩:=h2.get (i:=0) (r:=r) (by rw [hx];rfl)
   exact ⟨b,o,hh⟩
 have hinf:=Aki hi
 have hf1:(rows1.flatMap id).length=n*sz:=by rw [Avj id sz rows1 hr1,hl1]
 have hf2:(rows2.flatMap id).length=m*sz:=by rw [Avj id sz rows2 hr2,hl2]
 simp only [builtin]
 rw [Aqa]
 unfold Builtin.append_
 simp only [List.getElem?_toArray,List.getElem?_cons_zero,List.getElem?_cons_succ]
 rw [Aqa,Aqj hu]
 simp only [Aqa,Aq0 hs,Aqj hu,Aqf,Bool.false_eq_true,if_false,Builtin.lenOf,Bzz]
 have hfirst:∀(K':Array Value->Hp->Prop),wpS P (Builtin.firstCells sz m (.slice (some ⟨gb,go,none⟩) m cap)) H K' E=K' (rows2.flatMap id).toArray H:=fun K'=>by
  unfold Builtin.firstCells
  exact Azl hf2 (h2.cells hsz) K' E
 have hold:∀(K':Array Value->Hp->Prop),wpS P (Builtin.firstCells sz n (.slice a n n)) H K' E=K' (rows1.flatMap id).toArray H:=fun K'=>by
  unfold Builtin.firstCells
  cases hx:rows1 with
  | nil=>
   rw [hx] at hl1
   simp only [List.length_nil] at hl1
   subst hl1
   cases a with
   | none=>rfl
   | some a=>simp only [loadCells,Nat.zero_mul];rfl
  | cons r l=>
   obtain ⟨b,o,_,_,_,hh,_⟩:=h1.get (i:=0) (r:=r) (by rw [hx];rfl)
   subst hh
   simp only
   rw [<-hx]
   exact Azl hf1 (h1.cells hsz) K' E
 rw [if_neg (show ¬n+m<=n by omega)]
 have hnc:=Bju (n+m) n (by omega)
 simp only [Ajx hinf]
 rw [if_neg (by intro hh;have:=hh.2;simp at this;omega)]
 rw [if_neg (by
  have:Builtin.nextslicecap (n+m) n*inf.bytes<=(2*(n+m)+400)*1024:=Nat.mul_le_mul hnc hby
  omega)]
 simp only [choose,wpS,Question.forced,Bool.false_eq_true,if_false,Question.cut]
 intro t
 simp only [Awk,hold,Bool.not_false,if_true,hfirst,Axe hz,newRow,newObj,Aqa,wpS,Aqf]
 intro b' hb'
 generalize hN:n+m+t%(2 ^ 63-(n+m))=N
 have hNge:n+m<=N:=by omega
 have hall:∀r∈rows1++rows2,r.length=sz:=fun r hr=>by
  rcases List.mem_append.1 hr with h | h
  ·exact hr1 r h
  ·exact hr2 r h
 generalize hC:(rows1.flatMap id).toArray++(rows2.flatMap id).toArray++_=C
 refine h b' C N hb' (fun e=>hm (by rw [hl2,e];rfl)) hNge ?_ hall fun j u hj=>?_
 ·rw [<-hC]
  simp only [Array.size_append,List.size_toArray,Builtin.zeroCells,Array.size_map,Array.size_range,hzc,hf1,hf2]
  rw [<-Nat.add_mul,<-Nat.add_mul]
  congr 1
  omega
 ·rw [List.flatMap_append] at hj
  have hjl:=(List.getElem?_eq_some_iff.1 hj).1
  rw [<-hC,Array.getElem?_append_left (by simpa using hjl)]
  simpa using hj
theorem Bvn {P:Program} {t e:TypeId} {z:Value} {inf:TypeInfo} {sz:Nat} (hsz:0<sz) (hu:P.underlying t=some (.slice e)) (hs:∀w,(sizeOf e).run P w=.ok sz w) (hz:∀w,(zeroValue e).run P w=.ok z w) (hzc:z.cells.size=sz)
  (hi:∀w,(typeInfo e).run P w=.ok inf w) (hby:inf.bytes<=1024) (hby0:0<inf.bytes) {H:Hp} {a:Option Addr} {n:Nat} {rows1 rows2:List (List Value)} (h1:SlG e sz H (.slice a n n) rows1)
  {g:Option Addr} {m cap:Nat} (h2:SlG e sz H (.slice g m cap) rows2) (hn:n+m<=1000000)
  (ty:TypeId) (cb:Array Bool) (K:Next->Hp->Prop) (E:Value->Hp->Prop)
  (h:∀v' H',SlG e sz H' v' (rows1++rows2)->H.le H'->K (.value v') H') :
  wpS P (builtin .append #[t,t] ty cb #[.slice a n n,.slice g m cap]) H K E:=by
 have hl1:=h1.len.1
 have hl2:=h2.len.1
 refine Bvm hsz hu hs hz hzc hi hby hby0 h1 h2.rd hn ty cb K E (fun e=>h _ H (by rw [e,List.append_nil];exact h1) (Hp.le_refl _)) fun b' C N hb' _ hN _ hall hC=>?_
 have hb:(H.set b' (.cells C e (0,0))) b'=some (true,.cells C e (0,0)):=by rw [Axp,if_pos rfl]
 have hres:=SlG.of hsz (rows:=rows1++rows2) (N:=N) hb hall hC (by rw [List.length_append,<-hl1,<-hl2];exact hN)
 rw [List.length_append,<-hl1,<-hl2] at hres
 exact h _ _ hres (Hp.le_set hb')
end Go.X
end
section
namespace Go.X
open Go
theorem SlG.hi {e:TypeId} {sz:Nat} {H:Hp} {a:Option Addr} {n cap:Nat} {rows:List (List Value)} (h:SlG e sz H (.slice a n cap) rows) {k:Nat} (hk:k<=n):SlG e sz H (.slice a k k) (rows.take k):=by
 obtain ⟨h1,h2⟩:=h.len
 have hl:(rows.take k).length=k:=by rw [List.length_take];omega
 refine ⟨a,k,by rw [hl],by rw [hl];exact Nat.le_refl _,fun i r hr=>?_⟩
 have hi:i<k:=by have:=(List.getElem?_eq_some_iff.1 hr).1;omega
 rw [List.getElem?_take_of_lt hi] at hr
 exact h.get hr
theorem SlG.lo {e:TypeId} {sz:Nat} {H:Hp} {b o n cap:Nat} {rows:List (List Value)} (h:SlG e sz H (.slice (some ⟨b,o,none⟩) n cap) rows) {k:Nat} (hk:k<=n):SlG e sz H (.slice (if cap=k then some ⟨b,o,none⟩ else some ⟨b,o+k*sz,none⟩) (n-k) (cap-k)) (rows.drop k):=by
 obtain ⟨h1,h2⟩:=h.len
 have hl:(rows.drop k).length=n-k:=by rw [List.length_drop];omega
 refine ⟨_,cap-k,by rw [hl],by rw [hl];omega,fun i r hr=>?_⟩
 have hi:i<n-k:=by have:=(List.getElem?_eq_some_iff.1 hr).1;omega
 rw [List.getElem?_drop] at hr
 obtain ⟨b',o',p,c,fr,g1,g2,g3,g4,g5⟩:=h.get hr
 cases g1
 have e1:o+k*sz+i*sz=o+(k+i)*sz:=by rw [Nat.add_mul];omega
 exact ⟨b,o+k*sz,p,c,fr,by rw [if_neg (by omega)],g2,by rw [e1];exact g3,g4,by rw [e1];exact g5⟩
end Go.X
namespace Go.Proofs.YtaehjjbekjglkaaGreatDoor
open Go Go.X Go.Proofs.Tryz
def Ax2:=aN @Dw9 (aN @Bkg (aN @Dwl (aN @Dw1 (aN @Dv6 (aN @Dzg (aN @Dv7 (aN @Dyr (aN @Dw0 (aN @Dyw (aN @Dyh (aN @Dv5 (aN @Dyp (aN @Dw2 (aN (fun H=>Bk6 (H:=H) underlying24 sizeOf32) (aN (fun H=>Bk7 (H:=H) underlying24 sizeOf32) (aN (fun H=>Bqq (H:=H) underlying24 sizeOf32) (aN (fun H=>Bq3 (H:=H) underlying24 sizeOf32) (aN @Dy8 @Dzh))))))))))))))))))
def woN (ns:List Ns) (l:List Int):List Ns:=l.foldr (fun i L=>L.take i.toNat++L.drop (i.toNat+1)) ns
def woS (s:Sm) (l:List Int):Sm:=⟨s.places,s.doors,s.hampers,woN s.noses l⟩
theorem Cqs {ns:List Ns}:∀ {l:List Int} {n:Ns},n∈woN ns l->n∈ns
 | [],_,h=>h
 | i::l,n,h=>by
  unfold woN at h
  rw [List.foldr_cons] at h
  rcases List.mem_append.1 h with h | h
  ·exact Cqs (l:=l) (List.mem_of_mem_take h)
  ·exact Cqs (l:=l) (List.mem_of_mem_drop h)
theorem Cwd {ns:List Ns}:∀(l:List Int),(woN ns l).length<=ns.length
 | []=>Nat.le_refl _
 | i::l=>by
  have:=Cwd (ns:=ns) l
  unfold woN at this ⊢
  rw [List.foldr_cons,List.length_append,List.length_take,List.length_drop]
  omega
theorem Dk0 {s:Sm} (ok:SmOk s) (l:List Int):SmOk (woS s l):=
 ⟨ok.p0,ok.p1,ok.dl,ok.dk,ok.h0,ok.h1,ok.hk,ok.hd,Nat.le_trans (Cwd l) ok.nl,fun n hn=>ok.nk n (Cqs hn)⟩
def Cvb (n:Nat):Bool:=(Ay3 n).all fun l=>decide (l.length<=n)&&(List.range l.length).all fun k=>decide (0<=l.getD k 0)&&decide (l.getD k 0+((l.length:Int)-1-(k:Int))<(n:Int))
theorem Cvc (n:Nat) (hn:n<=4):Cvb n=true:=by
 rcases (by omega:n=0∨n=1∨n=2∨n=3∨n=4) with rfl | rfl | rfl | rfl | rfl<;>kernel_rfl
theorem Dqd {n:Nat} (hn:n<=4) {l:List Int} (hl:l∈Ay3 n):l.length<=n/\∀(k:Nat) (x:Int),l[k]?=some x->0<=x/\x+((l.length:Int)-1-(k:Int))<(n:Int):=by
 have h:=Cvc n hn
 unfold Cvb at h
 rw [List.all_eq_true] at h
 have h:=h l hl
 rw [Bool.and_eq_true,List.all_eq_true] at h
 refine ⟨by simpa using h.1,fun k x hx=>?_⟩
 have hk:=(List.getElem?_eq_some_iff.1 hx).1
 have:=h.2 k (List.mem_range.2 hk)
 simp only [Bool.and_eq_true,decide_eq_true_eq,List.getD,hx,Option.getD_some] at this
 exact this
theorem Bjn {α:Type} {p:α->Bool}:∀ {L:List α} {k:Nat} {l:α},L[k]?=some l->(∀x∈L.take k,p x=false)->p l=true->L.find? p=some l
 | [],_,_,h,_,_=>by simp at h
 | a::L,0,l,h,_,hp=>by
  simp only [List.getElem?_cons_zero,Option.some.injEq] at h
  subst h
  rw [List.find?_cons,hp]
 | a::L,k+1,l,h,hn,hp=>by
  rw [List.find?_cons,hn a (by simp)]
  exact Bjn (k:=k) (by simpa using h) (fun x hx=>hn x (by simp [hx])) hp
def wroF (s:Sm):List Int:=((Ay3 s.noses.length).find? fun l=>decide (0<Azy (woS s l))).getD []
theorem Cqg (H:Hp) (s:Sm) (dv hv nv:Value) (hs:SmIn H dv hv nv s) (ok:SmOk s) :
  FnX Tryz.prog (.wg Tryz.prog) 20 #[smV s.places dv hv nv] H fun e H'=>∃v,e=.returned (.tuple #[v,.int .i64 0])/\SlI H' v (wroF s)/\H.le H':=by
 obtain ⟨da,dc,ha,kc,na,nc,rfl,rfl,rfl,l1,l2,l3⟩:=hs.forms
 have hnl:=ok.nl
 refine Aqn func20 rfl ntmps20 (by simp) ?_
 (refine @unH _ (zA Ax2 ?_);(try clear hK K);intro K hK hc)
 (intro sb hsb;generalize hG:Hp.set _ sb _=H1;have lH1:=Aqc hG hsb;have vsb:=Aqb hG;clear hG)
 have hs1:=hs.le lH1
 clear hs hsb
 (refine @unH _ (zU Ax2 ?_);(try clear hK K);intro K hK hc)
 refine (Avi _ H1 s _ _ _ hs1 ok).runs.mono ?_
 rintro _ H2 ⟨rfl,lH2⟩
 have l02:=Hp.le_trans lH1 lH2
 have vs2:=lH2 _ _ vsb
 have hs2:=hs1.le lH2
 clear lH1 lH2 vsb hs1
 (refine @unH _ (zU Ax2 ?_);(try clear hK K);intro K hK hc)
 refine (Cqc _ H2 s.noses.length hnl).runs.mono ?_
 rintro _ H3 ⟨lv,rfl,hlv,lH3⟩
 have l03:=Hp.le_trans l02 lH3
 have vs3:=lH3 _ _ vs2
 have hs3:=hs2.le lH3
 clear l02 lH3 vs2 hs2
 have hlo:=fun l (hl:l∈Ay3 s.noses.length)=>Dqd hnl hl
 have hwr:wroF s=((Ay3 s.noses.length).find? fun l=>decide (0<Azy (woS s l))).getD []:=rfl
 have hll:(Ay3 s.noses.length).length<=16:=(Cxx hnl (Nat.le_refl _)).1
 generalize Ay3 s.noses.length=LL at *
 replace hlo:Aqk _:=hlo
 replace hwr:Aqk _:=hwr
 obtain ⟨la,lc,rfl,hlc,_⟩:=id hlv
 (refine @unH _ (zU Ax2 ?_);(try clear hK K);intro K hK hc)
 refine Axg (fun w a' H'=>∃e,∃k:Nat,w=LL.length-k/\k<=LL.length/\a'=act 52 e []/\e 1=.pointer (some ⟨sb,0,none⟩)/\e 18=.slice la LL.length lc/\e 19=.int .i64 (LL.length:Nat)/\e 20=.int .i64 (k:Nat)/\H.le H'/\H3.le H'/\∀l∈LL.take k,decide (0<Azy (woS s l))=false) (n:=LL.length) ?_ ?_
 ·exact ⟨_,0,by omega,by omega,rfl,rfl,rfl,rfl,rfl,l03,Hp.le_refl _,fun l hl=>by simp at hl⟩
 rintro w a' H4 ⟨e,k,rfl,hk,rfl,e1,e18,e19,e20,l04,l34,hno⟩
 have vs4:=l34 _ _ vs3
 have hs4:=hs3.le l34
 have hlv4:=hlv.le l34
 by_cases hlt:k<LL.length
 ·have hkt:=List.getElem?_eq_getElem hlt
  obtain ⟨hln,hlx⟩:=(show ∀l∈LL,_ from hlo) _ (List.getElem_mem hlt)
  have hst:(∀q:Bool,decide (0<Azy (woS s LL[k]))=q->(q=true->wroF s=LL[k])/\(q=false->∀l∈LL.take (k+1),decide (0<Azy (woS s l))=false)):=fun q hq=>by
   subst hq
   refine ⟨fun ht=>?_,fun hf l hl=>?_⟩
   ·rw [show wroF s=_ from hwr,Bjn (p:=fun l=>decide (0<Azy (woS s l))) hkt hno ht]
    rfl
   ·rw [List.take_add_one,hkt,Option.toList_some] at hl
    rcases List.mem_append.1 hl with h | h
    ·exact hno l h
    ·simp only [List.mem_cons,List.not_mem_nil,or_false] at h
     rw [h];exact hf
  generalize LL[k]=l at *
  obtain ⟨b,o,p,c,fr,u,rfl,hb,hcu,hu⟩:=Bwo hlv4 hkt
  obtain ⟨ua,uc,rfl,_,_⟩:=id hu
  replace hst:Aqk _:=hst
  replace hlx:Aqk _:=hlx
  replace hno:Aqk _:=hno
  (refine @unH _ (zA Ax2 ?_);(try clear hK K);intro K hK hc)
  (intro xb hxb;generalize hG:Hp.set _ xb _=H5;have lH5:=Aqc hG hxb;have vxb:=Aqb hG;clear hG)
  have hs5:=hs4.le lH5
  have hu5:=hu.le lH5
  have l05:=Hp.le_trans l04 lH5
  have l35:=Hp.le_trans l34 lH5
  have f3x:H3 xb=none:=Hp.le_none l34 hxb
  have f0x:H xb=none:=Hp.le_none l04 hxb
  clear lH5 l04 l34 hs4 hlv4 vs4 hb hcu hu hxb
  (refine @unH _ (zU Ax2 ?_);(try clear hK K);intro K hK hc)
  refine Axg (fun w a' H'=>∃e,∃j:Nat,∃na' n' nc',j=w/\j<=l.length/\a'=act 52 e []/\e 1=.pointer (some ⟨sb,0,none⟩)/\e 6=.slice ua l.length uc/\e 7=.pointer (some ⟨xb,0,none⟩)/\e 8=.int .i64 ((j:Int)-1)/\e 18=.slice (some ⟨b,o,none⟩) LL.length lc/\e 19=.int .i64 (LL.length:Nat)/\e 20=.int .i64 (k:Nat)/\(∀c x,c≠xb->H5 c=some x->H' c=some x)/\H' xb=some (true,smO s.places (.slice da s.doors.length dc) (.slice ha s.hampers.length kc) (.slice na' n' nc'))/\SlN H' (.slice na' n' nc') (woN s.noses (l.drop j))/\n'+(l.length-j)=s.noses.length) (n:=l.length) ?_ ?_
  ·exact ⟨_,l.length,na,_,nc,by omega,Nat.le_refl _,rfl,e1,rfl,rfl,rfl,e18,e19,e20,fun _ _ _ hx=>hx,vxb,by rw [List.drop_length];exact hs5.nn,by omega⟩
  clear e1 e18 e19 e20
  rintro w a' H6 ⟨e,j,na',n',nc',rfl,hj,rfl,e1,e6,e7,e8,e18,e19,e20,hf6,vx6,hn6,hlen⟩
  have hu6:SlI H6 (.slice ua l.length uc) l:=hu5.move fun x p c fr hx=>hf6 _ _ (fun e=>by rw [e,vxb] at hx;simp at hx) hx
  by_cases hj0:j=0
  ·subst hj0
   (refine @unH _ (zA Ax2 ?_);(try clear hK K);intro K hK hc)
   have hsw:SmIn H6 (.slice da s.doors.length dc) (.slice ha s.hampers.length kc) (.slice na' n' nc') (woS s l):=⟨hs5.dd.move fun x p c fr hx=>⟨p,hf6 _ _ (fun e=>by rw [e,vxb] at hx;simp at hx) hx⟩,hs5.hh.move fun x p c fr hx=>hf6 _ _ (fun e=>by rw [e,vxb] at hx;simp at hx) hx,hn6⟩
   refine (Cvs H6 (woS s l) _ _ _ hsw (Dk0 ok l)).runs.mono ?_
   have l06:H.le H6:=fun c x hx=>hf6 c x (fun e=>by rw [e,f0x] at hx;cases hx) (l05 _ _ hx)
   have l36:H3.le H6:=fun c x hx=>hf6 c x (fun e=>by rw [e,f3x] at hx;cases hx) (l35 _ _ hx)
   rintro _ H7 ⟨rfl,lH7⟩
   have l07:=Hp.le_trans l06 lH7
   have l37:=Hp.le_trans l36 lH7
   have hu7:=hu6.le lH7
   obtain ⟨ht1,ht2⟩:=(show ∀q:Bool,decide (0<Azy (woS s l))=q->(q=true->wroF s=l)/\(q=false->∀l∈LL.take (k+1),decide (0<Azy (woS s l))=false) from hst) _ rfl
   generalize decide (0<Azy (woS s l))=q at *
   clear hst l06 l36 lH7 hsw hu6 hu5 hs5 l05 l35 hf6 vx6 hn6
   cases q with
   | true=>
    replace ht1:=ht1 rfl
    replace ht1:Aqk _:=ht1
    clear ht2
    (refine @unH _ (zU Ax2 ?_);(try clear hK K);intro K hK hc)
    (refine @unH _ ?_;refine zB results20 ?_)
    exact ⟨_,rfl,by rw [show wroF s=_ from ht1];exact hu7,l07⟩
   | false=>
    replace ht2:=ht2 rfl
    replace ht2:Aqk _:=ht2
    clear ht1
    (refine @unH _ (zU Ax2 ?_);(try clear hK K);intro K hK hc)
    exact ⟨_,by omega,_,k+1,rfl,hlt,rfl,e1,e18,e19,rfl,l07,l37,ht2⟩
  ·obtain ⟨i,rfl⟩:∃i,j=i+1:=⟨j-1,by omega⟩
   have hil:i<l.length:=by omega
   have hli:=List.getElem?_eq_getElem hil
   obtain ⟨y0,y1⟩:=(show ∀(k:Nat) (x:Int),l[k]?=some x->_ from hlx) i _ hli
   have hwo:woN s.noses (l.drop i)=(woN s.noses (l.drop (i+1))).take l[i].toNat++(woN s.noses (l.drop (i+1))).drop (l[i].toNat+1):=by
    rw [List.drop_eq_getElem_cons hil]
    rfl
   generalize l[i]=y at *
   obtain ⟨ub,uo,up,uca,ufr,rfl,hub,hux⟩:=hu6.get hli
   replace hwo:Aqk _:=hwo
   have hi1:(((i+1:Nat):Int)-1)=(i:Nat):=by omega
   rw [hi1] at e8
   (refine @unH _ (zA Ax2 ?_);(try clear hK K);intro K hK hc)
   have hyn:y<n':=by omega
   obtain ⟨m,rfl⟩:∃m:Nat,y=(m:Int):=⟨y.toNat,by omega⟩
   have hmn:m+1<=n':=by omega
   obtain ⟨nb,no,rfl⟩:∃nb no,na'=some ⟨nb,no,none⟩:=by
    have hl6:=hn6.len.1
    cases hw:(woN s.noses (l.drop (i+1))).map Bzf with
    | nil=>
     rw [List.map_eq_nil_iff] at hw
     rw [hw] at hl6
     simp only [List.length_nil] at hl6
     omega
    | cons r L=>
     obtain ⟨b,o,_,_,_,hh,_⟩:=SlG.get hn6 (i:=0) (r:=r) (by rw [hw];rfl)
     exact ⟨b,o,hh⟩
   have hcapn:m<=nc'/\m+1<=nc':=by have:=hn6.len;omega
   obtain ⟨hcp1,hcp2⟩:=hcapn
   have hA:=fun HX (hX:H6.le HX)=>(hn6.le hX).hi (k:=m) (by omega)
   have hB:=fun HX (hX:H6.le HX)=>(hn6.le hX).lo (k:=((m:Int)+1).toNat) (by omega)
   replace hA:Aqk _:=hA
   replace hB:Aqk _:=hB
   refine Axm (fun HX=>H6.le HX) [12] (.free 0 (.take 1 (.free 2 (.free 3 (.free 4 (.free 5 (.take 6 (.free 7 (.free 8 (.free 9 (.one 10 (.free 11 (.one 12 .nil))))))))))))) (by kernel_rfl) (by kernel_rfl) (by decide) (by kernel_rfl) ?_;intro K hK
   have hS0:H6.le H6:=Hp.le_refl _
   (refine @unH _ ?_;refine zI Ax2 ?_)
   (apply Axd rfl rfl rfl ‹_›;(focus (intro HX hHX;simp -implicitDefEqProofs (disch:=first | omega | (simp only [qd]<;>omega)) only [xq,↓xp,qc,Nat.reduceAdd,List.range,List.range.loop,fine,Nat.reduceEqDiff,↓reduceIte,yielded,reduceCtorEq,Nat.reduceLT,Nat.reduceMul,Nat.reduceSub,one,Nat.reduceLeDiff,Aqg,Ax2,aq,↓ap,qe0,qe1,qe2, *,-hK,Axa,hHX _ _ vx6]<;>(first | exact rfl | exact ⟨rfl,rfl⟩ | exact ⟨rfl,trivial⟩)));simp -implicitDefEqProofs (disch:=first | omega | (simp only [qd]<;>omega)) only [Aq3,Aql])
   (refine @unH _ ?_;refine zI Ax2 ?_)
   (refine @unH _ ?_;refine zI Ax2 ?_)
   (refine @unH _ ?_;refine zI Ax2 ?_)
   (refine @unH _ ?_;refine zI Ax2 ?_)
   (apply Axd rfl rfl rfl ‹_›;(focus (intro HX hHX;simp -implicitDefEqProofs (disch:=first | omega | (simp only [qd]<;>omega)) only [xq,↓xp,qc,Nat.reduceAdd,List.range,List.range.loop,fine,Nat.reduceEqDiff,↓reduceIte,yielded,reduceCtorEq,Nat.reduceLT,Nat.reduceMul,Nat.reduceSub,one,Nat.reduceLeDiff,Aqg,Ax2,aq,↓ap,qe0,qe1,qe2, *,-hK,Axa,hHX _ _ vx6]<;>(first | exact rfl | exact ⟨rfl,rfl⟩ | exact ⟨rfl,trivial⟩)));simp -implicitDefEqProofs (disch:=first | omega | (simp only [qd]<;>omega)) only [Aq3,Aql])
   (refine @unH _ ?_;refine zI Ax2 ?_)
   (refine @unH _ ?_;refine zI Ax2 ?_)
   (refine @unH _ ?_;refine zI Ax2 ?_)
   refine Aqw ?_
   (refine @unH _ ?_;refine zX Ax2 ?_)
   refine Bvn (by decide) underlying24 sizeOf32 zeroValue32 rfl typeInfo32 (by decide) (by decide) ((show ∀HX,H6.le HX->_ from hA) H6 hS0) ((show ∀HX,H6.le HX->_ from hB) H6 hS0) (by omega) _ _ _ _ (fun v7 H7 hv7 l67=>?_)
   obtain ⟨va,vn,vc,rfl⟩:=hv7.isSlice
   have hvl:Aqk _:=hv7.len.1
   have vx7:=l67 _ _ vx6
   (refine @unH _ ?_;refine zX Ax2 ?_)
   refine ⟨.inr fun _=>(by first | trivial | exact l67),?_⟩
   (refine @unH _ ?_;refine zI Ax2 ?_)
   refine Aqw ?_
   (refine @unH _ ?_;refine zX Ax2 ?_)
   refine ⟨.inl (by decide),Axq (hK _ _ ?_)⟩
   clear hK K
   have hwm:SlN H7 (.slice va vn vc) (woN s.noses (l.drop i)):=by
    have h:woN s.noses (l.drop i)=_:=hwo
    unfold SlN
    rw [h,List.map_append,List.map_take,List.map_drop]
    exact hv7
   have hvn:vn+1=n':=by
    have h:=(show vn=_ from hvl)
    rw [List.length_append,List.length_take,List.length_drop,List.length_map] at h
    have:=hn6.len
    omega
   clear hvl hwo hv7 hA hB
   generalize hG:Hp.set H7 xb _=H8
   have vx8:=Aqb hG
   have hf8:∀c x,c≠xb->H5 c=some x->H8 c=some x:=fun c x hc hx=>Aqi hG (l67 _ _ (hf6 c x hc hx)) hc
   have hw8:SlN H8 (.slice va vn vc) (woN s.noses (l.drop i)):=hwm.move fun x p c fr hx=>⟨p,Aqi hG hx (fun e=>by rw [e,vx7] at hx;simp at hx)⟩
   clear hG hwm vx7 l67 vx6 hn6
   show wpX _ _ _ _ _ _ _
   (refine @unH _ (zA Ax2 ?_);(try clear hK K);intro K hK hc)
   exact ⟨_,Nat.lt_succ_self i,_,i,va,vn,vc,rfl,by omega,rfl,e1,e6,e7,rfl,e18,e19,e20,hf8,vx8,hw8,by omega⟩
 ·obtain rfl:k=LL.length:=by omega
  rw [List.take_length] at hno
  have hr0:wroF s=[]:=by
   rw [show wroF s=_ from hwr,List.find?_eq_none.2 (fun l hl=>by rw [hno l hl];simp)]
   rfl
  replace hr0:Aqk _:=hr0
  replace hno:Aqk _:=hno
  (refine @unH _ (zA Ax2 ?_);(try clear hK K);intro K hK hc)
  (refine @unH _ ?_;refine zB results20 ?_)
  exact ⟨_,rfl,by rw [show wroF s=_ from hr0];exact nilS _,l04⟩
end Go.Proofs.YtaehjjbekjglkaaGreatDoor
end
section
namespace Go.Proofs.YtaehjjbekjglkaaGreatDoor
open Go Go.X Go.Proofs.Tryz
def Aqx:=aN @Dyx (aN @Dw9 (aN @Bkg (aN @Bxy (aN @Dyi (aN @Dwi (aN @Dw2 (aN @Aya (aN @Dy1 (aN @Dwj (aN @Dwz (aN @Dv4 (aN @Dyo (aN @Dyb (aN @Dyz (aN @Dyj (aN @Dwq (aN @Dwm (aN @Dwn (aN @Dv2 (aN @Dy5 (aN @Byf (aN @Dyd (aN @Akw (aN @Byg (aN (fun H=>Cz1 (H:=H) underlying80 underlying3 rfl sizeOf3) (aN @Ajf @Dya))))))))))))))))))))))))))
def reaE (s:Sm) (a b:Int):Int×Int×Int:=
 if (a<0∨s.places-1<a)∨(b<0∨s.places-1<b) then (0,0,3)
 else if 99<=gI (Axk s.doors a (pad6 (s.doors.map Dr.mx))) b then (0,0,11)
 else (gI (Axk s.doors a (pad6 (s.doors.map Dr.mn))) b,gI (Axk s.doors a (pad6 (s.doors.map Dr.mx))) b,0)
theorem Bwd {L:List Int} (h:L.length<6) (x:Int):pad6 (L++[x])=(pad6 L).set L.length x:=by
 unfold pad6
 rw [List.length_append,List.length_singleton]
 obtain ⟨n,hn⟩:∃n,6-L.length=n+1:=⟨5-L.length,by omega⟩
 rw [hn,List.replicate_succ,List.set_append_right _ _ (Nat.le_refl _),Nat.sub_self,List.set_cons_zero,List.append_assoc,show 6-(L.length+1)=n by omega]
 rfl
theorem Dja {pl:Int} {ds:List Dr} (hd:Avx pl ds):ds.map Dr.mn∈Ax1 ds:=(Akd hd).2 ⟨by simp,fun i d n h1 h2=>by
 rw [List.getElem?_map,h1] at h2
 simp only [Option.map_some,Option.some.injEq] at h2
 have:=hd d (List.mem_of_getElem? h1)
 exact ⟨by omega,by have:=this.m1;omega⟩⟩
theorem Djb {pl:Int} {ds:List Dr} (hd:Avx pl ds):ds.map Dr.mx∈Ax1 ds:=(Akd hd).2 ⟨by simp,fun i d n h1 h2=>by
 rw [List.getElem?_map,h1] at h2
 simp only [Option.map_some,Option.some.injEq] at h2
 have:=hd d (List.mem_of_getElem? h1)
 exact ⟨by have:=this.m1;omega,by omega⟩⟩
theorem Bxo {L:List Int} (h:L.length<=6):(pad6 L).length=6:=by
 unfold pad6
 rw [List.length_append,List.length_replicate]
 omega
theorem Bxn {L:List Int} {k:Nat} {x:Int}:(ints L).toArray.setIfInBounds k (.int .i64 x)=(ints (L.set k x)).toArray:=by
 simp [ints,List.map_set]
theorem Cqd (H:Hp) (s:Sm) (dv hv nv:Value) (hs:SmIn H dv hv nv s) (ok:SmOk s) (a b:Int) (main:Md) :
  FnX Tryz.prog main 15 #[smV s.places dv hv nv,.int .i64 a,.int .i64 b] H fun e H'=>e=.returned (.tuple #[.agg #[.int .i64 (reaE s a b).1,.int .i64 (reaE s a b).2.1],.int .i64 (reaE s a b).2.2])/\H.le H':=by
 obtain ⟨da,dc,ha,kc,na,nc,rfl,rfl,rfl,l1,l2,l3⟩:=hs.forms
 have hr:reaE s a b=if (a<0∨s.places-1<a)∨(b<0∨s.places-1<b) then (0,0,3)
  else if 99<=gI (Axk s.doors a (pad6 (s.doors.map Dr.mx))) b then (0,0,11)
  else (gI (Axk s.doors a (pad6 (s.doors.map Dr.mn))) b,gI (Axk s.doors a (pad6 (s.doors.map Dr.mx))) b,0):=rfl
 generalize reaE s a b=r at *
 have q0:=ok.p0
 have q6:=ok.p1
 have hdl:=ok.dl
 by_cases hab:(a<0∨s.places-1<a)∨(b<0∨s.places-1<b)
 ·rw [if_pos hab] at hr
  replace hr:Aqk _:=hr
  have hdc:(decide (a<0)||decide (s.places-1<a))=true∨((decide (a<0)||decide (s.places-1<a))=false/\(decide (b<0)||decide (s.places-1<b))=true):=by
   simp only [Bool.or_eq_true,Bool.or_eq_false_iff,decide_eq_true_eq,decide_eq_false_iff_not]
   omega
  clear hab
  rcases hdc with hda | ⟨hda,hdb⟩
  ·replace hda:Aqk _:=hda
   refine Aqn func15 rfl ntmps15 (by simp) ?_
   (refine @unH _ (zA Aqx ?_);(try clear hK K);intro K hK hc)
   (intro sb hsb rb hrb;replace hrb:(Hp.set _ sb _) rb=none:=hrb;generalize hG:Hp.set _ sb _=H1 at hrb ⊢;have lH1:=Aqc hG hsb;have wsb:=Aqb hG;clear hG;generalize hG:Hp.set _ rb _=H2;have lH2:=Aqc hG hrb;have vrb:=Aqb hG;have vsb:=lH2 _ _ wsb;have nsbrb:=Aqr wsb hrb;clear hG wsb)
   have l02:=Hp.le_trans lH1 lH2
   have hs2:=hs.le l02
   have h0rb:=Hp.le_none lH1 hrb
   clear lH1 lH2 hsb hrb hs
   (refine @unH _ (zU Aqx ?_);(try clear hK K);intro K hK hc)
   refine (Avi _ H2 s _ _ _ hs2 ok).runs.mono ?_
   rintro _ H3 ⟨rfl,lH3⟩
   have l03:=Hp.le_trans l02 lH3
   have vr3:=lH3 _ _ vrb
   have vs3:=lH3 _ _ vsb
   have hs3:=hs2.le lH3
   clear l02 lH3 vrb vsb hs2
   (refine @unH _ (zU Aqx ?_);(try clear hK K);intro K hK hc)
   refine (Axj _ H3 a 0 _).runs.mono ?_
   rintro _ _ ⟨rfl,hQ⟩
   rw [hQ,show (decide (a<0)||decide (s.places-1<a))=true from hda];clear hQ hda
   (refine @unH _ (zU Aqx ?_);(try clear hK K);intro K hK hc)
   (refine Axr ?_;(try simp only [nq,↓reduceIte,Nat.reduceEqDiff]);rw [Aq8,results_cell_tmp results15 (by decide) (by decide) (b:=rb) (o:=0) rfl underlying28 rfl sizeOf28];simp -implicitDefEqProofs (disch:=first | omega | (simp only [qd]<;>omega)) only [xq,↓xp,qc,Nat.reduceAdd,List.range,List.range.loop,fine,Nat.reduceEqDiff,↓reduceIte,yielded,reduceCtorEq,Nat.reduceLT,Nat.reduceMul,Nat.reduceSub,one,Nat.reduceLeDiff,Aqg,Aqx,Axl,List.extract_toArray])
   exact ⟨by rw [show r=_ from hr],Az4 l03 h0rb⟩
  ·replace hda:Aqk _:=hda
   replace hdb:Aqk _:=hdb
   refine Aqn func15 rfl ntmps15 (by simp) ?_
   (refine @unH _ (zA Aqx ?_);(try clear hK K);intro K hK hc)
   (intro sb hsb rb hrb;replace hrb:(Hp.set _ sb _) rb=none:=hrb;generalize hG:Hp.set _ sb _=H1 at hrb ⊢;have lH1:=Aqc hG hsb;have wsb:=Aqb hG;clear hG;generalize hG:Hp.set _ rb _=H2;have lH2:=Aqc hG hrb;have vrb:=Aqb hG;have vsb:=lH2 _ _ wsb;have nsbrb:=Aqr wsb hrb;clear hG wsb)
   have l02:=Hp.le_trans lH1 lH2
   have hs2:=hs.le l02
   have h0rb:=Hp.le_none lH1 hrb
   clear lH1 lH2 hsb hrb hs
   (refine @unH _ (zU Aqx ?_);(try clear hK K);intro K hK hc)
   refine (Avi _ H2 s _ _ _ hs2 ok).runs.mono ?_
   rintro _ H3 ⟨rfl,lH3⟩
   have l03:=Hp.le_trans l02 lH3
   have vr3:=lH3 _ _ vrb
   have vs3:=lH3 _ _ vsb
   have hs3:=hs2.le lH3
   clear l02 lH3 vrb vsb hs2
   (refine @unH _ (zU Aqx ?_);(try clear hK K);intro K hK hc)
   refine (Axj _ H3 a 0 _).runs.mono ?_
   rintro _ _ ⟨rfl,hQ⟩
   rw [hQ,show (decide (a<0)||decide (s.places-1<a))=false from hda];clear hQ hda
   (refine @unH _ (zU Aqx ?_);intro _ _ hc)
   refine (Axj _ H3 b 0 _).runs.mono ?_
   rintro _ _ ⟨rfl,hQ⟩
   rw [hQ,show (decide (b<0)||decide (s.places-1<b))=true from hdb];clear hQ hdb
   (refine @unH _ (zU Aqx ?_);(try clear hK K);intro K hK hc)
   (refine Axr ?_;(try simp only [nq,↓reduceIte,Nat.reduceEqDiff]);rw [Aq8,results_cell_tmp results15 (by decide) (by decide) (b:=rb) (o:=0) rfl underlying28 rfl sizeOf28];simp -implicitDefEqProofs (disch:=first | omega | (simp only [qd]<;>omega)) only [xq,↓xp,qc,Nat.reduceAdd,List.range,List.range.loop,fine,Nat.reduceEqDiff,↓reduceIte,yielded,reduceCtorEq,Nat.reduceLT,Nat.reduceMul,Nat.reduceSub,one,Nat.reduceLeDiff,Aqg,Aqx,Axl,List.extract_toArray])
   exact ⟨by rw [show r=_ from hr],Az4 l03 h0rb⟩
 ·rw [if_neg hab] at hr
  replace hr:Aqk _:=hr
  have hda:(decide (a<0)||decide (s.places-1<a))=false:=by simp;omega
  have hdb:(decide (b<0)||decide (s.places-1<b))=false:=by simp;omega
  replace hda:Aqk _:=hda
  replace hdb:Aqk _:=hdb
  have ha0:0<=a:=by omega
  have ha1:a<s.places:=by omega
  have hb0:0<=b:=by omega
  have hb1:b<s.places:=by omega
  clear hab
  refine Aqn func15 rfl ntmps15 (by simp) ?_
  (refine @unH _ (zA Aqx ?_);(try clear hK K);intro K hK hc)
  (intro sb hsb rb hrb;replace hrb:(Hp.set _ sb _) rb=none:=hrb;generalize hG:Hp.set _ sb _=H1 at hrb ⊢;have lH1:=Aqc hG hsb;have wsb:=Aqb hG;clear hG;generalize hG:Hp.set _ rb _=H2;have lH2:=Aqc hG hrb;have vrb:=Aqb hG;have vsb:=lH2 _ _ wsb;have nsbrb:=Aqr wsb hrb;clear hG wsb)
  have l02:=Hp.le_trans lH1 lH2
  have hs2:=hs.le l02
  have h0rb:=Hp.le_none lH1 hrb
  clear lH1 lH2 hsb hrb hs
  (refine @unH _ (zU Aqx ?_);(try clear hK K);intro K hK hc)
  refine (Avi _ H2 s _ _ _ hs2 ok).runs.mono ?_
  rintro _ H3 ⟨rfl,lH3⟩
  have l03:=Hp.le_trans l02 lH3
  have vr3:=lH3 _ _ vrb
  have vs3:=lH3 _ _ vsb
  have hs3:=hs2.le lH3
  clear l02 lH3 vrb vsb hs2
  (refine @unH _ (zU Aqx ?_);(try clear hK K);intro K hK hc)
  refine (Axj _ H3 a 0 _).runs.mono ?_
  rintro _ _ ⟨rfl,hQ⟩
  rw [hQ,show (decide (a<0)||decide (s.places-1<a))=false from hda];clear hQ hda
  (refine @unH _ (zU Aqx ?_);intro _ _ hc)
  refine (Axj _ H3 b 0 _).runs.mono ?_
  rintro _ _ ⟨rfl,hQ⟩
  rw [hQ,show (decide (b<0)||decide (s.places-1<b))=false from hdb];clear hQ hdb
  (refine @unH _ (zU Aqx ?_);(try clear hK K);intro K hK hc)
  (intro ab hab cb hcb;replace hcb:(Hp.set _ ab _) cb=none:=hcb;generalize hG:Hp.set _ ab _=H4 at hcb ⊢;have lH4:=Aqc hG hab;have wab:=Aqb hG;clear hG;generalize hG:Hp.set _ cb _=H5;have lH5:=Aqc hG hcb;have vcb:=Aqb hG;have vab:=lH5 _ _ wab;have nabcb:=Aqr wab hcb;clear hG wab)
  have l35:=Hp.le_trans lH4 lH5
  have l05:=Hp.le_trans l03 l35
  have vr5:=l35 _ _ vr3
  have vs5:=l35 _ _ vs3
  have hs5:=hs3.le l35
  have f0a:=Hp.le_none l03 hab
  have f0c:=Hp.le_none (Hp.le_trans l03 lH4) hcb
  have nra:=Aqr vr3 hab
  have nrc:=Aqr (lH4 _ _ vr3) hcb
  have nsa:=Aqr vs3 hab
  have nsc:=Aqr (lH4 _ _ vs3) hcb
  have va5:H5 ab=some (true,.cells (ints (pad6 ((s.doors.take 0).map Dr.mn))).toArray 77 (0,0)):=by rw [vab];rfl
  have vc5:H5 cb=some (true,.cells (ints (pad6 ((s.doors.take 0).map Dr.mx))).toArray 77 (0,0)):=by rw [vcb];rfl
  clear l03 vr3 vs3 hs3 hab hcb lH4 lH5 l35 vab vcb
  (refine @unH _ (zU Aqx ?_);(try clear hK K);intro K hK hc)
  refine Axg (fun w a' H'=>∃e,∃k:Nat,w=s.doors.length-k/\k<=s.doors.length/\a'=act 75 e []/\e 1=.int .i64 a/\e 2=.int .i64 b/\e 3=.pointer (some ⟨sb,0,none⟩)/\e 6=.pointer (some ⟨rb,0,none⟩)/\e 9=.pointer (some ⟨ab,0,none⟩)/\e 10=.pointer (some ⟨cb,0,none⟩)/\e 35=.slice da s.doors.length dc/\e 36=.int .i64 (s.doors.length:Nat)/\e 37=.int .i64 (k:Nat)/\(∀c x,c≠ab->c≠cb->H5 c=some x->H' c=some x)/\H' ab=some (true,.cells (ints (pad6 ((s.doors.take k).map Dr.mn))).toArray 77 (0,0))/\H' cb=some (true,.cells (ints (pad6 ((s.doors.take k).map Dr.mx))).toArray 77 (0,0))) (n:=s.doors.length) ?_ ?_
  ·exact ⟨_,0,by omega,by omega,rfl,rfl,rfl,rfl,rfl,rfl,rfl,rfl,rfl,rfl,fun _ _ _ _ hx=>hx,va5,vc5⟩
  rintro w a' H6 ⟨e,k,rfl,hk,rfl,e1,e2,e3,e6,e9,e10,e35,e36,e37,hf6,va6,vc6⟩
  have hcell:∀ {x:Nat} {p:Bool} {c:Array Value} {t:TypeId} {fr:Nat×Nat},t≠77->H5 x=some (p,.cells c t fr)->H6 x=some (p,.cells c t fr):=fun ht hx=>hf6 _ _ (fun e=>by rw [e,va5] at hx;simp only [Option.some.injEq,Prod.mk.injEq,Obj.cells.injEq] at hx;exact ht hx.2.2.1.symm) (fun e=>by rw [e,vc5] at hx;simp only [Option.some.injEq,Prod.mk.injEq,Obj.cells.injEq] at hx;exact ht hx.2.2.1.symm) hx
  have hs6:SmIn H6 (.slice da s.doors.length dc) (.slice ha s.hampers.length kc) (.slice na s.noses.length nc) s:=⟨hs5.dd.move fun x p c fr hx=>⟨p,hcell (by decide) hx⟩,hs5.hh.move fun x p c fr hx=>hcell (by decide) hx,hs5.nn.move fun x p c fr hx=>⟨p,hcell (by decide) hx⟩⟩
  have vr6:=hcell (by decide) vr5
  have vs6:=hcell (by decide) vs5
  replace hf6:Aqk _:=hf6
  clear hcell
  by_cases hlt:k<s.doors.length
  ·have hkd:=List.getElem?_eq_getElem hlt
   have hmn:pad6 ((s.doors.take (k+1)).map Dr.mn)=(pad6 ((s.doors.take k).map Dr.mn)).set k s.doors[k].mn:=by
    rw [List.take_add_one,hkd,Option.toList_some,List.map_append]
    have hl:((s.doors.take k).map Dr.mn).length=k:=by rw [List.length_map,List.length_take];omega
    have:=Bwd (L:=(s.doors.take k).map Dr.mn) (by omega) s.doors[k].mn
    rw [hl] at this
    exact this
   have hmx:pad6 ((s.doors.take (k+1)).map Dr.mx)=(pad6 ((s.doors.take k).map Dr.mx)).set k s.doors[k].mx:=by
    rw [List.take_add_one,hkd,Option.toList_some,List.map_append]
    have hl:((s.doors.take k).map Dr.mx).length=k:=by rw [List.length_map,List.length_take];omega
    have:=Bwd (L:=(s.doors.take k).map Dr.mx) (by omega) s.doors[k].mx
    rw [hl] at this
    exact this
   have hla:(pad6 ((s.doors.take k).map Dr.mn)).length=6:=Bxo (by rw [List.length_map,List.length_take];omega)
   have hlc:(pad6 ((s.doors.take k).map Dr.mx)).length=6:=Bxo (by rw [List.length_map,List.length_take];omega)
   obtain ⟨db,dof,dp,dcl,dfr,rfl,hdb2,hdsz,hdrl,hdext⟩:=SlG.get hs6.dd (i:=k) (r:=Bx4 s.doors[k]) (by rw [List.getElem?_map,hkd];rfl)
   generalize s.doors[k]=d at *
   generalize pad6 ((s.doors.take k).map Dr.mn)=A6 at *
   generalize pad6 ((s.doors.take k).map Dr.mx)=C6 at *
   unfold Bx4 at hdext
   replace hmn:Aqk _:=hmn
   replace hmx:Aqk _:=hmx
   clear hdrl vr6 vs6
   (refine @unH _ (zA Aqx ?_);(try clear hK K);intro K hK hc)
   (intro tb htb;generalize hG:Hp.set _ tb _=H7;have lH7:=Aqc hG htb;have vtb:=Aqb hG;clear hG)
   have va7:=lH7 _ _ va6
   have vc7:=lH7 _ _ vc6
   have nat_:=Aqr va6 htb
   have nct:=Aqr vc6 htb
   have nta:=Ne.symm nat_
   have ntc:=Ne.symm nct
   have ncab:=Ne.symm nabcb
   have hf7:Aqk (∀c x,c≠ab->c≠cb->H5 c=some x->H7 c=some x):=fun c x h1 h2 hx=>lH7 _ _ ((show ∀c x,c≠ab->c≠cb->H5 c=some x->H6 c=some x from hf6) c x h1 h2 hx)
   clear lH7 va6 vc6 htb hs6 hdb2 hdsz hdext hf6
   have hia:(ints A6).toArray.size=6:=by rw [List.size_toArray,Aqz,hla]
   have hic:(ints C6).toArray.size=6:=by rw [List.size_toArray,Aqz,hlc]
   have hpa:(ints A6).toArray.setIfInBounds k (.int .i64 d.mn)=(ints (A6.set k d.mn)).toArray:=Bxn
   have hpc:(ints C6).toArray.setIfInBounds k (.int .i64 d.mx)=(ints (C6.set k d.mx)).toArray:=Bxn
   generalize (ints A6).toArray=AA at *
   generalize (ints C6).toArray=CC at *
   refine hK _ _ ?_
   clear hK K
   (try refine @unH _ (zQ ?_))
   refine Axm (fun HX=>HX tb=some (true,.cells #[.int .i64 d.a,.int .i64 d.b,.int .i64 d.mn,.int .i64 d.mx] 30 (0,0))) [11] (.free 0 (.free 1 (.free 2 (.free 3 (.take 4 (.free 5 (.free 6 (.take 7 (.free 8 (.one 9 (.free 10 (.one 11 .nil)))))))))))) (by kernel_rfl) (by kernel_rfl) (by decide) (by kernel_rfl) ?_;intro K hK
   (iterate 4 (refine @unH _ ?_;refine zI Aqx ?_))
   (refine @unH _ ?_;refine zJ Aqx ?_)
   (iterate 2 (refine @unH _ ?_;refine zI Aqx ?_))
   (refine @unH _ ?_;refine zJ Aqx ?_)
   (refine @unH _ ?_;refine zI Aqx ?_)
   refine Aqw ?_
   (refine @unH _ ?_;refine zX Aqx ?_)
   refine ⟨.inr fun _=>trivial,?_⟩
   (refine @unH _ ?_;refine zI Aqx ?_)
   refine Aqw ?_
   (refine @unH _ ?_;refine zX Aqx ?_)
   refine ⟨.inl (by decide),Axq (hK _ _ ?_)⟩
   clear hK K
   generalize hG:Hp.set (Hp.set H7 ab _) cb _=H8
   have va8:H8 ab=some (true,.cells (ints (A6.set k d.mn)).toArray 77 (0,0)):=by rw [<-hG];simp [Hp.set,nabcb]
   have vc8:H8 cb=some (true,.cells (ints (C6.set k d.mx)).toArray 77 (0,0)):=by rw [<-hG];simp [Hp.set]
   have hf8:∀c x,c≠ab->c≠cb->H5 c=some x->H8 c=some x:=fun c x h1 h2 hx=>by
    rw [<-hG,Aqv h2,Aqv h1]
    exact (show ∀c x,c≠ab->c≠cb->H5 c=some x->H7 c=some x from hf7) c x h1 h2 hx
   clear hG va7 vc7 hf7 hpa hpc hia hic
   show wpX _ _ _ _ _ _ _
   (refine @unH _ (zA Aqx ?_);(try clear hK K);intro K hK hc)
   exact ⟨_,by omega,_,k+1,rfl,hlt,rfl,e1,e2,e3,e6,e9,e10,e35,e36,rfl,hf8,by rw [show pad6 _=_ from hmn];exact va8,by rw [show pad6 _=_ from hmx];exact vc8⟩
  ·obtain rfl:k=s.doors.length:=by omega
   rw [List.take_length] at va6 vc6
   have l06:H.le H6:=fun c x hx=>(show ∀c x,c≠ab->c≠cb->H5 c=some x->H6 c=some x from hf6) c x (fun e=>by rw [e,f0a] at hx;cases hx) (fun e=>by rw [e,f0c] at hx;cases hx) (l05 _ _ hx)
   have hta:TsOk s.doors (pad6 (s.doors.map Dr.mn)):=Akn ok.dk (Dja ok.dk)
   have htc:TsOk s.doors (pad6 (s.doors.map Dr.mx)):=Akn ok.dk (Djb ok.dk)
   have hla:(pad6 (s.doors.map Dr.mn)).length=6:=Bxo (by rw [List.length_map];exact hdl)
   have hlc:(pad6 (s.doors.map Dr.mx)).length=6:=Bxo (by rw [List.length_map];exact hdl)
   clear hf6 vr5 vs5 hs5 va5 vc5 l05
   generalize pad6 (s.doors.map Dr.mn)=A6 at *
   generalize pad6 (s.doors.map Dr.mx)=C6 at *
   (refine @unH _ (zA Aqx ?_);(try clear hK K);intro K hK hc)
   refine (Akc _ H6 s.places _ _ _ _ _ _ _ _ _).runs.mono ?_
   rintro _ H7 ⟨hb,mb,rfl,vh7,vm7,h6h,h6m,lH7⟩
   have l07:=Hp.le_trans l06 lH7
   have va7:=lH7 _ _ va6
   have vc7:=lH7 _ _ vc6
   have vr7:=lH7 _ _ vr6
   have hs7:=hs6.le lH7
   have kn7:Aje s.doors mb H7:=⟨_,_,vm7,by simp [MapG]⟩
   have nha:=Aqr va6 h6h
   have nma:=Aqr va6 h6m
   have nhc:=Aqr vc6 h6h
   have nmc:=Aqr vc6 h6m
   have nmr:=Aqr vr6 h6m
   have f0m:=Hp.le_none l06 h6m
   have nhm:hb≠mb:=fun e=>by rw [e,vm7] at vh7;simp at vh7
   clear l06 lH7 va6 vc6 vr6 vs6 hs6 vm7 h6h h6m
   (refine @unH _ (zU Aqx ?_);(try clear hK K);intro K hK hc)
   have hsp:=fun (HX:Hp) (c6:List Int) (hl:c6.length=6) (ht:TsOk s.doors c6) vh kn dd=>Bzq main HX hb mb true s.places da dc (.slice ha s.hampers.length kc) (.slice na s.noses.length nc) a c6 s.doors vh kn dd ok.p1 ha0 ha1 ok.dk ok.dl hl ht
   have hla2:(Axk s.doors a A6).length=6:=Avo _ _ _
   have hlc2:(Axk s.doors a C6).length=6:=Avo _ _ _
   have hga:=Av6 hla2 hb0 (show b<6 by omega)
   have hgc:=Av6 hlc2 hb0 (show b<6 by omega)
   have hsA:=fun HX vh kn dd=>hsp HX A6 hla hta vh kn dd
   have hsC:=fun HX vh kn dd=>hsp HX C6 hlc htc vh kn dd
   clear hsp hta htc
   generalize Axk s.doors a A6=SA at *
   generalize Axk s.doors a C6=SC at *
   generalize gI SA b=ga at *
   generalize gI SC b=gc at *
   replace hsA:Aqk _:=hsA
   replace hsC:Aqk _:=hsC
   have hiA:6<=(ints A6).length:=by rw [Aqz,hla];exact Nat.le_refl _
   have hiC:6<=(ints C6).length:=by rw [Aqz,hlc];exact Nat.le_refl _
   have hexA:=Ajk hla
   have hexC:=Ajk hlc
   have hGA:∃G:Hp->Prop,(∀HX,G HX->FnX Tryz.prog main 53 #[.pointer (some ⟨hb,0,none⟩),.agg (.int .i64 a::ints A6).toArray] HX fun e H'=>e=.returned (.agg (ints SA).toArray)/\G H'/\∀b x,b≠mb->HX b=some x->H' b=some x) /\
     (∀HX,G HX->FnX Tryz.prog main 53 #[.pointer (some ⟨hb,0,none⟩),.agg (.int .i64 a::ints C6).toArray] HX fun e H'=>e=.returned (.agg (ints SC).toArray)/\G H'/\∀b x,b≠mb->HX b=some x->H' b=some x) /\
     (∀HX HY,G HX->HX.le HY->G HY)/\(∀HX,G HX->HX mb≠none)/\(∀HX,G HX->HX ab=some (true,.cells (ints A6).toArray 77 (0,0))/\HX cb=some (true,.cells (ints C6).toArray 77 (0,0))/\HX rb=some (true,.cells #[.int .i64 0,.int .i64 0] 28 (0,0))/\H.le HX)/\G H7:=by
    have key:∀(HX H':Hp),(HX ab=some (true,.cells (ints A6).toArray 77 (0,0))/\HX cb=some (true,.cells (ints C6).toArray 77 (0,0))/\HX rb=some (true,.cells #[.int .i64 0,.int .i64 0] 28 (0,0))/\H.le HX/\HX hb=some (true,hsO s.places (.slice da s.doors.length dc) (.slice ha s.hampers.length kc) (.slice na s.noses.length nc) mb)/\Aje s.doors mb HX/\SlD HX (.slice da s.doors.length dc) s.doors)->(∀b x,b≠mb->HX b=some x->H' b=some x)->Aje s.doors mb H'->(H' ab=some (true,.cells (ints A6).toArray 77 (0,0))/\H' cb=some (true,.cells (ints C6).toArray 77 (0,0))/\H' rb=some (true,.cells #[.int .i64 0,.int .i64 0] 28 (0,0))/\H.le H'/\H' hb=some (true,hsO s.places (.slice da s.doors.length dc) (.slice ha s.hampers.length kc) (.slice na s.noses.length nc) mb)/\Aje s.doors mb H'/\SlD H' (.slice da s.doors.length dc) s.doors):=by
     rintro HX H' ⟨g1,g2,g3,g4,g5,⟨es,cl,g6,_⟩,g7⟩ hf kn
     refine ⟨hf _ _ nma g1,hf _ _ nmc g2,hf _ _ nmr g3,fun c x hx=>hf _ _ (fun e=>by rw [e,f0m] at hx;cases hx) (g4 _ _ hx),hf _ _ nhm g5,kn,g7.move fun x p c fr hx=>⟨p,hf _ _ (fun e=>by rw [e,g6] at hx;simp at hx) hx⟩⟩
    refine ⟨fun HX=>HX ab=some (true,.cells (ints A6).toArray 77 (0,0))/\HX cb=some (true,.cells (ints C6).toArray 77 (0,0))/\HX rb=some (true,.cells #[.int .i64 0,.int .i64 0] 28 (0,0))/\H.le HX/\HX hb=some (true,hsO s.places (.slice da s.doors.length dc) (.slice ha s.hampers.length kc) (.slice na s.noses.length nc) mb)/\Aje s.doors mb HX/\SlD HX (.slice da s.doors.length dc) s.doors,?_,?_,?_,?_,?_,?_⟩
    ·intro HX g
     refine ((show ∀HX _ _ _,FnX _ _ _ _ _ _ from hsA) HX g.2.2.2.2.1 g.2.2.2.2.2.1 g.2.2.2.2.2.2).mono ?_
     rintro _ H' ⟨rfl,h1,h2⟩
     exact ⟨rfl,key HX H' g h1 h2,h1⟩
    ·intro HX g
     refine ((show ∀HX _ _ _,FnX _ _ _ _ _ _ from hsC) HX g.2.2.2.2.1 g.2.2.2.2.2.1 g.2.2.2.2.2.2).mono ?_
     rintro _ H' ⟨rfl,h1,h2⟩
     exact ⟨rfl,key HX H' g h1 h2,h1⟩
    ·rintro HX HY ⟨g1,g2,g3,g4,g5,g6,g7⟩ hl
     exact ⟨hl _ _ g1,hl _ _ g2,hl _ _ g3,Hp.le_trans g4 hl,hl _ _ g5,g6.le hl,g7.le hl⟩
    ·rintro HX ⟨g1,g2,g3,g4,g5,⟨es,cl,g6,_⟩,g7⟩
     rw [g6];simp
    ·rintro HX ⟨g1,g2,g3,g4,_⟩
     exact ⟨g1,g2,g3,g4⟩
    ·exact ⟨va7,vc7,vr7,l07,vh7,kn7,hs7.dd⟩
   obtain ⟨G,gA,gC,gL,gM,gF,g7⟩:=hGA
   replace gA:Aqk _:=gA
   replace gC:Aqk _:=gC
   replace gL:Aqk _:=gL
   replace gM:Aqk _:=gM
   replace gF:Aqk _:=gF
   clear hsA hsC
   refine Az3 (Q:=only fun a' H'=>∃e' ob,a'=act 75 e' []/\e' 6=.pointer (some ⟨rb,0,none⟩)/\e' 14=.pointer (some ⟨ob,0,none⟩)/\H' ob=some (true,.cells #[.int .i64 ga,.int .i64 gc] 28 (0,0))/\H' rb=some (true,.cells #[.int .i64 0,.int .i64 0] 28 (0,0))/\rb≠ob/\H.le H') ?_ ?_
   ·refine Axm (fun HX=>HX ab=some (true,.cells (ints A6).toArray 77 (0,0))/\HX cb=some (true,.cells (ints C6).toArray 77 (0,0))) [16] (.free 0 (.free 1 (.take 2 (.free 3 (.free 5 (.free 7 (.free 8 (.take 9 (.free 10 (.free 12 (.two 4 (.free 6 (.two 11 (.free 13 (.free 14 (.one 15 (.one 16 .nil)))) 15 (.one 11 (.free 13 (.free 14 (.one 16 .nil)))))) 15 (.one 4 (.free 6 (.one 11 (.free 13 (.free 14 (.one 16 .nil))))))))))))))))) (by kernel_rfl) (by kernel_rfl) (by decide) (by kernel_rfl) ?_;intro K hK
    have hS0:(fun HX:Hp=>HX ab=some (true,.cells (ints A6).toArray 77 (0,0))/\HX cb=some (true,.cells (ints C6).toArray 77 (0,0))) H7:=⟨va7,vc7⟩
    (iterate 2 (refine @unH _ ?_;refine zI Aqx ?_))
    (apply Axd rfl rfl rfl ‹_›;(focus (intro HX hHX;simp -implicitDefEqProofs (disch:=first | omega | (simp only [qd]<;>omega)) only [xq,↓xp,qc,Nat.reduceAdd,List.range,List.range.loop,fine,Nat.reduceEqDiff,↓reduceIte,yielded,reduceCtorEq,Nat.reduceLT,Nat.reduceMul,Nat.reduceSub,one,Nat.reduceLeDiff,Aqg,Aqx,aq,↓ap,qe0,qe1,qe2, *,-hK,Axa,hHX.1]<;>(first | exact rfl | exact ⟨rfl,rfl⟩ | exact ⟨rfl,trivial⟩)));simp -implicitDefEqProofs (disch:=first | omega | (simp only [qd]<;>omega)) only [Aq3,Aql])
    (iterate 4 (refine @unH _ ?_;refine zI (aN Aqx @Bye) ?_))
    (apply Axd rfl rfl rfl ‹_›;(focus (intro HX hHX;simp -implicitDefEqProofs (disch:=first | omega | (simp only [qd]<;>omega)) only [xq,↓xp,qc,Nat.reduceAdd,List.range,List.range.loop,fine,Nat.reduceEqDiff,↓reduceIte,yielded,reduceCtorEq,Nat.reduceLT,Nat.reduceMul,Nat.reduceSub,one,Nat.reduceLeDiff,Aqg,Aqx,aq,↓ap,qe0,qe1,qe2, *,-hK,Axa,hHX.2]<;>(first | exact rfl | exact ⟨rfl,rfl⟩ | exact ⟨rfl,trivial⟩)));simp -implicitDefEqProofs (disch:=first | omega | (simp only [qd]<;>omega)) only [Aq3,Aql])
    (iterate 2 (refine @unH _ ?_;refine zI (aN Aqx @Bye) ?_))
    refine Avb ?_ ?_
    ·(refine @unH _ ?_;refine zX Aqx ?_)
     refine ((show ∀HX,G HX->FnX _ _ _ _ _ _ from gA) H7 g7).runs.mono ?_
     rintro _ H8 ⟨rfl,g8,f8⟩
     obtain ⟨w1,w2,w3,w4⟩:=(show ∀HX,G HX->_/\_/\_/\_ from gF) H8 g8
     (refine @unH _ ?_;refine zX Aqx ?_)
     refine ⟨.inr fun _=>(by first | trivial | exact ⟨w1,w2⟩),?_⟩
     (refine @unH _ ?_;refine zI Aqx ?_)
     refine Avb ?_ ?_
     ·(refine @unH _ ?_;refine zX Aqx ?_)
      refine ((show ∀HX,G HX->FnX _ _ _ _ _ _ from gC) H8 g8).runs.mono ?_
      rintro _ H9 ⟨rfl,g9,f9⟩
      obtain ⟨w1,w2,w3,w4⟩:=(show ∀HX,G HX->_/\_/\_/\_ from gF) H9 g9
      (refine @unH _ ?_;refine zX Aqx ?_)
      refine ⟨.inr fun _=>(by first | trivial | exact ⟨w1,w2⟩),?_⟩
      (refine @unH _ ?_;refine zI Aqx ?_)
      (refine @unH _ ?_;refine zI Aqx ?_)
      refine Aqw ?_
      (refine @unH _ ?_;refine zX Aqx ?_)
      intro ob hob
      obtain ⟨x1,x2,x3,x4⟩:=(show ∀HX,G HX->_/\_/\_/\_ from gF) H9 g9
      have y1:=Aqr x1 hob
      have y2:=Aqr x2 hob
      have nro:=Aqr x3 hob
      have nmo:ob≠mb:=fun e=>(show ∀HX,G HX->HX mb≠none from gM) H9 g9 (by rw [<-e];exact hob)
      have f0o:=Hp.le_none x4 hob
      refine ⟨.inr fun _=>(by first | trivial | (simp only [y1,y2,if_false,and_self])),?_⟩
      generalize hG:Hp.set H9 ob _=H10
      have g10:=(show ∀HX HY,G HX->HX.le HY->G HY from gL) H9 H10 g9 (Aqc hG hob)
      have vo:=Aqb hG
      obtain ⟨w1,w2,w3,w4⟩:=(show ∀HX,G HX->_/\_/\_/\_ from gF) H10 g10
      clear hG hob x1 x2 x3 x4
      refine Aqw ?_
      (refine @unH _ ?_;refine zX Aqx ?_)
      refine ⟨.inl (by decide),Axq (hK _ _ ?_)⟩
      exact ⟨_,ob,rfl,e6,rfl,Axh,by rw [Aqv nro];exact w3,nro,fun c x hx=>by rw [Aqv (fun e=>by rw [e,f0o] at hx;cases hx)];exact w4 _ _ hx⟩
     ·(refine @unH _ ?_;refine zX Aqx ?_)
      intro ob hob
      obtain ⟨x1,x2,x3,x4⟩:=(show ∀HX,G HX->_/\_/\_/\_ from gF) H8 g8
      have y1:=Aqr x1 hob
      have y2:=Aqr x2 hob
      have nro:=Aqr x3 hob
      have nmo:ob≠mb:=fun e=>(show ∀HX,G HX->HX mb≠none from gM) H8 g8 (by rw [<-e];exact hob)
      have f0o:=Hp.le_none x4 hob
      refine ⟨.inr fun _=>(by first | trivial | (simp only [y1,y2,if_false,and_self])),?_⟩
      generalize hG:Hp.set H8 ob _=H9
      have g9:=(show ∀HX HY,G HX->HX.le HY->G HY from gL) H8 H9 g8 (Aqc hG hob)
      have vo:=Aqb hG
      obtain ⟨w1,w2,w3,w4⟩:=(show ∀HX,G HX->_/\_/\_/\_ from gF) H9 g9
      clear hG hob x1 x2 x3 x4
      refine Aqw ?_
      (refine @unH _ ?_;refine zX Aqx ?_)
      refine ((show ∀HX,G HX->FnX _ _ _ _ _ _ from gC) H9 g9).runs.mono ?_
      rintro _ H10 ⟨rfl,g10,f10⟩
      obtain ⟨w1,w2,w3,w4⟩:=(show ∀HX,G HX->_/\_/\_/\_ from gF) H10 g10
      (refine @unH _ ?_;refine zX Aqx ?_)
      refine ⟨.inr fun _=>(by first | trivial | exact ⟨w1,w2⟩),?_⟩
      have vo2:=f10 _ _ nmo vo
      (refine @unH _ ?_;refine zI Aqx ?_)
      (refine @unH _ ?_;refine zI Aqx ?_)
      refine Aqw ?_
      (refine @unH _ ?_;refine zX Aqx ?_)
      refine ⟨.inl (by decide),Axq (hK _ _ ?_)⟩
      exact ⟨_,ob,rfl,e6,rfl,Axh,by rw [Aqv nro];exact w3,nro,fun c x hx=>by rw [Aqv (fun e=>by rw [e,f0o] at hx;cases hx)];exact w4 _ _ hx⟩
    ·(refine @unH _ ?_;refine zX Aqx ?_)
     intro ob hob
     obtain ⟨x1,x2,x3,x4⟩:=(show ∀HX,G HX->_/\_/\_/\_ from gF) H7 g7
     have y1:=Aqr x1 hob
     have y2:=Aqr x2 hob
     have nro:=Aqr x3 hob
     have nmo:ob≠mb:=fun e=>(show ∀HX,G HX->HX mb≠none from gM) H7 g7 (by rw [<-e];exact hob)
     have f0o:=Hp.le_none x4 hob
     refine ⟨.inr fun _=>(by first | trivial | (simp only [y1,y2,if_false,and_self])),?_⟩
     generalize hG:Hp.set H7 ob _=H8
     have g8:=(show ∀HX HY,G HX->HX.le HY->G HY from gL) H7 H8 g7 (Aqc hG hob)
     have vo:=Aqb hG
     obtain ⟨w1,w2,w3,w4⟩:=(show ∀HX,G HX->_/\_/\_/\_ from gF) H8 g8
     clear hG hob x1 x2 x3 x4
     refine Aqw ?_
     (refine @unH _ ?_;refine zX Aqx ?_)
     refine ((show ∀HX,G HX->FnX _ _ _ _ _ _ from gA) H8 g8).runs.mono ?_
     rintro _ H9 ⟨rfl,g9,f9⟩
     obtain ⟨w1,w2,w3,w4⟩:=(show ∀HX,G HX->_/\_/\_/\_ from gF) H9 g9
     (refine @unH _ ?_;refine zX Aqx ?_)
     refine ⟨.inr fun _=>(by first | trivial | exact ⟨w1,w2⟩),?_⟩
     have vo2:=f9 _ _ nmo vo
     (refine @unH _ ?_;refine zI Aqx ?_)
     refine Aqw ?_
     (refine @unH _ ?_;refine zX Aqx ?_)
     refine ((show ∀HX,G HX->FnX _ _ _ _ _ _ from gC) H9 g9).runs.mono ?_
     rintro _ H10 ⟨rfl,g10,f10⟩
     obtain ⟨w1,w2,w3,w4⟩:=(show ∀HX,G HX->_/\_/\_/\_ from gF) H10 g10
     (refine @unH _ ?_;refine zX Aqx ?_)
     refine ⟨.inr fun _=>(by first | trivial | exact ⟨w1,w2⟩),?_⟩
     have vo3:=f10 _ _ nmo vo2
     (refine @unH _ ?_;refine zI Aqx ?_)
     (refine @unH _ ?_;refine zI Aqx ?_)
     refine Aqw ?_
     (refine @unH _ ?_;refine zX Aqx ?_)
     refine ⟨.inl (by decide),Axq (hK _ _ ?_)⟩
     exact ⟨_,ob,rfl,e6,rfl,Axh,by rw [Aqv nro];exact w3,nro,fun c x hx=>by rw [Aqv (fun e=>by rw [e,f0o] at hx;cases hx)];exact w4 _ _ hx⟩
   ·intro e a' H' q
    cases e with
    | normal=>
     obtain ⟨e',ob,rfl,e6,e14,vo8,vr8,nro,l08⟩:=q
     clear gA gC gL gM gF g7 va7 vc7 vr7 vh7 hs7 kn7 l07 hexA hexC hga hgc
     by_cases hg:99<=gc
     ·replace hr:Aqk (r=(0,0,11)):=Eq.trans (show r=_ from hr) (if_pos hg)
      show wpX _ _ _ _ _ _ _
      (refine @unH _ (zA Aqx ?_);(try clear hK K);intro K hK hc)
      (refine Axr ?_;(try simp only [nq,↓reduceIte,Nat.reduceEqDiff]);rw [Aq8,results_cell_tmp results15 (by decide) (by decide) (b:=rb) (o:=0) ?hcell underlying28 rfl sizeOf28];(case hcell=>exact e6);simp -implicitDefEqProofs (disch:=first | omega | (simp only [qd]<;>omega)) only [xq,↓xp,qc,Nat.reduceAdd,List.range,List.range.loop,fine,Nat.reduceEqDiff,↓reduceIte,yielded,reduceCtorEq,Nat.reduceLT,Nat.reduceMul,Nat.reduceSub,one,Nat.reduceLeDiff,Aqg,Aqx,Axl,List.extract_toArray])
      exact ⟨by rw [show r=_ from hr],Az4 l08 h0rb⟩
     ·replace hr:Aqk (r=(ga,gc,0)):=Eq.trans (show r=_ from hr) (if_neg hg)
      show wpX _ _ _ _ _ _ _
      (refine @unH _ (zA Aqx ?_);(try clear hK K);intro K hK hc)
      (refine Axr ?_;(try simp only [nq,↓reduceIte,Nat.reduceEqDiff]);rw [Aq8,results_cell_tmp results15 (by decide) (by decide) (b:=rb) (o:=0) ?hcell underlying28 rfl sizeOf28];(case hcell=>exact e6);simp -implicitDefEqProofs (disch:=first | omega | (simp only [qd]<;>omega)) only [xq,↓xp,qc,Nat.reduceAdd,List.range,List.range.loop,fine,Nat.reduceEqDiff,↓reduceIte,yielded,reduceCtorEq,Nat.reduceLT,Nat.reduceMul,Nat.reduceSub,one,Nat.reduceLeDiff,Aqg,Aqx,Axl,List.extract_toArray])
      exact ⟨by rw [show r=_ from hr],Az4 l08 h0rb⟩
    | _=>exact q.elim
end Go.Proofs.YtaehjjbekjglkaaGreatDoor
end
