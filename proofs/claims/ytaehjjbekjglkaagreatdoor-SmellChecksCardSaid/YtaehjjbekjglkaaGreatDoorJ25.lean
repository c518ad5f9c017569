/- Texts SmKs SmKl SmX1 SmX2 SmPr SmGl. -/
import Derived.Test.YtaehjjbekjglkaaGreatDoorJ23
import Derived.Test.YtaehjjbekjglkaaGreatDoorJ24
set_option linter.defProp false
set_option linter.unusedSimpArgs false
set_option linter.unusedVariables false
set_option maxRecDepth 100000
set_option maxHeartbeats 2000000
section
namespace Go.Proofs.YtaehjjbekjglkaaGreatDoor
open Go Go.X Go.Proofs.Tryz
def y13_153:=aN @Dyw (aN @Dwi (aN @Dw2 (aN @Dwj (aN @Dwz (aN @Dwk (aN @Dw0 (aN @Dx9 (aN @Dwl (aN @Dw1 (aN @Bxc @Dyh))))))))))
theorem append_newG {P:Program} {tt e:TypeId} {sz:Nat} {z:Value} {inf:TypeInfo} (hsz:0<sz) (hu:P.underlying tt=some (.slice e)) (hs:∀w,(sizeOf e).run P w=.ok sz w) (hz:∀w,(zeroValue e).run P w=.ok z w) (hzc:z.cells.size=sz)
  (hi:∀w,(typeInfo e).run P w=.ok inf w) (hby:inf.bytes<=1024) (hby0:0<inf.bytes) {H:Hp} {b:Nat} (hb:H b=some (true,.cells #[] e (0,0))) {rows:List (List Value)} {g:Option Addr} {m cap:Nat} (h2:RdG sz H (.slice g m cap) rows) (hn:m<=1000000)
  (ty:TypeId) (cb:Array Bool) (K:Next->Hp->Prop) (E:Value->Hp->Prop) (h:∀v' H',RowG e sz H' v' rows->H.le H'->(∀x,rowB v'=some x->x=b∨H x=none)->K (.value v') H') :
  wpS P (builtin .append #[tt,tt] ty cb #[.slice (some ⟨b,0,none⟩) 0 0,.slice g m cap]) H K E:=by
 have hl2:=h2.len.1
 refine Bvm hsz hu hs hz hzc hi hby hby0 ((RowG.new0 (sz:=sz) hb).slG hsz) h2 (by omega) ty cb K E (fun e=>h _ H (by rw [e];exact RowG.new0 hb) (Hp.le_refl _) fun x hx=>.inl ?_) fun b' C N hb' _ hN hC hall hget=>h _ _ ⟨⟨(fun _ _ h=>by cases h),.inr ⟨b',C,N,rfl,Axh,by rw [Nat.zero_add,hl2],hC,by omega,?_,?_⟩⟩,by simpa using hall⟩ (Hp.le_set hb') fun x hx=>.inr ?_
 ·simp only [rowB,Option.some.injEq] at hx
  exact hx.symm
 ·have hr:∀r∈rows,(id r:List Value).length=sz:=fun r hr=>hall r (by simpa using hr)
  rw [Avj id sz rows hr]
 ·simpa using hget
 ·simp only [rowB,Option.some.injEq] at hx
  rw [<-hx]
  exact hb'
theorem rowX_G {H0 H:Hp} {v:Value} {xs:List Int} (h:RowX none H0 H v 3 (ints xs)):RowG 3 1 H v (int1 xs)/\∀x,rowB v=some x->H0 x=none:=by
 have hf:(int1 xs).flatMap id=ints xs:=by
  unfold int1 ints
  clear h
  induction xs with
  | nil=>rfl
  | cons x xs ih=>simp_all [List.flatMap_cons]
 have hl:(int1 xs).length=xs.length:=by simp [int1]
 have hr:∀r∈int1 xs,r.length=1:=fun r hr=>by
  obtain ⟨x,_,rfl⟩:=List.mem_map.1 hr
  rfl
 rcases h.2 with ⟨rfl,h0⟩ | ⟨b,c,cap,h0,hb,rfl,h1,h2,h3⟩
 ·have:xs=[]:=by cases xs with | nil=>rfl | cons x l=>simp [ints] at h0
  subst this
  exact ⟨RowG.nil,fun x hx=>by cases hx⟩
 ·have hi:(ints xs).length=xs.length:=Aqz xs
  rw [hi] at h2 ⊢
  refine ⟨⟨⟨(fun _ _ h=>by cases h),.inr ⟨b,c,cap,rfl,hb,by rw [hl],by omega,by omega,by rw [hf,hi,hl,Nat.mul_one],by rw [hf];exact h3⟩⟩,hr⟩,fun x hx=>?_⟩
  simp only [rowB,Option.some.injEq] at hx
  rw [<-hx]
  exact h0
structure SmRow (H0 H:Hp) (dv hv nv:Value) (s:Sm):Prop where
 dd:RowG 30 4 H dv (s.doors.map Bx4)
 hh:RowG 3 1 H hv (int1 s.hampers)
 nn:RowG 32 3 H nv (s.noses.map Bzf)
 dn:∀x,rowB dv=some x->H0 x=none
 hn:∀x,rowB hv=some x->H0 x=none
 nw:∀x,rowB nv=some x->H0 x=none
theorem SmRow.smIn {H0 H:Hp} {dv hv nv:Value} {s:Sm} (h:SmRow H0 H dv hv nv s):SmIn H dv hv nv s:=⟨h.dd.slG (by decide),SlG.ints1 (h.hh.slG (by decide)),h.nn.slG (by decide)⟩
theorem RowG.le {e:TypeId} {sz:Nat} {H H':Hp} {v:Value} {rows:List (List Value)} (h:RowG e sz H v rows) (hl:H.le H'):RowG e sz H' v rows:=h.keep fun x u _ hu=>hl _ _ hu
theorem SmRow.le {H0 H H':Hp} {dv hv nv:Value} {s:Sm} (h:SmRow H0 H dv hv nv s) (hl:H.le H'):SmRow H0 H' dv hv nv s:=⟨h.dd.le hl,h.hh.le hl,h.nn.le hl,h.dn,h.hn,h.nw⟩
theorem RowG.put {e:TypeId} {sz:Nat} {H:Hp} {v:Value} {rows:List (List Value)} (h:RowG e sz H v rows) {b:Nat} {q:Bool} {c:Array Value} {t:TypeId} {fr:Nat×Nat} (hb:H b=some (q,.cells c t fr)) (hne:e≠t) (o:Obj):RowG e sz (H.set b o) v rows:=h.keep fun x u hx hu=>by
 rw [Aqv (h.bound hx hb fun c' hc=>by simp only [Obj.cells.injEq] at hc;exact hne hc.2.1.symm)]
 exact hu
theorem SmRow.put {H0 H:Hp} {dv hv nv:Value} {s:Sm} (h:SmRow H0 H dv hv nv s) {b:Nat} {q:Bool} {c:Array Value} {fr:Nat×Nat} (hb:H b=some (q,.cells c 26 fr)) {o:Obj}:SmRow H0 (H.set b o) dv hv nv s:=⟨h.dd.put hb (by decide) o,h.hh.put hb (by decide) o,h.nn.put hb (by decide) o,h.dn,h.hn,h.nw⟩
theorem SmIn.lexT {H H':Hp} {dv hv nv:Value} {s:Sm} (h:SmIn H dv hv nv s) {b k:Nat} (hT:TinI H b k) (hl:Lex (some b) H H'):SmIn H' dv hv nv s:=⟨SlG.lexT h.dd hT (by decide) hl,h.hh.lex hl hT,SlG.lexT h.nn hT (by decide) hl⟩
theorem RowG.other {e e':TypeId} {sz sz':Nat} {H H':Hp} {v v':Value} {rows rows':List (List Value)} (h:RowG e sz H v rows) (h':RowG e' sz' H v' rows') (he:e≠e') (hk:∀x u,H x=some u->rowB v≠some x->H' x=some u):RowG e' sz' H' v' rows':=h'.keep fun x u hx hu=>hk x u hu fun hv=>by
 obtain ⟨c,hc⟩:=h.cell hv
 exact h'.bound hx hc (fun c' hc'=>by simp only [Obj.cells.injEq] at hc';exact he hc'.2.1) rfl
def ksΦ (H0:Hp) (sb:Nat) (s:Sm) (dv hv nv:Value):Nat->Value->Hp->Prop
 | 0=>fun v _=>v=.pointer (some ⟨sb,0,none⟩)
 | 1=>fun v _=>v=.int .i64 s.places
 | 2=>fun v H=>∃b,v=.slice (some ⟨b,0,none⟩) 0 0/\H b=some (true,.cells #[] 30 (0,0))/\H0 b=none
 | 3=>fun v _=>v=.pointer (some ⟨sb,1,none⟩)
 | 4=>fun v _=>v=dv
 | 5=>fun v H=>RowG 30 4 H v (s.doors.map Bx4)/\∀x,rowB v=some x->H0 x=none
 | 6=>fun v _=>v=.pointer (some ⟨sb,2,none⟩)
 | 7=>fun v _=>v=hv
 | 8=>fun v H=>RowG 3 1 H v (int1 s.hampers)/\∀x,rowB v=some x->H0 x=none
 | 9=>fun v H=>∃b,v=.slice (some ⟨b,0,none⟩) 0 0/\H b=some (true,.cells #[] 32 (0,0))/\H0 b=none
 | 10=>fun v _=>v=.pointer (some ⟨sb,3,none⟩)
 | 11=>fun v _=>v=nv
 | 12=>fun v H=>RowG 32 3 H v (s.noses.map Bzf)/\∀x,rowB v=some x->H0 x=none
 | 13=>fun v H=>∃dv' hv' nv',v=smV s.places dv' hv' nv'/\SmRow H0 H dv' hv' nv' s
 | _=>fun _ _=>True
theorem ksΦ_le {H0:Hp} {sb:Nat} {s:Sm} {dv hv nv:Value}:∀(k:Nat) (v:Value) (H H':Hp),ksΦ H0 sb s dv hv nv k v H->H.le H'->ksΦ H0 sb s dv hv nv k v H'
 | 0,_,_,_,h,_ | 1,_,_,_,h,_ | 3,_,_,_,h,_ | 4,_,_,_,h,_ | 6,_,_,_,h,_ | 7,_,_,_,h,_ | 10,_,_,_,h,_ | 11,_,_,_,h,_=>h
 | 2,_,_,_,⟨b,h1,h2,h3⟩,hl | 9,_,_,_,⟨b,h1,h2,h3⟩,hl=>⟨b,h1,hl _ _ h2,h3⟩
 | 5,_,_,_,⟨h1,h2⟩,hl | 8,_,_,_,⟨h1,h2⟩,hl | 12,_,_,_,⟨h1,h2⟩,hl=>⟨h1.le hl,h2⟩
 | 13,_,_,_,⟨a,b,c,h1,h2⟩,hl=>⟨a,b,c,h1,h2.le hl⟩
 | _+14,_,_,_,_,_=>trivial
theorem keepSmell_rd (m:Md) (H:Hp) (s:Sm) (dv hv nv:Value) (hs:RsS H dv hv nv s) (hl1:s.doors.length<=1000) (hl2:s.hampers.length<=1000) (hl3:s.noses.length<=1000) :
  FnX Tryz.prog m 13 #[smV s.places dv hv nv] H fun e H'=>∃dv' hv' nv',e=.returned (smV s.places dv' hv' nv')/\SmRow H H' dv' hv' nv' s/\H.le H':=by
 obtain ⟨da,dc,ha,kc,na,nc,rfl,rfl,rfl,l1,l2,l3⟩:=hs.forms
 refine Aqn func13 rfl ntmps13 (by simp) ?_
 (refine @unH _ (zA y13_153 ?_);(try clear hK K);intro K hK hc)
 (intro sb hsb rb hrb;replace hrb:(Hp.set _ sb _) rb=none:=hrb;generalize hG:Hp.set _ sb _=H1 at hrb ⊢;have lH1:=Aqc hG hsb;have wsb:=Aqb hG;clear hG;generalize hG:Hp.set _ rb _=H2;have lH2:=Aqc hG hrb;have vrb:=Aqb hG;have vsb:=lH2 _ _ wsb;have nsbrb:=Aqr wsb hrb;clear hG wsb)
 have lH:=Hp.le_trans lH1 lH2
 refine hK _ _ ?_
 clear hK K
 (try refine @unH _ (zQ ?_))
 refine wpX_gstmt (ksΦ H sb s (.slice da s.doors.length dc) (.slice ha s.hampers.length kc) (.slice na s.noses.length nc)) (by kernel_rfl) (by kernel_rfl) ksΦ_le ?_;intro K hK
 (refine growAll_cons ?_ ?_;(focus (intro e HX hle he hd;have e1:e 1=.pointer (some ⟨sb,0,none⟩):=he 1 (by kernel_rfl);clear he hd;refine ⟨by rfl,?_⟩;(refine @unH _ ?_;refine zX y13_153 ?_);exact ⟨Hp.le_refl _,_,rfl,rfl⟩)))
 (refine growAll_cons ?_ ?_;(focus (intro e HX hle he hd;have vx:=hle _ _ vsb;have e3:e 3=_:=hd 0 3 (by kernel_rfl);clear he hd;refine ⟨by rfl,?_⟩;(refine @unH _ ?_;refine zX y13_153 ?_);exact ⟨Hp.le_refl _,_,rfl,rfl⟩)))
 refine growAll_cons ?_ ?_
 ·intro e HX hle he hd
  clear he hd
  refine ⟨by rfl,?_⟩
  (refine @unH _ ?_;refine zX y13_153 ?_)
  intro b hb
  rw [range0]
  exact ⟨Hp.le_set hb,_,rfl,b,rfl,Axh,Hp.le_none (Hp.le_trans lH hle) hb⟩
 (refine growAll_cons ?_ ?_;(focus (intro e HX hle he hd;have e1:e 1=.pointer (some ⟨sb,0,none⟩):=he 1 (by kernel_rfl);clear he hd;refine ⟨by rfl,?_⟩;(refine @unH _ ?_;refine zX y13_153 ?_);exact ⟨Hp.le_refl _,_,rfl,rfl⟩)))
 (refine growAll_cons ?_ ?_;(focus (intro e HX hle he hd;have vx:=hle _ _ vsb;have e6:e 6=_:=hd 3 6 (by kernel_rfl);clear he hd;refine ⟨by rfl,?_⟩;(refine @unH _ ?_;refine zX y13_153 ?_);exact ⟨Hp.le_refl _,_,rfl,rfl⟩)))
 refine growAll_cons ?_ ?_
 ·intro e HX hle he hd
  obtain ⟨b,e5,vb,hb⟩:=hd 2 5 (by kernel_rfl)
  have e7:e 7=_:=hd 4 7 (by kernel_rfl)
  clear he hd
  refine ⟨by rfl,?_⟩
  (refine @unH _ ?_;refine zX y13_153 ?_)
  refine append_newG (by decide) underlying22 sizeOf30 zeroValue30 rfl typeInfo30 (by decide) (by decide) vb (RdG.le hs.dd (Hp.le_trans lH hle)) (by omega) _ _ _ _ (fun v' H' hr hl hn=>?_)
  (refine @unH _ ?_;refine zX y13_153 ?_)
  exact ⟨_,rfl,hr,fun x hx=>(hn x hx).elim (fun h=>by rw [h];exact hb) fun h=>Hp.le_none (Hp.le_trans lH hle) h⟩
 (refine growAll_cons ?_ ?_;(focus (intro e HX hle he hd;have e1:e 1=.pointer (some ⟨sb,0,none⟩):=he 1 (by kernel_rfl);clear he hd;refine ⟨by rfl,?_⟩;(refine @unH _ ?_;refine zX y13_153 ?_);exact ⟨Hp.le_refl _,_,rfl,rfl⟩)))
 (refine growAll_cons ?_ ?_;(focus (intro e HX hle he hd;have vx:=hle _ _ vsb;have e9:e 9=_:=hd 6 9 (by kernel_rfl);clear he hd;refine ⟨by rfl,?_⟩;(refine @unH _ ?_;refine zX y13_153 ?_);exact ⟨Hp.le_refl _,_,rfl,rfl⟩)))
 refine growAll_cons ?_ ?_
 ·intro e HX hle he hd
  have e10:e 10=_:=hd 7 10 (by kernel_rfl)
  clear he hd
  refine ⟨by rfl,?_⟩
  (refine @unH _ ?_;refine zX y13_153 ?_)
  refine (Dqa m HX _ s.hampers (hs.hh.le (Hp.le_trans lH hle)) (by omega)).runs.mono ?_
  rintro _ H' ⟨w,rfl,hr⟩
  have h2:=rowX_G hr
  simp -implicitDefEqProofs (disch:=omega) only [Azn,Aq3,Aql]
  exact ⟨fun x u hx=>(by obtain ⟨v',g1,g2⟩:=hr.1 x u hx;rw [g1,g2 (fun h=>by cases h)]),_,rfl,h2.1,fun x hx=>Hp.le_none (Hp.le_trans lH hle) (h2.2 x hx)⟩
 refine growAll_cons ?_ ?_
 ·intro e HX hle he hd
  clear he hd
  refine ⟨by rfl,?_⟩
  (refine @unH _ ?_;refine zX y13_153 ?_)
  intro b hb
  rw [range0]
  exact ⟨Hp.le_set hb,_,rfl,b,rfl,Axh,Hp.le_none (Hp.le_trans lH hle) hb⟩
 (refine growAll_cons ?_ ?_;(focus (intro e HX hle he hd;have e1:e 1=.pointer (some ⟨sb,0,none⟩):=he 1 (by kernel_rfl);clear he hd;refine ⟨by rfl,?_⟩;(refine @unH _ ?_;refine zX y13_153 ?_);exact ⟨Hp.le_refl _,_,rfl,rfl⟩)))
 (refine growAll_cons ?_ ?_;(focus (intro e HX hle he hd;have vx:=hle _ _ vsb;have e13:e 13=_:=hd 10 13 (by kernel_rfl);clear he hd;refine ⟨by rfl,?_⟩;(refine @unH _ ?_;refine zX y13_153 ?_);exact ⟨Hp.le_refl _,_,rfl,rfl⟩)))
 refine growAll_cons ?_ ?_
 ·intro e HX hle he hd
  obtain ⟨b,e12,vb,hb⟩:=hd 9 12 (by kernel_rfl)
  have e14:e 14=_:=hd 11 14 (by kernel_rfl)
  clear he hd
  refine ⟨by rfl,?_⟩
  (refine @unH _ ?_;refine zX y13_153 ?_)
  refine append_newG (by decide) underlying24 sizeOf32 zeroValue32 rfl typeInfo32 (by decide) (by decide) vb (RdG.le hs.nn (Hp.le_trans lH hle)) (by omega) _ _ _ _ (fun v' H' hr hl hn=>?_)
  (refine @unH _ ?_;refine zX y13_153 ?_)
  exact ⟨_,rfl,hr,fun x hx=>(hn x hx).elim (fun h=>by rw [h];exact hb) fun h=>Hp.le_none (Hp.le_trans lH hle) h⟩
 refine growAll_cons ?_ ?_
 ·intro e HX hle he hd
  have e4:e 4=_:=hd 1 4 (by kernel_rfl)
  obtain ⟨g1,g2⟩:RowG _ _ _ (e 8) _/\_:=hd 5 8 (by kernel_rfl)
  obtain ⟨g3,g4⟩:RowG _ _ _ (e 11) _/\_:=hd 8 11 (by kernel_rfl)
  obtain ⟨g5,g6⟩:RowG _ _ _ (e 15) _/\_:=hd 12 15 (by kernel_rfl)
  clear he hd
  generalize h8:e 8=v8 at *
  generalize h11:e 11=v11 at *
  generalize h15:e 15=v15 at *
  have hg:SmRow H HX v8 v11 v15 s:=⟨g1,g3,g5,g2,g4,g6⟩
  obtain ⟨_,_,rfl⟩:=g1.form
  obtain ⟨_,_,rfl⟩:=g3.form
  obtain ⟨_,_,rfl⟩:=g5.form
  replace hg:Aqk _:=hg
  clear g1 g2 g3 g4 g5 g6
  refine ⟨by rfl,?_⟩
  (refine @unH _ ?_;refine zX y13_153 ?_)
  exact ⟨Hp.le_refl _,_,rfl,_,_,_,rfl,hg⟩
 refine growAll_one ?_
 intro e HX hle he hd
 obtain ⟨dv',hv',nv',e16,hg⟩:=hd 13 16 (by kernel_rfl)
 have e2:e 2=.pointer (some ⟨rb,0,none⟩):=he 2 (by kernel_rfl)
 have vr:=hle _ _ vrb
 clear he hd
 obtain ⟨_,_,rfl⟩:=hg.dd.form
 obtain ⟨_,_,rfl⟩:=hg.hh.form
 obtain ⟨_,_,rfl⟩:=hg.nn.form
 replace hg:Aqk _:=hg
 refine ⟨by rfl,?_⟩
 (refine @unH _ ?_;refine zX y13_153 ?_)
 refine hK _ _ ?_
 clear hK K
 (try refine @unH _ (zQ ?_))
 (refine Axr ?_;(try simp only [nq,↓reduceIte,Nat.reduceEqDiff]);rw [Aq8,Ax4 results13 (by decide) (b:=rb) (o:=0) ?hcell underlying26 rfl sizeOf26];(case hcell=>exact e2);simp -implicitDefEqProofs (disch:=first | omega | (simp only [qd]<;>omega)) only [xq,↓xp,qc,Nat.reduceAdd,List.range,List.range.loop,fine,Nat.reduceEqDiff,↓reduceIte,yielded,reduceCtorEq,Nat.reduceLT,Nat.reduceMul,Nat.reduceSub,one,Nat.reduceLeDiff,Aqg,y13_153,Axl,List.extract_toArray])
 have hg':SmRow H HX _ _ _ s:=hg
 exact ⟨_,_,_,rfl,hg'.put vr,Az4 (Hp.le_trans lH hle) (Hp.le_none lH1 hrb)⟩
theorem keepSmell_spec (m:Md) (H:Hp) (s:Sm) (dv hv nv:Value) (hs:SmIn H dv hv nv s) (hl1:s.doors.length<=1000) (hl2:s.hampers.length<=1000) (hl3:s.noses.length<=1000) :
 FnX Tryz.prog m 13 #[smV s.places dv hv nv] H fun e H'=>∃dv' hv' nv',e=.returned (smV s.places dv' hv' nv')/\SmRow H H' dv' hv' nv' s/\H.le H':=keepSmell_rd m H s dv hv nv hs.rd hl1 hl2 hl3
end Go.Proofs.YtaehjjbekjglkaaGreatDoor
end
section
namespace Go.Proofs.YtaehjjbekjglkaaGreatDoor
open Go Go.X Go.Proofs.Tryz
def y19_157:=aN @Dwi (aN @Dw2 (aN @Dwj (aN @Dwz (aN @Dv4 (aN @Dwl (aN @Dw1 (aN @Dv6 (aN @Dwk (aN @Dw0 (aN @Dxz (aN @Dyo (aN @Dyb (aN @Dyq @Dyc)))))))))))))
end Go.Proofs.YtaehjjbekjglkaaGreatDoor
namespace Go.X
open Go
def SelfEq (P:Program) (d:Nat) (t:TypeId) (v:Value):Prop:=∀(H:Hp) (K:Bool->Hp->Prop) (E:Value->Hp->Prop),wpS P (Op.equalIn d t v v) H K E=K true H
theorem selfEq_int {P:Program} {t:TypeId} {k:IntKind} (hu:P.underlying t=some (.int k)) (d:Nat) (j:IntKind) (a:Int):SelfEq P (d+1) t (.int j a):=fun H K E=>by
 rw [Ajj hu,beq_self_eq_true]
theorem selfEq_bool {P:Program} {t:TypeId} (hu:P.underlying t=some .bool) (d:Nat) (b:Bool):SelfEq P (d+1) t (.bool b):=fun H K E=>by
 unfold Op.equalIn
 simp only [Aqa,Aqj hu,Aqf,beq_self_eq_true]
theorem selfEq_struct2 {P:Program} {d:Nat} {t:TypeId} {f1 f2:Field} (hu:P.underlying t=some (.struct #[f1,f2])) (hh:P.stoodInHeld t=false) (n1:f1.name ≠ "_") (n2:f2.name ≠ "_") {xs:Array Value} {v1 v2:Value}
  (p1:∀(H:Hp) (K:Value->Hp->Prop) (E:Value->Hp->Prop),wpS P (part f1.type xs f1.offset) H K E=K v1 H) (p2:∀(H:Hp) (K:Value->Hp->Prop) (E:Value->Hp->Prop),wpS P (part f2.type xs f2.offset) H K E=K v2 H)
  (s1:SelfEq P d f1.type v1) (s2:SelfEq P d f2.type v2):SelfEq P (d+1) t (.agg xs):=fun H K E=>by
 unfold Op.equalIn
 simp only [Aqa,Aqj hu,Ajr,hh,Bool.false_eq_true,if_false,Aqf,List.forIn_toArray,List.forIn_cons,List.forIn_nil,n1,n2,ne_eq,not_false_eq_true,if_true]
 rw [p1,p1,s1]
 simp only [Bool.not_true,Bool.false_eq_true,if_false,Aqf,Aqa]
 rw [p2,p2,s2]
 simp only [Bool.not_true,Bool.false_eq_true,if_false,Aqf]
theorem selfEq_struct3 {P:Program} {d:Nat} {t:TypeId} {f1 f2 f3:Field} (hu:P.underlying t=some (.struct #[f1,f2,f3])) (hh:P.stoodInHeld t=false) (n1:f1.name ≠ "_") (n2:f2.name ≠ "_") (n3:f3.name ≠ "_") {xs:Array Value} {v1 v2 v3:Value}
  (p1:∀(H:Hp) (K:Value->Hp->Prop) (E:Value->Hp->Prop),wpS P (part f1.type xs f1.offset) H K E=K v1 H) (p2:∀(H:Hp) (K:Value->Hp->Prop) (E:Value->Hp->Prop),wpS P (part f2.type xs f2.offset) H K E=K v2 H) (p3:∀(H:Hp) (K:Value->Hp->Prop) (E:Value->Hp->Prop),wpS P (part f3.type xs f3.offset) H K E=K v3 H)
  (s1:SelfEq P d f1.type v1) (s2:SelfEq P d f2.type v2) (s3:SelfEq P d f3.type v3):SelfEq P (d+1) t (.agg xs):=fun H K E=>by
 unfold Op.equalIn
 simp only [Aqa,Aqj hu,Ajr,hh,Bool.false_eq_true,if_false,Aqf,List.forIn_toArray,List.forIn_cons,List.forIn_nil,n1,n2,n3,ne_eq,not_false_eq_true,if_true]
 rw [p1,p1,s1]
 simp only [Bool.not_true,Bool.false_eq_true,if_false,Aqf,Aqa]
 rw [p2,p2,s2]
 simp only [Bool.not_true,Bool.false_eq_true,if_false,Aqf,Aqa]
 rw [p3,p3,s3]
 simp only [Bool.not_true,Bool.false_eq_true,if_false,Aqf]
theorem neq_self {P:Program} {H:Hp} {t:TypeId} {xs:Array Value} (h:SelfEq P 10000 t (.agg xs)) (K:Value->Hp->Prop) (E:Value->Hp->Prop):wpS P (binOp .neq t (.agg xs) (.agg xs)) H K E=K (.bool false) H:=by
 simp only [binOp]
 rw [Aqa]
 unfold Op.equal Op.maxDepth
 rw [h]
 rfl
end Go.X
namespace Go.Proofs.YtaehjjbekjglkaaGreatDoor
open Go Go.X Go.Proofs.Tryz
theorem selfBand (d:Nat) (a b:Int):SelfEq Tryz.prog (d+2) 28 (.agg #[.int .i64 a,.int .i64 b]):=
 selfEq_struct2 underlying28 (by kernel_rfl) (by decide) (by decide) (fun _ K E=>Aqm underlying3 rfl _ _ rfl K E) (fun _ K E=>Aqm underlying3 rfl _ _ rfl K E) (selfEq_int underlying3 d _ _) (selfEq_int underlying3 d _ _)
theorem selfDoor (d:Nat) (a b x y:Int):SelfEq Tryz.prog (d+3) 30 (.agg #[.int .i64 a,.int .i64 b,.int .i64 x,.int .i64 y]):=
 selfEq_struct3 underlying30 (by kernel_rfl) (by decide) (by decide) (by decide) (fun _ K E=>Aqm underlying3 rfl _ _ rfl K E) (fun _ K E=>Aqm underlying3 rfl _ _ rfl K E) (fun _ K E=>Bxp underlying28 rfl sizeOf28 _ _ K E) (selfEq_int underlying3 (d+1) _ _) (selfEq_int underlying3 (d+1) _ _) (selfBand d x y)
theorem selfNose (d:Nat) (p h:Int) (b:Bool):SelfEq Tryz.prog (d+2) 32 (.agg #[.int .i64 p,.int .i64 h,.bool b]):=
 selfEq_struct3 underlying32 (by kernel_rfl) (by decide) (by decide) (by decide) (fun _ K E=>Aqm underlying3 rfl _ _ rfl K E) (fun _ K E=>Aqm underlying3 rfl _ _ rfl K E) (fun _ K E=>Aqm underlying4 rfl _ _ rfl K E) (selfEq_int underlying3 d _ _) (selfEq_int underlying3 d _ _) (selfEq_bool underlying4 d _)
theorem snDoor {H:Hp} (a b x y:Int) (K:Value->Hp->Prop) (E:Value->Hp->Prop):wpS Tryz.prog (binOp .neq 30 (.agg #[.int .i64 a,.int .i64 b,.int .i64 x,.int .i64 y]) (.agg #[.int .i64 a,.int .i64 b,.int .i64 x,.int .i64 y])) H K E=K (.bool false) H:=neq_self (selfDoor 9997 a b x y) K E
theorem snNose {H:Hp} (p h:Int) (b:Bool) (K:Value->Hp->Prop) (E:Value->Hp->Prop):wpS Tryz.prog (binOp .neq 32 (.agg #[.int .i64 p,.int .i64 h,.bool b]) (.agg #[.int .i64 p,.int .i64 h,.bool b])) H K E=K (.bool false) H:=neq_self (selfNose 9998 p h b) K E
theorem sguardDoor:Program.eqGuardType Tryz.prog (Program.depth Tryz.prog) 30=false:=by kernel_rfl
theorem sguardNose:Program.eqGuardType Tryz.prog (Program.depth Tryz.prog) 32=false:=by kernel_rfl
theorem sgDoor {H:Hp} (op:BinOp) (x y:Operand) (p q:Array Value) (K:Unit->Hp->Prop) (E:Value->Hp->Prop):wpS Tryz.prog (eqGuard op 30 x y (.agg p) (.agg q)) H K E=K () H:=Cvu sguardDoor op x y p q K E
theorem sgNose {H:Hp} (op:BinOp) (x y:Operand) (p q:Array Value) (K:Unit->Hp->Prop) (E:Value->Hp->Prop):wpS Tryz.prog (eqGuard op 32 x y (.agg p) (.agg q)) H K E=K () H:=Cvu sguardNose op x y p q K E
theorem likeSmells_rd (m:Md) (H:Hp) (s:Sm) (dv hv nv dv' hv' nv':Value) (hs:RsS H dv hv nv s) (hs':RsS H dv' hv' nv' s) (hl1:s.doors.length<=1000) (hl2:s.hampers.length<=1000) (hl3:s.noses.length<=1000) :
  FnX Tryz.prog m 19 #[smV s.places dv hv nv,smV s.places dv' hv' nv'] H fun e H'=>e=.returned (.bool true)/\H.le H':=by
 obtain ⟨da,dc,ha,kc,na,nc,rfl,rfl,rfl,-,-,-⟩:=hs.forms
 obtain ⟨da',dc',ha',kc',na',nc',rfl,rfl,rfl,-,-,-⟩:=hs'.forms
 refine Aqn func19 rfl ntmps19 (by simp) ?_
 (refine @unH _ (zA y19_157 ?_);(try clear hK K);intro K hK hc)
 (intro ab hab bb hbb;replace hbb:(Hp.set _ ab _) bb=none:=hbb;generalize hG:Hp.set _ ab _=H1 at hbb ⊢;have lH1:=Aqc hG hab;have wab:=Aqb hG;clear hG;generalize hG:Hp.set _ bb _=H2;have lH2:=Aqc hG hbb;have vbb:=Aqb hG;have vab:=lH2 _ _ wab;have nabbb:=Aqr wab hbb;clear hG wab)
 have l2:=Hp.le_trans lH1 lH2
 have hLik:=Byx m H2 _ _ _ _ (hs.hh.le l2) (hs'.hh.le l2) (by omega) (by omega)
 rw [show decide (s.hampers=s.hampers)=true from decide_eq_true rfl] at hLik
 have hd:=RdG.le hs.dd l2
 have hd':=RdG.le hs'.dd l2
 have hn:=RdG.le hs.nn l2
 have hn':=RdG.le hs'.nn l2
 clear hs hs' lH1 lH2 hab hbb nabbb
 replace hLik:Aqk _:=hLik
 replace hd:Aqk _:=hd
 replace hd':Aqk _:=hd'
 replace hn:Aqk _:=hn
 replace hn':Aqk _:=hn'
 have hq1:∀o,Hp.cell H2 ⟨ab,o,none⟩=(#[.int .i64 s.places,.slice da s.doors.length dc,.slice ha s.hampers.length kc,.slice na s.noses.length nc]:Array Value)[o]?:=fun o=>cell_of vab
 have hq2:∀o,Hp.cell H2 ⟨bb,o,none⟩=(#[.int .i64 s.places,.slice da' s.doors.length dc',.slice ha' s.hampers.length kc',.slice na' s.noses.length nc']:Array Value)[o]?:=fun o=>cell_of vbb
 refine hK _ _ ?_
 clear hK K
 (try refine @unH _ (zQ ?_))
 refine Axn (Axn (wpX_rz 31 (by rfl) ?_))
 intro K hK ops hOz
 (iterate 29 (refine @unH _ ?_;refine zR y19_157 ?_))
 refine (show FnX _ _ _ _ _ _ from hLik).runs.mono ?_
 rintro _ HQ ⟨rfl,hHQ⟩
 rw [hHQ]
 clear hHQ HQ hLik
 simp -implicitDefEqProofs (disch:=omega) only [Azn,Aq3,Aql]
 (iterate 2 (refine @unH _ ?_;refine zR y19_157 ?_))
 (refine RZ_nil ?_;refine hK _ _ ?_;clear hK K;(try simp only [nq,↓reduceIte,Nat.reduceEqDiff]))
 refine Bj6 (fun e=>e 2=.pointer (some ⟨ab,0,none⟩)/\e 3=.pointer (some ⟨bb,0,none⟩)/\e 37=.bool false) ⟨rfl,rfl,rfl⟩ ?_
 rintro e ⟨e2,e3,e37⟩
 (refine @unH _ (zA y19_157 ?_);(try clear hK K);intro K hK hc)
 clear e37
 refine Axg (fun w a' H'=>∃e,∃j:Nat,w=s.doors.length-j/\j<=s.doors.length/\a'=act 74 e []/\e 2=.pointer (some ⟨ab,0,none⟩)/\e 3=.pointer (some ⟨bb,0,none⟩)/\e 5=.int .i64 (j:Nat)/\H'=H2) (n:=s.doors.length) ?_ ?_
 ·exact ⟨_,0,by omega,by omega,rfl,e2,e3,rfl,rfl⟩
 clear e2 e3 e
 rintro w a' H' ⟨e,j,rfl,hj,rfl,e2,e3,e5,hHQ⟩
 rw [hHQ]
 clear hHQ H'
 by_cases hlj:j<s.doors.length
 ·have hlj':(j:Int)<s.doors.length:=by omega
  have hkd:=List.getElem?_eq_getElem hlj
  obtain ⟨db,dof,dp,dcl,_,dfr,rfl,hdb2,hdsz,_,hdext⟩:=RdG.get (show RdG _ H2 _ _ from hd) (i:=j) (r:=Bx4 s.doors[j]) (by rw [List.getElem?_map,hkd];rfl)
  obtain ⟨db',dof',dp',dcl',_,dfr',rfl,hdb2',hdsz',_,hdext'⟩:=RdG.get (show RdG _ H2 _ _ from hd') (i:=j) (r:=Bx4 s.doors[j]) (by rw [List.getElem?_map,hkd];rfl)
  generalize s.doors[j]=d at *
  unfold Bx4 at hdext hdext'
  clear hkd hd hd'
  (refine @unH _ (zA y19_157 ?_);(try clear hK K);intro K hK hc)
  refine Axm (fun HX=>HX=H2) [] (.free 0 (.take 1 (.free 2 (.free 3 (.take 4 (.free 5 (.take 6 (.free 7 (.free 8 (.take 9 (.free 10 .nil))))))))))) (by kernel_rfl) (by kernel_rfl) (by decide) (by kernel_rfl) ?_;intro K hK
  refine Ax6 fun ops hOz=>?_
  (refine @unH _ ?_;refine zF y19_157 ?_)
  (refine @unH _ ?_;refine zL y19_157 ?_)
  (iterate 2 (refine @unH _ ?_;refine zF y19_157 ?_))
  (refine @unH _ ?_;refine zL y19_157 ?_)
  (refine @unH _ ?_;refine zF y19_157 ?_)
  (refine @unH _ ?_;refine zL y19_157 ?_)
  (iterate 2 (refine @unH _ ?_;refine zF y19_157 ?_))
  (refine @unH _ ?_;refine zL y19_157 ?_)
  (refine @unH _ ?_;refine zF (aN y19_157 (aN @sgDoor @snDoor)) ?_)
  (refine Az6 (hK _ _ ?_);clear hK K;(try simp only [nq,↓reduceIte,Nat.reduceEqDiff]))
  (refine @unH _ (zA y19_157 ?_);(try clear hK K);intro K hK hc)
  exact ⟨s.doors.length-(j+1),by omega,_,j+1,rfl,by omega,rfl,e2,e3,rfl,trivial⟩
 have hlj':¬(j:Int)<s.doors.length:=by omega
 (refine @unH _ (zA y19_157 ?_);(try clear hK K);intro K hK hc)
 clear e5 hd hd' hlj hlj'
 refine Axg (fun w a' H'=>∃e,∃j:Nat,w=s.noses.length-j/\j<=s.noses.length/\a'=act 74 e []/\e 2=.pointer (some ⟨ab,0,none⟩)/\e 3=.pointer (some ⟨bb,0,none⟩)/\e 6=.int .i64 (j:Nat)/\H'=H2) (n:=s.noses.length) ?_ ?_
 ·exact ⟨_,0,by omega,by omega,rfl,e2,e3,rfl,rfl⟩
 clear e2 e3 e
 rintro w a' H' ⟨e,j,rfl,hj,rfl,e2,e3,e6,hHQ⟩
 rw [hHQ]
 clear hHQ H'
 by_cases hlj:j<s.noses.length
 ·have hlj':(j:Int)<s.noses.length:=by omega
  have hkd:=List.getElem?_eq_getElem hlj
  obtain ⟨db,dof,dp,dcl,_,dfr,rfl,hdb2,hdsz,_,hdext⟩:=RdG.get (show RdG _ H2 _ _ from hn) (i:=j) (r:=Bzf s.noses[j]) (by rw [List.getElem?_map,hkd];rfl)
  obtain ⟨db',dof',dp',dcl',_,dfr',rfl,hdb2',hdsz',_,hdext'⟩:=RdG.get (show RdG _ H2 _ _ from hn') (i:=j) (r:=Bzf s.noses[j]) (by rw [List.getElem?_map,hkd];rfl)
  generalize s.noses[j]=d at *
  unfold Bzf at hdext hdext'
  clear hkd hn hn'
  (refine @unH _ (zA y19_157 ?_);(try clear hK K);intro K hK hc)
  refine Axm (fun HX=>HX=H2) [] (.free 0 (.take 1 (.free 2 (.free 3 (.take 4 (.free 5 (.take 6 (.free 7 (.free 8 (.take 9 (.free 10 .nil))))))))))) (by kernel_rfl) (by kernel_rfl) (by decide) (by kernel_rfl) ?_;intro K hK
  refine Ax6 fun ops hOz=>?_
  (refine @unH _ ?_;refine zF y19_157 ?_)
  (refine @unH _ ?_;refine zL y19_157 ?_)
  (iterate 2 (refine @unH _ ?_;refine zF y19_157 ?_))
  (refine @unH _ ?_;refine zL y19_157 ?_)
  (refine @unH _ ?_;refine zF y19_157 ?_)
  (refine @unH _ ?_;refine zL y19_157 ?_)
  (iterate 2 (refine @unH _ ?_;refine zF y19_157 ?_))
  (refine @unH _ ?_;refine zL y19_157 ?_)
  (refine @unH _ ?_;refine zF (aN y19_157 (aN @sgNose @snNose)) ?_)
  (refine Az6 (hK _ _ ?_);clear hK K;(try simp only [nq,↓reduceIte,Nat.reduceEqDiff]))
  (refine @unH _ (zA y19_157 ?_);(try clear hK K);intro K hK hc)
  exact ⟨s.noses.length-(j+1),by omega,_,j+1,rfl,by omega,rfl,e2,e3,rfl,trivial⟩
 have hlj':¬(j:Int)<s.noses.length:=by omega
 (refine @unH _ (zA y19_157 ?_);(try clear hK K);intro K hK hc)
 (refine @unH _ ?_;refine z9 results19 ?_)
 exact ⟨trivial,l2⟩
end Go.Proofs.YtaehjjbekjglkaaGreatDoor
end
section
namespace Go.Proofs.YtaehjjbekjglkaaGreatDoor
open Go Go.X Go.Extern Go.Proofs.Tryz
def y98_166:=aN @Ckn (aN @Dzy (aN (fun H=>Bw7 (H:=H) underlying90) (aN (fun H=>Bkb (H:=H) underlying90) (aN (fun H=>Bw8 (H:=H) underlying90) (aN (fun H=>Bkd (H:=H) underlying90) (aN (fun H=>Bw7 (H:=H) underlying20) (aN (fun H=>Bkb (H:=H) underlying20) (aN (fun H=>Bw8 (H:=H) underlying20) (aN (fun H=>Bkd (H:=H) underlying20) (aN (fun H=>Dqe (H:=H) underlying9 rfl) (aN (fun H=>Aqu (H:=H) (P:=Tryz.prog) (h:=zeroValue166)) (aN (fun H=>Aqs (H:=H) sizeOf166) (aN @Dw8 (aN (fun H=>Aqh (H:=H) underlying169 rfl) @callF112))))))))))))))
def y112_166:=aN @Dw8 (aN @Ckn (aN @Dzy (aN (fun H=>Bw7 (H:=H) underlying90) (aN (fun H=>Bkb (H:=H) underlying90) (aN (fun H=>Bw8 (H:=H) underlying90) (aN (fun H=>Bkd (H:=H) underlying90) (aN (fun H=>Aq9 (H:=H) underlying206) (aN (fun H=>Aqt (H:=H) underlying206 sizeOf90) (aN (fun H=>Aqh (H:=H) underlying90 rfl) @callF112)))))))))
theorem x_valueOfPN (a:Addr) (H:Hp) (K:Value->Hp->Prop) (E:Value->Hp->Prop):wpS Tryz.prog (ReflectliteValue.unpack (.iface 145 (.pointer (some a)))) H K E=∀b,H b=none->K (.agg #[.pointer (some ⟨1,145,none⟩),.pointer (some ⟨b,0,none⟩),.int .u64 150]) (H.set b (.cells #[.pointer (some a)] 145 (0,0))):=by kernel_rfl
theorem x_typeN (a:Addr) (H:Hp) (K:Value->Hp->Prop) (E:Value->Hp->Prop):wpS Tryz.prog (ReflectliteValue.methodAny (ReflectliteValue.valueError "reflectlite.Value.Type" 0) (fun t _ _ _=>ReflectliteType.toType t) #[.agg #[.pointer (some ⟨1,145,none⟩),.pointer (some a),.int .u64 150]]) H K E=K (.iface 195 (.agg #[.pointer (some ⟨1,145,none⟩)])) H:=by kernel_rfl
theorem x_valueOfVN (c n:Int) (H:Hp) (K:Value->Hp->Prop) (E:Value->Hp->Prop):wpS Tryz.prog (ReflectliteValue.unpack (.iface 143 (.agg #[.int .i64 c,.int .i64 n]))) H K E=∀b,H b=none->K (.agg #[.pointer (some ⟨1,143,none⟩),.pointer (some ⟨b,0,none⟩),.int .u64 153]) (H.set b (.cells #[.int .i64 c,.int .i64 n] 143 (0,0))):=by kernel_rfl
theorem x_kindPN (H:Hp) (K:Value->Hp->Prop) (E:Value->Hp->Prop):wpS Tryz.prog ((ReflectliteType.abiMethod fun t=>do pure (.int .u8 (<-Rtype.kind t))) #[.pointer (some ⟨1,145,none⟩)]) H K E=K (.int .u8 22) H:=by kernel_rfl
theorem x_kindVN (H:Hp) (K:Value->Hp->Prop) (E:Value->Hp->Prop):wpS Tryz.prog ((ReflectliteType.abiMethod fun t=>do pure (.int .u8 (<-Rtype.kind t))) #[.pointer (some ⟨1,143,none⟩)]) H K E=K (.int .u8 25) H:=by kernel_rfl
theorem x_elemN (H:Hp) (K:Value->Hp->Prop) (E:Value->Hp->Prop):wpS Tryz.prog (ReflectliteType.method ReflectliteType.elem #[.agg #[.pointer (some ⟨1,145,none⟩)]]) H K E=K (.iface 195 (.agg #[.pointer (some ⟨1,143,none⟩)])) H:=by kernel_rfl
theorem x_implN (H:Hp) (K:Value->Hp->Prop) (E:Value->Hp->Prop):wpS Tryz.prog (ReflectliteType.relation "Implements" ReflectliteType.implements_ #[.agg #[.pointer (some ⟨1,143,none⟩)],.iface 195 (.agg #[.pointer (some ⟨1,90,none⟩)])]) H K E=K (.bool true) H:=by kernel_rfl
theorem x_typeOfN (v:Value) (H:Hp) (K:Value->Hp->Prop) (E:Value->Hp->Prop):wpS Tryz.prog (ReflectliteType.typeOf #[.iface 143 v]) H K E=K (.iface 195 (.agg #[.pointer (some ⟨1,143,none⟩)])) H:=by kernel_rfl
theorem x_assignN (H:Hp) (K:Value->Hp->Prop) (E:Value->Hp->Prop):wpS Tryz.prog (ReflectliteType.relation "AssignableTo" ReflectliteType.assignableTo #[.agg #[.pointer (some ⟨1,143,none⟩)],.iface 195 (.agg #[.pointer (some ⟨1,143,none⟩)])]) H K E=K (.bool true) H:=by kernel_rfl
theorem x_partsPN (a:Addr) (H:Hp) (K:Option (TypeId×Addr×Nat)->Hp->Prop) (E:Value->Hp->Prop):wpS Tryz.prog (ReflectliteValue.parts (.agg #[.pointer (some ⟨1,145,none⟩),.pointer (some a),.int .u64 150])) H K E=K (some (145,a,150)) H:=by kernel_rfl
theorem x_partsAN (a:Addr) (H:Hp) (K:Option (TypeId×Addr×Nat)->Hp->Prop) (E:Value->Hp->Prop):wpS Tryz.prog (ReflectliteValue.parts (.agg #[.pointer (some ⟨1,143,none⟩),.pointer (some a),.int .u64 409])) H K E=K (some (143,a,409)) H:=by kernel_rfl
theorem x_partsVN (a:Addr) (H:Hp) (K:Option (TypeId×Addr×Nat)->Hp->Prop) (E:Value->Hp->Prop):wpS Tryz.prog (ReflectliteValue.parts (.agg #[.pointer (some ⟨1,143,none⟩),.pointer (some a),.int .u64 153])) H K E=K (some (143,a,153)) H:=by kernel_rfl
theorem x_elemOfN (H:Hp) (K:Option TypeId->Hp->Prop) (E:Value->Hp->Prop):wpS Tryz.prog (Rtype.elem? 145) H K E=K (some 143) H:=by kernel_rfl
theorem x_mkN (p:Addr) (H:Hp) (K:Value->Hp->Prop) (E:Value->Hp->Prop):wpS Tryz.prog (ReflectliteValue.mk 143 p ReflectliteValue.flagAddr) H K E=K (.agg #[.pointer (some ⟨1,143,none⟩),.pointer (some p),.int .u64 409]) H:=by kernel_rfl
theorem x_directN (H:Hp) (K:Bool->Hp->Prop) (E:Value->Hp->Prop):wpS Tryz.prog (Rtype.directlyAssignable 143 143) H K E=K true H:=by kernel_rfl
theorem x_isNilN (a p:Addr) (H:Hp) (h:H.cell a=some (.pointer (some p))) (K:Value->Hp->Prop) (E:Value->Hp->Prop):wpS Tryz.prog (ReflectliteValue.method (ReflectliteValue.valueError "reflectlite.Value.IsNil" 0) ReflectliteValue.isNil #[.agg #[.pointer (some ⟨1,145,none⟩),.pointer (some a),.int .u64 150]]) H K E=K (.bool false) H:=by
 rw [x_method,Aqa,x_partsPN]
 simp only []
 unfold ReflectliteValue.isNil
 rw [if_neg (by decide)]
 rw [Aqa,Cvd underlying145 rfl]
 simp only [h,Option.some.injEq,exists_eq_left']
 rfl
theorem x_elemVN (a p:Addr) (H:Hp) (h:H.cell a=some (.pointer (some p))) (K:Value->Hp->Prop) (E:Value->Hp->Prop):wpS Tryz.prog (ReflectliteValue.method (ReflectliteValue.valueError "reflectlite.Value.Elem" 0) ReflectliteValue.elem #[.agg #[.pointer (some ⟨1,145,none⟩),.pointer (some a),.int .u64 150]]) H K E=K (.agg #[.pointer (some ⟨1,143,none⟩),.pointer (some p),.int .u64 409]) H:=by
 rw [x_method,Aqa,x_partsPN]
 simp only []
 unfold ReflectliteValue.elem
 rw [if_neg (by decide)]
 simp only []
 rw [Aqa,Cvd underlying145 rfl]
 simp only [h,Option.some.injEq,exists_eq_left']
 rw [Aqa,x_elemOfN]
 exact x_mkN p H K E
theorem x_setN (wb b:Nat) (c n c0 n0:Int) (H:Hp) (hb:H b=some (true,.cells #[.int .i64 c,.int .i64 n] 143 (0,0))) (hw:H wb=some (true,.cells #[.int .i64 c0,.int .i64 n0] 143 (0,0))) (K:Value->Hp->Prop) (E:Value->Hp->Prop)
  (hK:K (.tuple #[]) (H.set wb (.cells #[.int .i64 c,.int .i64 n] 143 (0,0)))) :
  wpS Tryz.prog (ReflectliteValue.set #[.agg #[.pointer (some ⟨1,143,none⟩),.pointer (some ⟨wb,0,none⟩),.int .u64 409],.agg #[.pointer (some ⟨1,143,none⟩),.pointer (some ⟨b,0,none⟩),.int .u64 153]]) H K E:=by
 rw [x_setE,Aqa,x_partsAN,Aqa,x_partsVN]
 simp only []
 rw [if_neg (by decide)]
 unfold loadVar storeVar
 rw [Aqa,Aqa,Akp underlying143]
 rw [show aggB _=true from rfl,if_pos rfl,Aqa,Aq0 sizeOf143,Aqa,Azl (n:=2) (cs:=[.int .i64 c,.int .i64 n]) rfl (fun j u hj=>by
  rw [Nat.zero_add]
  match j,hj with
  | 0,hj=>simp at hj;subst hj;simp [cell_of hb]
  | 1,hj=>simp at hj;subst hj;simp [cell_of hb]
  | j+2,hj=>simp at hj)]
 rw [Aqf,Aqa,x_directN]
 simp only [if_true]
 rw [Aqa,Aqa,Aq0 sizeOf143]
 rw [if_neg (by simp [Value.cells])]
 refine Ak3 wb 0 _ _ [.int .i64 c,.int .i64 n] 0 _ _ _ (by simp [one]) hw (by simp) ?_
 rw [show over #[.int .i64 c0,.int .i64 n0] (0+0) [.int .i64 c,.int .i64 n]=#[.int .i64 c,.int .i64 n] by rw [Nat.add_zero,<-Ay7 (by simp),<-Ay7 (by simp),Bk1];rfl]
 exact hK
theorem as_inN (m:Md) (H:Hp) (c n c0 n0:Int) (wb ab:Nat) (hw:H wb=some (true,.cells #[.int .i64 c0,.int .i64 n0] 143 (0,0))) (ha:H ab=some (true,.cells #[.pointer (some ⟨wb,0,none⟩)] 145 (0,0))) :
  FnX Tryz.prog m 112 #[.iface 143 (.agg #[.int .i64 c,.int .i64 n]),.iface 145 (.pointer (some ⟨wb,0,none⟩)),.agg #[.pointer (some ⟨1,145,none⟩),.pointer (some ⟨ab,0,none⟩),.int .u64 150],.iface 195 (.agg #[.pointer (some ⟨1,143,none⟩)])] H
   fun e H'=>e=.returned (.bool true)/\H' wb=some (true,.cells #[.int .i64 c,.int .i64 n] 143 (0,0))/\∀x u,x≠wb->H x=some u->H' x=some u:=by
 refine Aqn func112 rfl ntmps112 (by simp) ?_
 (refine @unH _ (zAi y112_166 ?_);(try clear hK K);intro K hK hc)
 (intro tb htb;generalize hG:Hp.set _ tb _=H1;have lH1:=Aqc hG htb;have vtb:=Aqb hG;clear hG)
 have hw1:=lH1 _ _ hw
 have ha1:=lH1 _ _ ha
 have l1:=lH1
 clear lH1 htb
 (refine @unH _ (zUi y112_166 ?_);(try clear hK K);intro K hK hc)
 refine Axg (fun w a' H'=>∃e,w=0/\a'=act 62 e []/\e 0=.iface 143 (.agg #[.int .i64 c,.int .i64 n])/\e 3=.iface 195 (.agg #[.pointer (some ⟨1,143,none⟩)])/\e 6=.pointer (some ⟨tb,0,none⟩)/\H'=H1) (n:=0) ?_ ?_
 ·exact ⟨_,rfl,rfl,rfl,rfl,rfl,rfl⟩
 rintro w a' H' ⟨e,rfl,rfl,e0,e3,e6,hH⟩
 rw [hH];clear hH H'
 refine Ax7 ?_
 refine Axn ?_
 refine Axn ?_
 refine Azq rfl ?_;intro K hK
 simp -implicitDefEqProofs (maxSteps:=3000000) (disch:=first | omega | (simp only [qd]<;>omega)) only [xq,↓xp,qc,Nat.reduceAdd,List.range,List.range.loop,fine,Nat.reduceEqDiff,↓reduceIte,yielded,reduceCtorEq,Nat.reduceLT,Nat.reduceMul,Nat.reduceSub,one,Nat.reduceLeDiff,Aqg,y112_166,↓Akh,aq,↓ap,qe0,qe1,qe2,↓ld_O,ldO_some,ylK_undef,gateL_no, *,-hK,↓Akh,cf_TypeOf,x_typeOfN,meth_AssignableTo,cf_AssignableTo,x_assignN,cf_ValueOf,x_valueOfPN,x_valueOfVN,cf_Type,x_typeN,cf_IsNil,cf_Kind,x_kindPN,x_kindVN,cf_TElem,x_elemN,cf_Implements,x_implN,meth_Kind,meth_Elem,meth_Implements,cf_VElem,cf_Set]
 refine hK _ _ ?_;clear hK K
 (try refine @unH _ (zQ ?_))
 refine Azp (by simp only [Aq7,Axf,Nat.reduceEqDiff,Nat.reduceLT,↓reduceIte];rfl) ?_ ?_
 rotate_left
 ·intro hc;cases hc
 intro _
 refine Axn ?_
 refine Azq rfl ?_;intro K hK
 simp -implicitDefEqProofs (maxSteps:=3000000) (disch:=first | omega | (simp only [qd]<;>omega)) only [xq,↓xp,qc,Nat.reduceAdd,List.range,List.range.loop,fine,Nat.reduceEqDiff,↓reduceIte,yielded,reduceCtorEq,Nat.reduceLT,Nat.reduceMul,Nat.reduceSub,one,Nat.reduceLeDiff,Aqg,y112_166,↓Akh,aq,↓ap,qe0,qe1,qe2,↓ld_O,ldO_some,ylK_undef,gateL_no, *,-hK,↓Akh,cf_TypeOf,x_typeOfN,meth_AssignableTo,cf_AssignableTo,x_assignN,cf_ValueOf,x_valueOfPN,x_valueOfVN,cf_Type,x_typeN,cf_IsNil,cf_Kind,x_kindPN,x_kindVN,cf_TElem,x_elemN,cf_Implements,x_implN,meth_Kind,meth_Elem,meth_Implements,cf_VElem,cf_Set]
 rw [x_elemVN ⟨ab,0,none⟩ ⟨wb,0,none⟩ H1 (by simp [cell_of ha1])]
 show wpS _ (ReflectliteValue.unpack (.iface 143 (.agg #[.int .i64 c,.int .i64 n]))) _ _ _
 rw [x_valueOfVN]
 intro b hb
 have l2:=Hp.le_trans l1 (Hp.le_set (o:=.cells #[.int .i64 c,.int .i64 n] 143 (0,0)) hb)
 have hwb:(H1.set b (.cells #[.int .i64 c,.int .i64 n] 143 (0,0))) wb=_:=(Aqv (Aqr hw1 hb)).trans hw1
 refine x_setN wb b c n c0 n0 _ Axh hwb _ _ ?_
 refine hK _ _ ?_;clear hK K
 (try refine @unH _ (zQ ?_))
 (refine @unH _ (zAi y112_166 ?_);(try clear hK K);intro K hK hc)
 (refine @unH _ ?_;refine z9 results112 ?_)
 exact ⟨by trivial,Axh,fun x u hx hu=>(Aqv hx).trans (l2 _ _ hu)⟩
theorem as_hitN (m:Md) (H:Hp) (c n c0 n0:Int) (wb:Nat) (q:Bool) (cg:Array Value) (eg:TypeId) (fg:Nat×Nat) (hg:H 0=some (q,.cells cg eg fg)) (hg0:cg[0]?=some (.iface 195 (.agg #[.pointer (some ⟨1,90,none⟩)])))
  (hw:H wb=some (true,.cells #[.int .i64 c0,.int .i64 n0] 143 (0,0))) :
  FnX Tryz.prog m 98 #[.iface 143 (.agg #[.int .i64 c,.int .i64 n]),.iface 145 (.pointer (some ⟨wb,0,none⟩))] H
   fun e H'=>e=.returned (.bool true)/\H' wb=some (true,.cells #[.int .i64 c,.int .i64 n] 143 (0,0))/\∀x u,x≠wb->H x=some u->H' x=some u:=by
 refine Aqn func98 rfl ntmps98 (by simp) ?_
 (refine @unH _ (zAi y98_166 ?_);(try clear hK K);intro K hK hc)
 rw [cf_ValueOf]
 show wpS _ (ReflectliteValue.unpack (.iface 145 (.pointer (some ⟨wb,0,none⟩)))) _ _ _
 rw [x_valueOfPN]
 intro ab hab
 generalize hG:Hp.set H ab _=H1
 have l1:=Aqc hG hab
 have vab:=Aqb hG
 clear hG
 simp -implicitDefEqProofs (maxSteps:=3000000) (disch:=first | omega | (simp only [qd]<;>omega)) only [xq,↓xp,qc,Nat.reduceAdd,List.range,List.range.loop,fine,Nat.reduceEqDiff,↓reduceIte,yielded,reduceCtorEq,Nat.reduceLT,Nat.reduceMul,Nat.reduceSub,one,Nat.reduceLeDiff,Aqg,y98_166,↓Akh,aq,↓ap,qe0,qe1,qe2,↓ld_O,ldO_some,ylK_undef,gateL_no, *,-hK]
 (intro sb hsb;generalize hG:Hp.set _ sb _=H2;have lH2:=Aqc hG hsb;have vsb:=Aqb hG;clear hG)
 have l2:=Hp.le_trans l1 lH2
 have vab2:=lH2 _ _ vab
 have hw2:=l2 _ _ hw
 have hg2:=l2 _ _ hg
 clear l1 lH2 vab hab hsb
 refine hK _ _ ?_;clear hK K
 (try refine @unH _ (zQ ?_))
 refine Axn ?_
 refine Azq rfl ?_;intro K hK
 simp -implicitDefEqProofs (maxSteps:=3000000) (disch:=first | omega | (simp only [qd]<;>omega)) only [xq,↓xp,qc,Nat.reduceAdd,List.range,List.range.loop,fine,Nat.reduceEqDiff,↓reduceIte,yielded,reduceCtorEq,Nat.reduceLT,Nat.reduceMul,Nat.reduceSub,one,Nat.reduceLeDiff,Aqg,y98_166,↓Akh,aq,↓ap,qe0,qe1,qe2,↓ld_O,ldO_some,ylK_undef,gateL_no, *,-hK,↓Akh,cf_TypeOf,x_typeOfN,meth_AssignableTo,cf_AssignableTo,x_assignN,cf_Type,x_typeN,cf_IsNil,cf_Kind,x_kindPN,x_kindVN,cf_TElem,x_elemN,cf_Implements,x_implN,meth_Kind,meth_Elem,meth_Implements]
 refine hK _ _ ?_;clear hK K
 (try refine @unH _ (zQ ?_))
 refine Axn ?_
 refine Axn ?_
 refine Azq rfl ?_;intro K hK
 simp -implicitDefEqProofs (maxSteps:=3000000) (disch:=first | omega | (simp only [qd]<;>omega)) only [xq,↓xp,qc,Nat.reduceAdd,List.range,List.range.loop,fine,Nat.reduceEqDiff,↓reduceIte,yielded,reduceCtorEq,Nat.reduceLT,Nat.reduceMul,Nat.reduceSub,one,Nat.reduceLeDiff,Aqg,y98_166,↓Akh,aq,↓ap,qe0,qe1,qe2,↓ld_O,ldO_some,ylK_undef,gateL_no, *,-hK,↓Akh,cf_TypeOf,x_typeOfN,meth_AssignableTo,cf_AssignableTo,x_assignN,cf_Type,x_typeN,cf_IsNil,cf_Kind,x_kindPN,x_kindVN,cf_TElem,x_elemN,cf_Implements,x_implN,meth_Kind,meth_Elem,meth_Implements]
 rw [x_isNilN ⟨ab,0,none⟩ ⟨wb,0,none⟩ H2 (by simp [cell_of vab2])]
 refine hK _ _ ?_;clear hK K
 (try refine @unH _ (zQ ?_))
 (refine Azp (by simp only [Aq7,Axf,Nat.reduceEqDiff,Nat.reduceLT,↓reduceIte];rfl) ?_ ?_<;>(intro hc;first | (cases hc;done) | skip))
 (try refine @unH _ (zQ ?_))
 refine Aza ?_
 (try refine @unH _ (zQ ?_))
 refine Axn ?_
 refine Azq rfl ?_;intro K hK
 simp -implicitDefEqProofs (maxSteps:=3000000) (disch:=first | omega | (simp only [qd]<;>omega)) only [xq,↓xp,qc,Nat.reduceAdd,List.range,List.range.loop,fine,Nat.reduceEqDiff,↓reduceIte,yielded,reduceCtorEq,Nat.reduceLT,Nat.reduceMul,Nat.reduceSub,one,Nat.reduceLeDiff,Aqg,y98_166,↓Akh,aq,↓ap,qe0,qe1,qe2,↓ld_O,ldO_some,ylK_undef,gateL_no, *,-hK,↓Akh,cf_TypeOf,x_typeOfN,meth_AssignableTo,cf_AssignableTo,x_assignN,cf_Type,x_typeN,cf_IsNil,cf_Kind,x_kindPN,x_kindVN,cf_TElem,x_elemN,cf_Implements,x_implN,meth_Kind,meth_Elem,meth_Implements]
 refine hK _ _ ?_;clear hK K
 (try refine @unH _ (zQ ?_))
 refine Axn ?_
 refine Axn ?_
 refine Azq rfl ?_;intro K hK
 simp -implicitDefEqProofs (maxSteps:=3000000) (disch:=first | omega | (simp only [qd]<;>omega)) only [xq,↓xp,qc,Nat.reduceAdd,List.range,List.range.loop,fine,Nat.reduceEqDiff,↓reduceIte,yielded,reduceCtorEq,Nat.reduceLT,Nat.reduceMul,Nat.reduceSub,one,Nat.reduceLeDiff,Aqg,y98_166,↓Akh,aq,↓ap,qe0,qe1,qe2,↓ld_O,ldO_some,ylK_undef,gateL_no, *,-hK,eval_global,Aqh underlying169 rfl,↓Akh,cf_TypeOf,x_typeOfN,meth_AssignableTo,cf_AssignableTo,x_assignN,cf_Type,x_typeN,cf_IsNil,cf_Kind,x_kindPN,x_kindVN,cf_TElem,x_elemN,cf_Implements,x_implN,meth_Kind,meth_Elem,meth_Implements]
 refine hK _ _ ?_;clear hK K
 (try refine @unH _ (zQ ?_))
 (refine Azp (by simp only [Aq7,Axf,Nat.reduceEqDiff,Nat.reduceLT,↓reduceIte];rfl) ?_ ?_<;>(intro hc;first | (cases hc;done) | skip))
 (try refine @unH _ (zQ ?_))
 refine Aza ?_
 (try refine @unH _ (zQ ?_))
 (refine @unH _ (zAi y98_166 ?_);(try clear hK K);intro K hK hc)
 refine (as_inN m H2 c n c0 n0 wb ab hw2 vab2).runs.mono ?_
 rintro _ H3 ⟨rfl,hw3,hk3⟩
 (refine @unH _ (zUi y98_166 ?_);(try clear hK K);intro K hK hc)
 (refine @unH _ ?_;refine z9 results98 ?_)
 exact ⟨by trivial,hw3,fun x u hx hu=>hk3 x u hx (l2 _ _ hu)⟩
end Go.Proofs.YtaehjjbekjglkaaGreatDoor
end
section
namespace Go.Proofs.YtaehjjbekjglkaaGreatDoor
open Go Go.X Go.Proofs.Tryz
def y56_167:=aN @Dwo (aN @Dw2 (aN @Dwi (aN @Aya (aN @Dwp (aN @Dwq (aN @Dwm @Dwn))))))
def y59_167:=aN @Dwr (aN @Dw2 (aN @Dwi (aN @Aya (aN @Bkf (aN @Eqe @Dws)))))
def y60_167:=aN (fun H=>Aqu (H:=H) (P:=Tryz.prog) (h:=zeroValue143)) (aN (fun H=>Dqe (H:=H) underlying145 rfl) (aN @callF98 (aN (fun H=>Aqd (H:=H) underlying143 (i:=0) rfl (off:=0) rfl sizeOf41) (fun H=>Aqh (H:=H) underlying41 rfl))))
def ErrS (H:Hp):Prop:=∃(q:Bool) (cg:Array Value) (eg:TypeId) (fg:Nat×Nat),H 0=some (q,.cells cg eg fg)/\cg[0]?=some (.iface 195 (.agg #[.pointer (some ⟨1,90,none⟩)]))
theorem ErrS.le {H H':Hp} (h:ErrS H) (hl:H.le H'):ErrS H':=by
 obtain ⟨q,cg,eg,fg,h1,h2⟩:=h
 exact ⟨q,cg,eg,fg,hl _ _ h1,h2⟩
def sdoorC (pl:Int) (d:Dr):Int:=if (d.a<0∨pl-1<d.a)∨(d.b<0∨pl-1<d.b) then 3 else if d.a=d.b then 8 else if (d.mn<1∨4<d.mn)∨(d.mx<1∨4<d.mx) then 1 else if d.mx<d.mn then 5 else 0
def snoseC (pl:Int) (n:Ns):Int:=if n.pl<0∨pl-1<n.pl then 3 else if n.hr<0∨12<n.hr then 1 else 0
def shampC (pl:Int):List Int->List Int->Int
 | _,[]=>0
 | met,p::r=>if p<0∨pl-1<p then 3 else if p∈met then 4 else shampC pl (met++[p]) r
def orE (a b:Int):Int:=if a≠0 then a else b
def sfirstC {α:Type} (f:α->Int):List α->Int
 | []=>0
 | x::r=>orE (f x) (sfirstC f r)
def chkS3 (s:Sm):Int:=if 4<s.noses.length then 6 else sfirstC (snoseC s.places) s.noses
def chkS2 (s:Sm):Int:=if s.hampers.length=0 then 7 else if 3<s.hampers.length then 6 else orE (shampC s.places [] s.hampers) (chkS3 s)
def chkS1 (s:Sm):Int:=if 6<s.doors.length then 6 else orE (sfirstC (sdoorC s.places) s.doors) (chkS2 s)
def chkS (s:Sm):Int:=if s.places<1∨6<s.places then 1 else chkS1 s
theorem orE_zero {a b:Int}:orE a b=0↔a=0/\b=0:=by
 unfold orE
 split
 ·rename_i h
  exact ⟨fun h'=>absurd h' h,fun h'=>absurd h'.1 h⟩
 ·rename_i h
  exact ⟨fun h'=>⟨Classical.not_not.1 h,h'⟩,fun h'=>h'.2⟩
theorem sfirstC_zero {α:Type} {f:α->Int}:∀ {l:List α},sfirstC f l=0↔∀x∈l,f x=0
 | []=>by simp [sfirstC]
 | x::r=>by
  unfold sfirstC
  rw [orE_zero,sfirstC_zero,List.forall_mem_cons]
theorem sdoorC_zero {pl:Int} {d:Dr}:sdoorC pl d=0↔DrOk pl d:=by
 unfold sdoorC
 constructor
 ·intro h
  split at h
  ·cases h
  split at h
  ·cases h
  split at h
  ·cases h
  split at h
  ·cases h
  exact ⟨by omega,by omega,by omega,by omega,by assumption,by omega,by omega,by omega⟩
 ·rintro ⟨h1,h2,h3,h4,h5,h6,h7,h8⟩
  rw [if_neg (by omega),if_neg h5,if_neg (by omega),if_neg (by omega)]
theorem snoseC_zero {pl:Int} {n:Ns}:snoseC pl n=0↔NsOk pl n:=by
 unfold snoseC
 constructor
 ·intro h
  split at h
  ·cases h
  split at h
  ·cases h
  exact ⟨by omega,by omega,by omega,by omega⟩
 ·rintro ⟨h1,h2,h3,h4⟩
  rw [if_neg (by omega),if_neg (by omega)]
theorem shampC_zero {pl:Int}:∀(r met:List Int),shampC pl met r=0↔(∀x∈r,0<=x/\x<pl)/\r.Nodup/\∀x∈r,x∉met
 | [],met=>by simp [shampC]
 | p::r,met=>by
  unfold shampC
  by_cases h:p<0∨pl-1<p
  ·rw [if_pos h]
   constructor
   ·intro h';cases h'
   ·rintro ⟨h',_⟩
    have:=h' p List.mem_cons_self
    omega
  ·rw [if_neg h]
   by_cases hm:p∈met
   ·rw [if_pos hm]
    constructor
    ·intro h';cases h'
    ·rintro ⟨_,_,h'⟩
     exact absurd hm (h' p List.mem_cons_self)
   ·rw [if_neg hm,shampC_zero r]
    constructor
    ·rintro ⟨h1,h2,h3⟩
     refine ⟨fun x hx=>?_,List.nodup_cons.2 ⟨fun hp=>h3 p hp (by simp),h2⟩,fun x hx=>?_⟩
     ·rcases List.mem_cons.1 hx with rfl | hx
      ·omega
      ·exact h1 x hx
     ·rcases List.mem_cons.1 hx with rfl | hx
      ·exact hm
      ·exact fun hx'=>h3 x hx (List.mem_append_left _ hx')
    ·rintro ⟨h1,h2,h3⟩
     refine ⟨fun x hx=>h1 x (List.mem_cons_of_mem _ hx),(List.nodup_cons.1 h2).2,fun x hx hx'=>?_⟩
     rcases List.mem_append.1 hx' with hx' | hx'
     ·exact h3 x (List.mem_cons_of_mem _ hx) hx'
     ·rw [List.mem_singleton] at hx'
      subst hx'
      exact (List.nodup_cons.1 h2).1 hx
theorem chkS_ok {s:Sm}:chkS s=0↔SmOk s:=by
 unfold chkS chkS1 chkS2 chkS3
 constructor
 ·intro h
  split at h
  ·cases h
  split at h
  ·cases h
  obtain ⟨h1,h⟩:=orE_zero.1 h
  split at h
  ·cases h
  split at h
  ·cases h
  obtain ⟨h2,h⟩:=orE_zero.1 h
  split at h
  ·cases h
  obtain ⟨h3,h4,_⟩:=(shampC_zero _ _).1 h2
  exact ⟨by omega,by omega,by omega,fun d hd=>sdoorC_zero.1 (sfirstC_zero.1 h1 d hd),by omega,by omega,h3,h4,by omega,fun n hn=>snoseC_zero.1 (sfirstC_zero.1 h n hn)⟩
 ·rintro ⟨p0,p1,dl,dk,h0,h1,hk,hd,nl,nk⟩
  rw [if_neg (by omega),if_neg (by omega),orE_zero]
  refine ⟨sfirstC_zero.2 fun d hd=>sdoorC_zero.2 (dk d hd),?_⟩
  rw [if_neg (by omega),if_neg (by omega),orE_zero]
  refine ⟨(shampC_zero _ _).2 ⟨hk,hd,fun x _=>by simp⟩,?_⟩
  rw [if_neg (by omega)]
  exact sfirstC_zero.2 fun n hn=>snoseC_zero.2 (nk n hn)
theorem sfirstC_drop {α:Type} {f:α->Int} {l:List α} {k:Nat} {x:α} (h:l[k]?=some x):sfirstC f (l.drop k)=orE (f x) (sfirstC f (l.drop (k+1))):=by
 obtain ⟨hk,rfl⟩:=List.getElem?_eq_some_iff.1 h
 rw [List.drop_eq_getElem_cons hk]
 rfl
theorem shampC_drop {pl:Int} {l:List Int} {k:Nat} {x:Int} (h:l[k]?=some x):shampC pl (l.take k) (l.drop k)=if x<0∨pl-1<x then 3 else if x∈l.take k then 4 else shampC pl (l.take (k+1)) (l.drop (k+1)):=by
 obtain ⟨hk,rfl⟩:=List.getElem?_eq_some_iff.1 h
 rw [List.drop_eq_getElem_cons hk,List.take_add_one,h]
 rfl
theorem sdoorC_raw (main:Md) (H:Hp) (pl:Int) (dv hv nv:Value) (d:Dr) (hp1:1<=pl) (hp:pl<=6) (h1:one dv=true) (h2:one hv=true) (h3:one nv=true) :
  FnX Tryz.prog main 56 #[smV pl dv hv nv,.agg #[.int .i64 d.a,.int .i64 d.b,.int .i64 d.mn,.int .i64 d.mx]] H fun e H'=>e=.returned (.int .i64 (sdoorC pl d))/\H.le H':=by
 obtain ⟨Z,hZ⟩:∃Z,Z=sdoorC pl d:=⟨_,rfl⟩
 rw [<-hZ]
 unfold sdoorC at hZ
 replace hZ:Aqk _:=hZ
 refine Aqn func56 rfl ntmps56 (by simp) ?_
 (refine @unH _ (zA y56_167 ?_);(try clear hK K);intro K hK hc)
 (intro sb hsb nb hnb;replace hnb:(Hp.set _ sb _) nb=none:=hnb;generalize hG:Hp.set _ sb _=H1 at hnb ⊢;have lH1:=Aqc hG hsb;have wsb:=Aqb hG;clear hG;generalize hG:Hp.set _ nb _=H2;have lH2:=Aqc hG hnb;have vnb:=Aqb hG;have vsb:=lH2 _ _ wsb;have nsbnb:=Aqr wsb hnb;clear hG wsb)
 have l2:=Hp.le_trans lH1 lH2
 clear hsb hnb lH1 lH2
 (refine @unH _ (zU y56_167 ?_);(try clear hK K);intro K hK hc)
 refine (Axj main H2 d.a 0 (pl-1)).runs.mono ?_
 rintro _ _ ⟨rfl,hQ⟩
 rw [hQ]
 clear hQ
 by_cases ha:d.a<0∨pl-1<d.a
 ·obtain rfl:Z=3:=by have h:=(show Z=_ from hZ);rwa [if_pos (.inl ha)] at h
  rw [show (decide (d.a<0)||decide (pl-1<d.a))=true by simpa using ha]
  clear ha hZ
  (refine @unH _ (zU y56_167 ?_);(try clear hK K);intro K hK hc)
  (refine @unH _ ?_;refine z9 results56 ?_)
  exact ⟨trivial,l2⟩
 rw [show (decide (d.a<0)||decide (pl-1<d.a))=false by simp;omega]
 (refine @unH _ (zU y56_167 ?_);intro _ _ hc)
 refine (Axj main H2 d.b 0 (pl-1)).runs.mono ?_
 rintro _ _ ⟨rfl,hQ⟩
 rw [hQ]
 clear hQ
 by_cases hb:d.b<0∨pl-1<d.b
 ·obtain rfl:Z=3:=by have h:=(show Z=_ from hZ);rwa [if_pos (.inr hb)] at h
  rw [show (decide (d.b<0)||decide (pl-1<d.b))=true by simpa using hb]
  clear ha hb hZ
  (refine @unH _ (zU y56_167 ?_);(try clear hK K);intro K hK hc)
  (refine @unH _ ?_;refine z9 results56 ?_)
  exact ⟨trivial,l2⟩
 rw [show (decide (d.b<0)||decide (pl-1<d.b))=false by simp;omega]
 have hY:=(show Z=_ from hZ)
 clear hZ
 rw [if_neg (fun h=>h.elim ha hb)] at hY
 have hZ:=hY
 clear hY
 clear ha hb
 by_cases hab:d.a=d.b
 ·obtain rfl:Z=8:=by rwa [if_pos hab] at hZ
  clear hZ
  (refine @unH _ (zU y56_167 ?_);(try clear hK K);intro K hK hc)
  (refine @unH _ ?_;refine z9 results56 ?_)
  exact ⟨trivial,l2⟩
 rw [if_neg hab] at hZ
 replace hZ:Aqk _:=hZ
 (refine @unH _ (zU y56_167 ?_);(try clear hK K);intro K hK hc)
 refine (Axj main H2 d.mn 1 4).runs.mono ?_
 rintro _ _ ⟨rfl,hQ⟩
 rw [hQ]
 clear hQ hab
 by_cases ha:d.mn<1∨4<d.mn
 ·obtain rfl:Z=1:=by have h:=(show Z=_ from hZ);rwa [if_pos (.inl ha)] at h
  rw [show (decide (d.mn<1)||decide (4<d.mn))=true by simpa using ha]
  clear ha hZ
  (refine @unH _ (zU y56_167 ?_);(try clear hK K);intro K hK hc)
  (refine @unH _ ?_;refine z9 results56 ?_)
  exact ⟨trivial,l2⟩
 rw [show (decide (d.mn<1)||decide (4<d.mn))=false by simp;omega]
 (refine @unH _ (zU y56_167 ?_);(try clear hK K);intro K hK hc)
 refine (Axj main H2 d.mx 1 4).runs.mono ?_
 rintro _ _ ⟨rfl,hQ⟩
 rw [hQ]
 clear hQ
 by_cases hb:d.mx<1∨4<d.mx
 ·obtain rfl:Z=1:=by have h:=(show Z=_ from hZ);rwa [if_pos (.inr hb)] at h
  rw [show (decide (d.mx<1)||decide (4<d.mx))=true by simpa using hb]
  clear ha hb hZ
  (refine @unH _ (zU y56_167 ?_);(try clear hK K);intro K hK hc)
  (refine @unH _ ?_;refine z9 results56 ?_)
  exact ⟨trivial,l2⟩
 rw [show (decide (d.mx<1)||decide (4<d.mx))=false by simp;omega]
 have hY:=(show Z=_ from hZ)
 clear hZ
 rw [if_neg (fun h=>h.elim ha hb)] at hY
 have hZ:=hY
 clear hY
 clear ha hb
 by_cases hab:d.mx<d.mn
 ·obtain rfl:Z=5:=by rwa [if_pos hab] at hZ
  clear hZ
  (refine @unH _ (zU y56_167 ?_);(try clear hK K);intro K hK hc)
  (refine @unH _ ?_;refine z9 results56 ?_)
  exact ⟨trivial,l2⟩
 obtain rfl:Z=0:=by rwa [if_neg hab] at hZ
 clear hZ
 (refine @unH _ (zU y56_167 ?_);(try clear hK K);intro K hK hc)
 (refine @unH _ ?_;refine z9 results56 ?_)
 exact ⟨trivial,l2⟩
theorem snoseC_raw (main:Md) (H:Hp) (pl:Int) (dv hv nv:Value) (n:Ns) (at_:Int) (hp1:1<=pl) (hp:pl<=6) (h1:one dv=true) (h2:one hv=true) (h3:one nv=true) :
  FnX Tryz.prog main 59 #[smV pl dv hv nv,.agg #[.int .i64 n.pl,.int .i64 n.hr,.bool n.sm],.int .i64 at_] H fun e H'=>e=.returned (if snoseC pl n=0 then .nilIface else .iface 143 (.agg #[.int .i64 (snoseC pl n),.int .i64 at_]))/\H.le H':=by
 obtain ⟨Z,hZ⟩:∃Z,Z=snoseC pl n:=⟨_,rfl⟩
 rw [<-hZ]
 unfold snoseC at hZ
 replace hZ:Aqk _:=hZ
 refine Aqn func59 rfl ntmps59 (by simp) ?_
 (refine @unH _ (zA y59_167 ?_);(try clear hK K);intro K hK hc)
 (intro sb hsb nb hnb;replace hnb:(Hp.set _ sb _) nb=none:=hnb;generalize hG:Hp.set _ sb _=H1 at hnb ⊢;have lH1:=Aqc hG hsb;have wsb:=Aqb hG;clear hG;generalize hG:Hp.set _ nb _=H2;have lH2:=Aqc hG hnb;have vnb:=Aqb hG;have vsb:=lH2 _ _ wsb;have nsbnb:=Aqr wsb hnb;clear hG wsb)
 have l2:=Hp.le_trans lH1 lH2
 clear hsb hnb lH1 lH2
 (refine @unH _ (zU y59_167 ?_);(try clear hK K);intro K hK hc)
 refine (Axj main H2 n.pl 0 (pl-1)).runs.mono ?_
 rintro _ _ ⟨rfl,hQ⟩
 rw [hQ]
 clear hQ
 by_cases ha:n.pl<0∨pl-1<n.pl
 ·obtain rfl:Z=3:=by have h:=(show Z=_ from hZ);rwa [if_pos ha] at h
  rw [show (decide (n.pl<0)||decide (pl-1<n.pl))=true by simpa using ha]
  clear ha hZ
  (refine @unH _ (zU y59_167 ?_);(try clear hK K);intro K hK hc)
  (refine @unH _ ?_;refine z9 results59 ?_)
  exact ⟨by first | trivial | rw [if_neg (by decide)],l2⟩
 rw [show (decide (n.pl<0)||decide (pl-1<n.pl))=false by simp;omega]
 (refine @unH _ (zU y59_167 ?_);(try clear hK K);intro K hK hc)
 refine (Axj main H2 n.hr 0 12).runs.mono ?_
 rintro _ _ ⟨rfl,hQ⟩
 rw [hQ]
 clear hQ
 have hY:=(show Z=_ from hZ)
 clear hZ
 rw [if_neg ha] at hY
 have hZ:=hY
 clear hY
 clear ha
 by_cases hb:n.hr<0∨12<n.hr
 ·obtain rfl:Z=1:=by rwa [if_pos hb] at hZ
  rw [show (decide (n.hr<0)||decide (12<n.hr))=true by simpa using hb]
  clear hb hZ
  (refine @unH _ (zU y59_167 ?_);(try clear hK K);intro K hK hc)
  (refine @unH _ ?_;refine z9 results59 ?_)
  exact ⟨by first | trivial | rw [if_neg (by decide)],l2⟩
 obtain rfl:Z=0:=by rwa [if_neg hb] at hZ
 rw [show (decide (n.hr<0)||decide (12<n.hr))=false by simp;omega]
 clear hb hZ
 (refine @unH _ (zU y59_167 ?_);(try clear hK K);intro K hK hc)
 (refine @unH _ ?_;refine z9 results59 ?_)
 exact ⟨by first | trivial | rw [if_neg (by decide)],l2⟩
theorem scode_bad (main:Md) (H:Hp) (c n:Int) (he:ErrS H) :
  FnX Tryz.prog main 60 #[.iface 143 (.agg #[.int .i64 c,.int .i64 n])] H fun e H'=>e=.returned (.int .i64 c)/\H.le H':=by
 refine Aqn func60 rfl ntmps60 (by simp) ?_
 (refine @unH _ (zA y60_167 ?_);(try clear hK K);intro K hK hc)
 intro wb hwb
 generalize hG:Hp.set H wb _=H1
 have l1:=Aqc hG hwb
 have vwb:=Aqb hG
 clear hG
 obtain ⟨q,cg,eg,fg,hg,hg0⟩:=he.le l1
 (refine @unH _ (zU y60_167 ?_);(try clear hK K);intro K hK hc)
 refine (as_hitN main H1 c n 0 0 wb q cg eg fg hg hg0 vwb).runs.mono ?_
 rintro _ H2 ⟨rfl,hw2,hk2⟩
 have l2:H.le H2:=fun x u hx=>hk2 x u (fun e=>by rw [e,hwb] at hx;cases hx) (l1 _ _ hx)
 clear vwb hg hg0
 (refine @unH _ (zU y60_167 ?_);(try clear hK K);intro K hK hc)
 (refine @unH _ ?_;refine z9 results60 ?_)
 exact ⟨trivial,l2⟩
end Go.Proofs.YtaehjjbekjglkaaGreatDoor
end
section
namespace Go.Proofs.YtaehjjbekjglkaaGreatDoor
open Go Go.X
theorem sbBandS {H:Hp} (a b:Int) (K:Value->Hp->Prop) (E:Value->Hp->Prop) :
  wpS Tryz.prog (binOp .neq 28 (.agg #[.int .i64 a,.int .i64 b]) (.agg #[.int .i64 a,.int .i64 b])) H K E=K (.bool false) H:=by
 rw [sbin_neq2 Dqw,beq_self_eq_true,beq_self_eq_true]
 rfl
end Go.Proofs.YtaehjjbekjglkaaGreatDoor
end
section
namespace Go.Proofs.YtaehjjbekjglkaaGreatDoor
open Go Go.X Go.ChangeShapes Go.WideShapes Go.RowKit
set_option maxRecDepth 100000 in
theorem glob0:Tryz.prog.globalNamed "errors.errorType" = some 0:=by kernel_rfl
set_option maxRecDepth 100000 in
theorem glob1:∀ty,ty<Tryz.prog.types.size->Tryz.prog.rowNamed ty [101,114,114,111,114]=true->ty=90:=by
 have h:(List.range Tryz.prog.types.size).all (fun ty=> !Tryz.prog.rowNamed ty [101,114,114,111,114]||ty==90)=true:=by kernel_rfl
 intro ty h1 h2
 have h3:=List.all_eq_true.1 h ty (List.mem_range.2 h1)
 rw [h2] at h3
 simpa using h3
set_option maxRecDepth 100000 in
theorem glob2:(Tryz.prog.cutTypes.find? (·.1 == "internal/reflectlite.rtype")).map (·.2)=some 195:=by kernel_rfl
set_option maxRecDepth 100000 in
theorem glob3 (ty:TypeId):typeHandle Tryz.prog ty=.pointer (some ⟨1,ty,none⟩):=by
 unfold typeHandle
 rw [show Tryz.prog.globals.size=1 by kernel_rfl]
theorem laid_err {W:World} (h:laidMetH Tryz.prog [("errors.errorType",Rows.laid_errors_errorType)] W):ErrS (Ays W):=by
 have h2:handlesMet Tryz.prog [("errors.errorType",Rows.laid_errors_errorType)] W:=h.2
 obtain ⟨name,u,ty,h3,h4,h5,h6,h7⟩:=h2 _ List.mem_cons_self
 have e3:name=[101,114,114,111,114]:=(Option.some.inj h3).symm
 subst e3
 have e4:=glob1 ty h5 h6
 subst e4
 rw [glob2] at h4
 have e5:=Option.some.inj h4
 subst e5
 rw [glob3] at h7
 unfold World.var? at h7
 rw [glob0,Option.bind_some] at h7
 split at h7
 ·rename_i cs t f hw
  have e6:=Option.some.inj h7
  subst e6
  exact ⟨false,#[.iface 195 (.agg #[.pointer (some ⟨1,90,none⟩)])],t,f,by unfold Ays;rw [hw];rfl,rfl⟩
 ·cases h7
end Go.Proofs.YtaehjjbekjglkaaGreatDoor
end
