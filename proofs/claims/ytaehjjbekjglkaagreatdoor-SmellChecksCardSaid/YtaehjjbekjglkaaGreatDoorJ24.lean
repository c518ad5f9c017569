/- Texts SmSn SmRp SmKw PlanG PlanH. -/
import Derived.Test.YtaehjjbekjglkaaGreatDoorJ22
set_option linter.defProp false
set_option linter.unusedSimpArgs false
set_option linter.unusedVariables false
set_option maxRecDepth 100000
set_option maxHeartbeats 2000000
section
namespace Go.Proofs.YtaehjjbekjglkaaGreatDoor
open Go Go.X
def withS (s:Sm) (n:Ns):Sm:=⟨s.places,s.doors,s.hampers,s.noses++[n]⟩
end Go.Proofs.YtaehjjbekjglkaaGreatDoor
end
section
namespace Go.Proofs.YtaehjjbekjglkaaGreatDoor
open Go Go.X
def dsF (s:Sm) (ts:List Int) (a b:Int):Int:=gI (Axk s.doors a (pad6 ts)) b
section
variable {s:Sm} (ok:SmOk s) {ts:List Int} (ht:ts∈Ax1 s.doors) {a b c:Int} (a0:0<=a) (a1:a<s.places) (b0:0<=b) (b1:b<s.places)
include ok ht a0 a1
theorem ds_walk (b0:0<=b) (b1:b<s.places):0<=dsF s ts a b/\(dsF s ts a b=99∨(dsF s ts a b<=24/\Walk (Edg s.doors (pad6 ts)) a b (dsF s ts a b))):=by
 have h6:=ok.p1
 have hd:=Bko ok a0 a1 ht
 unfold dsF
 refine ⟨hd.pos b b0 (by omega),?_⟩
 rcases hd.att b b0 (by omega) with h | ⟨h,hw⟩
 ·exact .inl h
 ·refine .inr ⟨?_,hw⟩
  rcases hd.small h6 ok.dk (Akn (pl:=s.places) ok.dk ht) a0 (by omega) b0 (by omega) with h' | h'<;>omega
theorem ds_other {ts':List Int} (ht':ts'∈Ax1 s.doors) (b0:0<=b) (b1:b<s.places):dsF s ts a b<99↔dsF s ts' a b<99:=by
 have h1:=ds_walk ok ht a0 a1 b0 b1
 have h2:=ds_walk ok ht' a0 a1 b0 b1
 have h3:dsF s ts' a b=99->dsF s ts a b=99:=reach_same ok a0 a1 ht ht' b0 b1
 have h4:dsF s ts a b=99->dsF s ts' a b=99:=reach_same ok a0 a1 ht' ht b0 b1
 constructor<;>intro<;>omega
end
theorem reaE_in {s:Sm} {a b:Int} (a0:0<=a) (a1:a<s.places) (b0:0<=b) (b1:b<s.places):reaE s a b=if 99<=dsF s (s.doors.map Dr.mx) a b then (0,0,11) else (dsF s (s.doors.map Dr.mn) a b,dsF s (s.doors.map Dr.mx) a b,0):=by
 unfold reaE
 rw [if_neg (by omega)]
 rfl
theorem rea_cases {s:Sm} (ok:SmOk s) {a b:Int} (a0:0<=a) (a1:a<s.places) (b0:0<=b) (b1:b<s.places) :
  (reaE s a b=(0,0,11)/\dsF s (s.doors.map Dr.mx) a b=99/\dsF s (s.doors.map Dr.mn) a b=99) ∨
  (reaE s a b=(dsF s (s.doors.map Dr.mn) a b,dsF s (s.doors.map Dr.mx) a b,0)/\dsF s (s.doors.map Dr.mx) a b<99/\dsF s (s.doors.map Dr.mn) a b<99):=by
 rw [reaE_in a0 a1 b0 b1]
 have h1:=Dja (pl:=s.places) ok.dk
 have h2:=Djb (pl:=s.places) ok.dk
 have g1:=ds_walk ok h1 a0 a1 b0 b1
 have g2:=ds_walk ok h2 a0 a1 b0 b1
 have g3:=ds_other ok h1 a0 a1 h2 b0 b1
 by_cases h:99<=dsF s (s.doors.map Dr.mx) a b
 ·rw [if_pos h]
  left
  refine ⟨rfl,?_,?_⟩<;>omega
 ·rw [if_neg h]
  right
  refine ⟨rfl,?_,?_⟩<;>omega
end Go.Proofs.YtaehjjbekjglkaaGreatDoor
end
section
namespace Go.Proofs.YtaehjjbekjglkaaGreatDoor
open Go Go.X Go.Proofs.Tryz
def y48_150:=aN @Dyw (aN @Dwl (aN @Dw1 (aN @Dyc (aN (fun H=>Av3 (H:=H) underlying24 sizeOf32 zeroValue32 rfl (by decide) (by decide)) (aN @Dy8 (aN @Dw9 @Dyh))))))
theorem append_RowGsD {P:Program} {tt e:TypeId} {sz:Nat} {z:Value} {inf:TypeInfo} (hsz:0<sz) (hu:P.underlying tt=some (.slice e)) (hs:∀w,(sizeOf e).run P w=.ok sz w) (hz:∀w,(zeroValue e).run P w=.ok z w) (hzc:z.cells.size=sz)
  (hi:∀w,(typeInfo e).run P w=.ok inf w) (hby:inf.bytes<=1024) (hby0:0<inf.bytes)
  {H:Hp} {v:Value} {rows rows2:List (List Value)} (h:RowG e sz H v rows) {g:Option Addr} {m cap:Nat} (h2:SlG e sz H (.slice g m cap) rows2) (hsep:rows2≠[]->∀x o,g=some ⟨x,o,none⟩->rowB v≠some x) (hone:∀r∈rows2,∀u∈r,one u=true) (hn:rows.length+rows2.length<=1000000) (ty:TypeId) (cb:Array Bool) (K:Next->Hp->Prop) (E:Value->Hp->Prop)
  (h':∀v' H',RowG e sz H' v' (rows++rows2)->(∀x u,H x=some u->rowB v≠some x->H' x=some u)->(∀x,rowB v'=some x->rowB v=some x∨H x=none)->(∀x,H' x=none->H x=none)->K (.value v') H') :
  wpS P (builtin .append #[tt,tt] ty cb #[v,.slice g m cap]) H K E:=by
 have hl2:=h2.len.1
 have hr2:∀r∈rows2,(id r:List Value).length=sz:=fun r hr=>by
  obtain ⟨i,hi⟩:=List.getElem?_of_mem hr
  obtain ⟨_,_,_,_,_,_,_,_,h4,_⟩:=h2.get hi
  exact h4
 have hfl:(rows++rows2).flatMap id=rows.flatMap id++rows2.flatMap id:=by simp
 have hro:∀r∈rows++rows2,r.length=sz:=fun r hr=>(List.mem_append.1 hr).elim (h.2 r) (hr2 r)
 have hcap:=h.slG hsz
 by_cases hm:m=0
 ·subst hm
  have h0:rows2=[]:=List.eq_nil_of_length_eq_zero hl2.symm
  subst h0
  obtain ⟨a,cp,rfl⟩:=h.form
  exact Aw9 hu hs _ _ _ _ _ _ _ hcap.len.2 _ _ (h' _ H (by rw [List.append_nil];exact h) (fun _ _ hx _=>hx) (fun x hx=>.inl hx) fun _ h=>h)
 obtain ⟨⟨gb,go,rfl⟩⟩:Nonempty (∃gb go,g=some ⟨gb,go,none⟩):=by
  cases hx:rows2 with
  | nil=>rw [hx] at hl2;exact absurd hl2 hm
  | cons r l=>
   obtain ⟨b,o,_,_,_,hh,_⟩:=h2.get (i:=0) (r:=r) (by rw [hx];rfl)
   exact ⟨b,o,hh⟩
 have hfn:(rows2.flatMap id).length=m*sz:=by rw [Avj id sz rows2 hr2,hl2]
 have hcell:=SlG.cells hsz h2
 have hw:∀u∈rows2.flatMap id,one u=true:=fun u hm'=>by
  obtain ⟨r,hr,hu'⟩:=List.mem_flatMap.1 hm'
  exact hone r hr u hu'
 have hlen:rows.length+m=(rows++rows2).length:=by rw [List.length_append,hl2]
 obtain ⟨_,hrow⟩:=h.1
 rcases hrow with ⟨rfl,hz0,hc0⟩ | ⟨b,c,cap',hb0,hb,rfl,hcs,hcap',hlen',hget⟩
 ·obtain rfl:rows=[]:=List.eq_nil_of_length_eq_zero hz0
  refine Bw2 (P:=P) hu hs hz hzc hi hby hby0 (Aju.nil H e sz) (Hp.le_refl H) (m:=m) hfn id hcell hw (by simp at hn;omega) ty cb K E (fun v' H1 H2 hr hl hdom=>?_)
  have hle:H.le H2:=fun x u hx=>hl _ _ (hr.le _ _ hx)
  rcases hr with ⟨_,hn0,_⟩ | ⟨b',c',cap'',hb',rfl,rfl,hs',hl',hn',hg'⟩
  ·simp at hn0;exact absurd hn0 hm
  ·refine h' _ H2 ⟨⟨fun _ _ h=>(by cases h),.inr ⟨b',c',cap'',rfl,hl _ _ (by rw [Axp,if_pos rfl]),?_,hs',?_,?_,?_⟩⟩,hro⟩ (fun x u hx _=>hle _ _ hx) (fun x hx=>?_) hdom
   ·simp only [List.nil_append,Nat.zero_add];rw [hl2]
   ·simpa [hl2] using hn'
   ·simpa [hl2] using hl'
   ·intro i u hi;exact hg' i u (by simpa using hi)
   ·simp only [rowB,Option.some.injEq] at hx
    subst hx
    exact .inr hb'
 ·have hgb:gb≠b:=fun e=>hsep (fun h=>by rw [h] at hl2;exact hm hl2) gb go rfl (by rw [e];rfl)
  have hD:(fun x=>if x=b then none else H x:Hp) b=none:=by simp
  have hH:H=Hp.set (fun x=>if x=b then none else H x) b (.cells c e (0,0)):=by
   funext x
   unfold Hp.set
   by_cases e:x=b
   ·subst e;simp [hb]
   ·simp [e]
  refine Bw2 (P:=P) hu hs hz hzc hi hby hby0 (H₀:=fun x=>if x=b then none else H x) (H:=H) (n:=rows.length) (cs:=rows.flatMap id) (.inr ⟨b,c,cap',hD,hH,rfl,hcs,hlen',hcap',hget⟩) (Hp.le_refl H) (m:=m) hfn (fun hx=>by simpa [hgb] using hx) hcell hw (by omega) ty cb K E (fun v' H1 H2 hr hl hdom=>?_)
  have hkeep:∀x u,x≠b->H x=some u->H2 x=some u:=fun x u hn hx=>hl _ _ (hr.le _ _ (by simp only [hn,if_false];exact hx))
  rcases hr with ⟨_,hn0,_⟩ | ⟨b',c',cap'',hb',rfl,rfl,hs',hl',hn',hg'⟩
  ·exact absurd hn0 (by omega)
  ·refine h' _ H2 ⟨⟨fun _ _ h=>(by cases h),.inr ⟨b',c',cap'',rfl,hl _ _ (by rw [Axp,if_pos rfl]),by rw [hlen],hs',by rw [<-hlen];exact hn',by rw [hfl,<-hlen];exact hl',fun i u hi=>hg' i u (by rw [<-hfl];exact hi)⟩⟩,hro⟩ (fun x u hx ho=>hkeep x _ (fun e=>ho (by rw [e];rfl)) hx) (fun x hx=>?_) hdom
   simp only [rowB,Option.some.injEq] at hx
   subst hx
   by_cases e:b'=b
   ·exact .inl (by rw [e];rfl)
   ·simp only [e,if_false] at hb';exact .inr hb'
theorem append_RowGs {P:Program} {tt e:TypeId} {sz:Nat} {z:Value} {inf:TypeInfo} (hsz:0<sz) (hu:P.underlying tt=some (.slice e)) (hs:∀w,(sizeOf e).run P w=.ok sz w) (hz:∀w,(zeroValue e).run P w=.ok z w) (hzc:z.cells.size=sz)
  (hi:∀w,(typeInfo e).run P w=.ok inf w) (hby:inf.bytes<=1024) (hby0:0<inf.bytes)
  {H:Hp} {v:Value} {rows rows2:List (List Value)} (h:RowG e sz H v rows) {g:Option Addr} {m cap:Nat} (h2:SlG e sz H (.slice g m cap) rows2) (hsep:rows2≠[]->∀x o,g=some ⟨x,o,none⟩->rowB v≠some x) (hone:∀r∈rows2,∀u∈r,one u=true) (hn:rows.length+rows2.length<=1000000) (ty:TypeId) (cb:Array Bool) (K:Next->Hp->Prop) (E:Value->Hp->Prop)
  (h':∀v' H',RowG e sz H' v' (rows++rows2)->(∀x u,H x=some u->rowB v≠some x->H' x=some u)->(∀x,rowB v'=some x->rowB v=some x∨H x=none)->K (.value v') H') :
  wpS P (builtin .append #[tt,tt] ty cb #[v,.slice g m cap]) H K E:=
 append_RowGsD hsz hu hs hz hzc hi hby hby0 h h2 hsep hone hn ty cb K E fun v' H' a b c _=>h' v' H' a b c
theorem range0 (f:Nat->Value) (k:Nat):(Array.range (0*k)).map f=#[]:=by simp
theorem RowG.new0 {e:TypeId} {sz:Nat} {H:Hp} {b:Nat} (h:H b=some (true,.cells #[] e (0,0))):RowG e sz H (.slice (some ⟨b,0,none⟩) 0 0) []:=
 ⟨⟨(fun _ _ h=>by cases h),.inr ⟨b,#[],0,rfl,h,rfl,by simp,Nat.le_refl _,by simp,fun i u hi=>by simp at hi⟩⟩,(fun _ h=>by cases h)⟩
theorem slG_one {e:TypeId} {sz:Nat} {H:Hp} {g:Nat} {ws:List Value} (hw:ws.length=sz) (h:H g=some (true,.cells ws.toArray e (0,0))):SlG e sz H (.slice (some ⟨g,0,none⟩) 1 1) [ws]:=by
 refine ⟨_,1,rfl,Nat.le_refl _,fun i r hi=>?_⟩
 have hi0:i=0:=by have:=(List.getElem?_eq_some_iff.1 hi).1;simp only [List.length_singleton] at this;omega
 subst hi0
 simp only [List.getElem?_cons_zero,Option.some.injEq] at hi
 subst hi
 refine ⟨g,0,true,_,_,rfl,h,by simp [hw],hw,?_⟩
 simp [List.take_of_length_le (Nat.le_of_eq hw)]
theorem SlN.one {ns:List Ns}:∀r∈ns.map Bzf,∀u∈r,one u=true:=fun r hr u hu=>by
 obtain ⟨d,_,rfl⟩:=List.mem_map.1 hr
 simp only [Bzf,List.mem_cons,List.not_mem_nil,or_false] at hu
 rcases hu with rfl | rfl | rfl<;>rfl
theorem swith_spec (m:Md) (H:Hp) (s:Sm) (dv hv nv:Value) (hs:SmIn H dv hv nv s) (n:Ns) (hl:s.noses.length<=1000) :
  FnX Tryz.prog m 48 #[smV s.places dv hv nv,.agg #[.int .i64 n.pl,.int .i64 n.hr,.bool n.sm]] H fun e H'=>∃nv',e=.returned (smV s.places dv hv nv')/\SmIn H' dv hv nv' (withS s n)/\H.le H':=by
 obtain ⟨da,dc,ha,kc,na,nc,rfl,rfl,rfl,l1,l2,l3⟩:=hs.forms
 refine Aqn func48 rfl ntmps48 (by simp) ?_
 (refine @unH _ (zA y48_150 ?_);(try clear hK K);intro K hK hc)
 (intro sb hsb nb hnb rb hrb;replace hrb:(Hp.set (Hp.set _ sb _) nb _) rb=none:=hrb;replace hnb:(Hp.set _ sb _) nb=none:=hnb;generalize hG:Hp.set _ sb _=H1 at hnb hrb ⊢;have lH1:=Aqc hG hsb;have wsb:=Aqb hG;clear hG;generalize hG:Hp.set _ nb _=H2 at hrb ⊢;have lH2:=Aqc hG hnb;have wnb:=Aqb hG;have nsbnb:=Aqr wsb hnb;replace wsb:=lH2 _ _ wsb;clear hG;generalize hG:Hp.set _ rb _=H3;have lH3:=Aqc hG hrb;have vrb:=Aqb hG;have vsb:=lH3 _ _ wsb;have vnb:=lH3 _ _ wnb;have nsbrb:=Aqr wsb hrb;have nnbrb:=Aqr wnb hrb;clear hG wsb wnb)
 have w1H3:=vsb
 have w2H3:=vnb
 have wrH3:=vrb
 have lbH3:=Hp.le_trans lH1 (Hp.le_trans lH2 lH3)
 have hrb0:H rb=none:=Hp.le_none (Hp.le_trans lH1 lH2) hrb
 have hsb0:H sb=none:=hsb
 have hsrc:s.noses.map Bzf≠[]->∀x o,na=some ⟨x,o,none⟩->∃u,H x=some u:=fun hne x o hx=>by
  obtain ⟨r,hr⟩:∃r,(s.noses.map Bzf)[0]?=some r:=by
   cases hm:s.noses.map Bzf with
   | nil=>exact absurd hm hne
   | cons r l=>exact ⟨r,rfl⟩
  obtain ⟨b,o',q,c,fr,g1,g2,_⟩:=SlG.get hs.nn hr
  rw [hx] at g1
  cases g1
  exact ⟨_,g2⟩
 have hns0:SlG 32 3 H (.slice na s.noses.length nc) (s.noses.map Bzf):=hs.nn
 have hone:=SlN.one (ns:=s.noses)
 clear lH1 lH2 lH3 vsb vnb vrb hsb hnb hrb
 refine hK _ _ ?_
 clear hK K
 (try refine @unH _ (zQ ?_))
 refine Bz4 (fun HX=>HX sb=some (true,.cells #[.int .i64 s.places,.slice da s.doors.length dc,.slice ha s.hampers.length kc,.slice na s.noses.length nc] 26 (0,0))/\HX nb=some (true,.cells #[.int .i64 n.pl,.int .i64 n.hr,.bool n.sm] 32 (0,0))) [6,8] (.free 1 (.take 2 (.take 4 (.two 0 (.two 3 (.one 5 (.one 6 (.free 7 (.one 8 .nil)))) 5 (.one 3 (.one 6 (.free 7 (.one 8 .nil))))) 5 (.one 0 (.one 3 (.one 6 (.free 7 (.one 8 .nil))))))))) (by kernel_rfl) (by kernel_rfl) (by decide) (by kernel_rfl) ?_;intro K hK
 refine Ax6 fun ops hOz=>?_
 have hSS:=And.intro w1H3 w2H3
 have htail:∀(e:Nat->Value) (Hc:Hp) (v:Value),e 2=.pointer (some ⟨sb,0,none⟩)->e 4=.pointer (some ⟨rb,0,none⟩)->e 11=v->Hc sb=some (true,.cells #[.int .i64 s.places,.slice da s.doors.length dc,.slice ha s.hampers.length kc,.slice na s.noses.length nc] 26 (0,0))->Hc rb=some (true,.cells #[.int .i64 0,.slice none 0 0,.slice none 0 0,.slice none 0 0] 26 (0,0))->RowG 32 3 Hc v (s.noses.map Bzf++[Bzf n])->H.le Hc->Azh Tryz.prog m none ops.toArray (only K) (fun HX=>HX sb=some (true,.cells #[.int .i64 s.places,.slice da s.doors.length dc,.slice ha s.hampers.length kc,.slice na s.noses.length nc] 26 (0,0))/\HX nb=some (true,.cells #[.int .i64 n.pl,.int .i64 n.hr,.bool n.sm] 32 (0,0))) [6,8] (.free 7 (.one 8 .nil)) (act 14 e []) Hc:=by
  clear hSS w1H3 w2H3 wrH3 lbH3
  intro e Hc v e2 e4 e11 w1 wr r7 lb
  have ho:one v=true:=by obtain ⟨_,_,rfl⟩:=r7.form;rfl
  (refine @unH _ ?_;refine zF y48_150 ?_)
  (refine Ay9 hOz rfl rfl ?_;simp -implicitDefEqProofs (disch:=first | omega | (simp only [qd]<;>omega)) only [xq,↓xp,qc,Nat.reduceAdd,List.range,List.range.loop,fine,Nat.reduceEqDiff,↓reduceIte,yielded,reduceCtorEq,Nat.reduceLT,Nat.reduceMul,Nat.reduceSub,one,Nat.reduceLeDiff,Aqg,y48_150,aq,↓ap,qe0,qe1,qe2, *,-hK,Azj sizeOf24 ho,Ak2 w1,ho])
  refine ⟨.inl (by decide),?_⟩
  (refine Az6 (hK _ _ ?_);clear hK K;(try simp only [nq,↓reduceIte,Nat.reduceEqDiff]))
  have r8:RowG 32 3 (Hc.set sb (smO s.places (.slice da s.doors.length dc) (.slice ha s.hampers.length kc) v)) v (s.noses.map Bzf++[Bzf n]):=r7.keep fun x u hx hu=>by
   rw [Aqv (r7.bound hx w1 (fun c hc=>by simp only [Obj.cells.injEq] at hc;exact absurd hc.2.1 (by decide)))]
   exact hu
  have w8:(Hc.set sb (smO s.places (.slice da s.doors.length dc) (.slice ha s.hampers.length kc) v)) sb=_:=Axh
  have wr8:(Hc.set sb (smO s.places (.slice da s.doors.length dc) (.slice ha s.hampers.length kc) v)) rb=_:=(Aqv (Ne.symm nsbrb)).trans wr
  have lb8:=Az4 (o:=smO s.places (.slice da s.doors.length dc) (.slice ha s.hampers.length kc) v) lb hsb0
  generalize hG:Hp.set Hc sb _=H8 at *
  clear hG r7 w1 wr lb ho e11 hOz
  obtain ⟨va,vc,rfl⟩:=r8.form
  (refine @unH _ (zA y48_150 ?_);(try clear hK K);intro K hK hc)
  (refine Axr ?_;(try simp only [nq,↓reduceIte,Nat.reduceEqDiff]);rw [Aq8,Ax4 results48 (by decide) (b:=rb) (o:=0) ?hcell underlying26 rfl sizeOf26];(case hcell=>exact e4);simp -implicitDefEqProofs (disch:=first | omega | (simp only [qd]<;>omega)) only [xq,↓xp,qc,Nat.reduceAdd,List.range,List.range.loop,fine,Nat.reduceEqDiff,↓reduceIte,yielded,reduceCtorEq,Nat.reduceLT,Nat.reduceMul,Nat.reduceSub,one,Nat.reduceLeDiff,Aqg,y48_150,Axl,List.extract_toArray])
  have hnn:=r8.slG (by decide)
  refine ⟨_,rfl,⟨SlG.put (SlG.le hs.dd lb8) wr8 (by decide) _,SlI.put (SlI.le hs.hh lb8) wr8 (by decide) _,?_⟩,Az4 lb8 hrb0⟩
  show SlG _ _ _ _ ((s.noses++[n]).map Bzf)
  rw [List.map_append]
  exact SlG.put hnn wr8 (by decide) _
 replace hsrc:Aqk _:=hsrc
 replace hone:Aqk _:=hone
 replace hns0:Aqk _:=hns0
 replace htail:Aqk _:=htail
 (refine @unH _ ?_;refine zF y48_150 ?_)
 (refine @unH _ ?_;refine zK (aN y48_150 @exists_eq_left'.{1}) ?_)
 (refine @unH _ ?_;refine zK y48_150 ?_)
 refine planZ_two hOz rfl rfl rfl rfl ?_ ?_
 ·(refine @unH _ ?_;refine zX y48_150 ?_)
  intro b0 hb0
  generalize hG:Hp.set H3 b0 _=H4
  have lH4:=Aqc hG hb0
  have vbH4:=Aqb hG
  rw [range0] at vbH4
  have rH4:=RowG.new0 (sz:=3) vbH4
  clear hG
  have b0s:=Aqr w1H3 hb0
  have b0n:=Aqr w2H3 hb0
  have b0r:=Aqr wrH3 hb0
  have b00:=Hp.le_none lbH3 hb0
  have w1H4:=lH4 _ _ w1H3
  have w2H4:=lH4 _ _ w2H3
  have wrH4:=lH4 _ _ wrH3
  have lbH4:=Hp.le_trans lbH3 lH4
  refine ⟨.inr fun _=>(by first | trivial | exact ⟨by first | exact w1H4 | rw [if_neg (by first | exact Aqr w1H3 hg | exact Aqr w1H3 hb0)],by first | exact w2H4 | rw [if_neg (by first | exact Aqr w2H3 hg | exact Aqr w2H3 hb0)]⟩),?_⟩
  clear hSS
  refine planZ_two hOz rfl rfl rfl rfl ?_ ?_
  ·(refine @unH _ ?_;refine zX y48_150 ?_)
   refine append_RowGs (by decide) underlying24 sizeOf32 zeroValue32 rfl typeInfo32 (by decide) (by decide) rH4 (SlG.le hns0 lbH4) (fun hne x o hx h=>?_) hone (by simp only [List.length_nil,List.length_map];omega) _ _ _ _ (fun v3 H5 rH5 kH5 nH5=>?_)
   ·obtain ⟨u,hu⟩:=(show s.noses.map Bzf≠[]->∀x o,na=some ⟨x,o,none⟩->∃u,H x=some u from hsrc) hne x o hx
    simp only [rowB,Option.some.injEq] at h
    rw [<-h,b00] at hu
    cases hu
   have w1H5:=kH5 _ _ w1H4 (fun h=>b0s (Option.some.inj h).symm)
   have w2H5:=kH5 _ _ w2H4 (fun h=>b0n (Option.some.inj h).symm)
   have wrH5:=kH5 _ _ wrH4 (fun h=>b0r (Option.some.inj h).symm)
   have lbH5:H.le H5:=fun x u hx=>kH5 x u (lbH4 _ _ hx) (fun h=>by rw [<-Option.some.inj h,b00] at hx;cases hx)
   have nbH5:∀x,rowB v3=some x->H x=none:=fun x hx=>(nH5 x hx).elim (fun h=>by rw [<-Option.some.inj h];exact b00) fun h=>Hp.le_none lbH4 h
   rw [List.nil_append] at rH5
   (refine @unH _ ?_;refine zX y48_150 ?_)
   refine ⟨.inr fun _=>(by first | trivial | exact ⟨by first | exact w1H5 | rw [if_neg (by first | exact Aqr w1H4 hg | exact Aqr w1H4 hb0)],by first | exact w2H5 | rw [if_neg (by first | exact Aqr w2H4 hg | exact Aqr w2H4 hb0)]⟩),?_⟩
   (refine @unH _ ?_;refine zM y48_150 ?_)
   intro g hg
   generalize hG:Hp.set H5 g _=H6
   have lH6:=Aqc hG hg
   have vgH6:=Aqb hG
   clear hG
   have w1H6:=lH6 _ _ w1H5
   have w2H6:=lH6 _ _ w2H5
   have wrH6:=lH6 _ _ wrH5
   have lbH6:=Hp.le_trans lbH5 lH6
   have r36:RowG 32 3 H6 v3 (s.noses.map Bzf):=rH5.keep fun x u _ hu=>lH6 _ _ hu
   refine ⟨.inr fun _=>(by first | trivial | exact ⟨by first | exact w1H6 | rw [if_neg (by first | exact Aqr w1H5 hg | exact Aqr w1H5 hb0)],by first | exact w2H6 | rw [if_neg (by first | exact Aqr w2H5 hg | exact Aqr w2H5 hb0)]⟩),?_⟩
   (refine @unH _ ?_;refine zM y48_150 ?_)
   refine append_RowGs (by decide) underlying24 sizeOf32 zeroValue32 rfl typeInfo32 (by decide) (by decide) r36 (slG_one (ws:=[.int .i64 n.pl,.int .i64 n.hr,.bool n.sm]) rfl vgH6) (fun _ x o hx h=>?_) (SlN.one (ns:=[n])) (by simp only [List.length_cons,List.length_nil,List.length_map];omega) _ _ _ _ (fun v6 H7 rH7 kH7 nH7=>?_)
   ·simp only [Option.some.injEq,Addr.mk.injEq] at hx
    rw [<-hx.1] at h
    obtain ⟨c,hc⟩:=rH5.cell h
    rw [hg] at hc
    cases hc
   have w1H7:=kH7 _ _ w1H6 (fun h=>RowG.bound r36 h w1H6 (fun c hc=>by simp only [Obj.cells.injEq] at hc;exact absurd hc.2.1 (by decide)) rfl)
   have wrH7:=kH7 _ _ wrH6 (fun h=>RowG.bound r36 h wrH6 (fun c hc=>by simp only [Obj.cells.injEq] at hc;exact absurd hc.2.1 (by decide)) rfl)
   have lbH7:H.le H7:=fun x u hx=>kH7 x u (lbH6 _ _ hx) (fun h=>by rw [nbH5 x h] at hx;cases hx)
   (refine @unH _ ?_;refine zX y48_150 ?_)
   refine ⟨.inl (by decide),?_⟩
   exact (show ∀(e:Nat->Value) (Hc:Hp) (v:Value),_->_->_->_->_->_->_->_ from htail) _ _ _ rfl rfl rfl w1H7 wrH7 rH7 lbH7
  ·(refine @unH _ ?_;refine zX y48_150 ?_)
   intro g hg
   generalize hG:Hp.set H4 g _=H5
   have lH5:=Aqc hG hg
   have vgH5:=Aqb hG
   clear hG
   have w1H5:=lH5 _ _ w1H4
   have w2H5:=lH5 _ _ w2H4
   have wrH5:=lH5 _ _ wrH4
   have lbH5:=Hp.le_trans lbH4 lH5
   have r35:RowG 32 3 H5 (.slice (some ⟨b0,0,none⟩) 0 0) []:=rH4.keep fun x u _ hu=>lH5 _ _ hu
   have b0g:b0≠g:=fun e=>by obtain ⟨c,hc⟩:=rH4.cell (x:=b0) rfl;rw [e,hg] at hc;cases hc
   refine ⟨.inr fun _=>(by first | trivial | exact ⟨by first | exact w1H5 | rw [if_neg (by first | exact Aqr w1H4 hg | exact Aqr w1H4 hb0)],by first | exact w2H5 | rw [if_neg (by first | exact Aqr w2H4 hg | exact Aqr w2H4 hb0)]⟩),?_⟩
   (refine @unH _ ?_;refine zM y48_150 ?_)
   refine append_RowGs (by decide) underlying24 sizeOf32 zeroValue32 rfl typeInfo32 (by decide) (by decide) r35 (SlG.le hns0 lbH5) (fun hne x o hx h=>?_) hone (by simp only [List.length_nil,List.length_map];omega) _ _ _ _ (fun v3 H6 rH6 kH6 nH6=>?_)
   ·obtain ⟨u,hu⟩:=(show s.noses.map Bzf≠[]->∀x o,na=some ⟨x,o,none⟩->∃u,H x=some u from hsrc) hne x o hx
    simp only [rowB,Option.some.injEq] at h
    rw [<-h,b00] at hu
    cases hu
   have w1H6:=kH6 _ _ w1H5 (fun h=>b0s (Option.some.inj h).symm)
   have w2H6:=kH6 _ _ w2H5 (fun h=>b0n (Option.some.inj h).symm)
   have wrH6:=kH6 _ _ wrH5 (fun h=>b0r (Option.some.inj h).symm)
   have lbH6:H.le H6:=fun x u hx=>kH6 x u (lbH5 _ _ hx) (fun h=>by rw [<-Option.some.inj h,b00] at hx;cases hx)
   have nbH6:∀x,rowB v3=some x->H x=none:=fun x hx=>(nH6 x hx).elim (fun h=>by rw [<-Option.some.inj h];exact b00) fun h=>Hp.le_none lbH5 h
   rw [List.nil_append] at rH6
   have vg6:=kH6 _ _ vgH5 (fun h=>b0g (Option.some.inj h))
   (refine @unH _ ?_;refine zX y48_150 ?_)
   refine ⟨.inr fun _=>(by first | trivial | exact ⟨by first | exact w1H6 | rw [if_neg (by first | exact Aqr w1H5 hg | exact Aqr w1H5 hb0)],by first | exact w2H6 | rw [if_neg (by first | exact Aqr w2H5 hg | exact Aqr w2H5 hb0)]⟩),?_⟩
   (refine @unH _ ?_;refine zM y48_150 ?_)
   refine append_RowGs (by decide) underlying24 sizeOf32 zeroValue32 rfl typeInfo32 (by decide) (by decide) rH6 (slG_one (ws:=[.int .i64 n.pl,.int .i64 n.hr,.bool n.sm]) rfl vg6) (fun _ x o hx h=>?_) (SlN.one (ns:=[n])) (by simp only [List.length_cons,List.length_nil,List.length_map];omega) _ _ _ _ (fun v6 H7 rH7 kH7 nH7=>?_)
   ·simp only [Option.some.injEq,Addr.mk.injEq] at hx
    rw [<-hx.1] at h
    exact (nH6 _ h).elim (fun h=>b0g (Option.some.inj h)) fun h=>by rw [vgH5] at h;cases h
   have w1H7:=kH7 _ _ w1H6 (fun h=>RowG.bound rH6 h w1H6 (fun c hc=>by simp only [Obj.cells.injEq] at hc;exact absurd hc.2.1 (by decide)) rfl)
   have wrH7:=kH7 _ _ wrH6 (fun h=>RowG.bound rH6 h wrH6 (fun c hc=>by simp only [Obj.cells.injEq] at hc;exact absurd hc.2.1 (by decide)) rfl)
   have lbH7:H.le H7:=fun x u hx=>kH7 x u (lbH6 _ _ hx) (fun h=>by rw [nbH6 x h] at hx;cases hx)
   (refine @unH _ ?_;refine zX y48_150 ?_)
   refine ⟨.inl (by decide),?_⟩
   exact (show ∀(e:Nat->Value) (Hc:Hp) (v:Value),_->_->_->_->_->_->_->_ from htail) _ _ _ rfl rfl rfl w1H7 wrH7 rH7 lbH7
 ·(refine @unH _ ?_;refine zX y48_150 ?_)
  intro g hg
  generalize hG:Hp.set H3 g _=H4
  have lH4:=Aqc hG hg
  have vgH4:=Aqb hG
  clear hG
  have w1H4:=lH4 _ _ w1H3
  have w2H4:=lH4 _ _ w2H3
  have wrH4:=lH4 _ _ wrH3
  have lbH4:=Hp.le_trans lbH3 lH4
  refine ⟨.inr fun _=>(by first | trivial | exact ⟨by first | exact w1H4 | rw [if_neg (by first | exact Aqr w1H3 hg | exact Aqr w1H3 hb0)],by first | exact w2H4 | rw [if_neg (by first | exact Aqr w2H3 hg | exact Aqr w2H3 hb0)]⟩),?_⟩
  clear hSS
  (refine @unH _ ?_;refine zM y48_150 ?_)
  intro b0 hb0
  generalize hG:Hp.set H4 b0 _=H5
  have lH5:=Aqc hG hb0
  have vbH5:=Aqb hG
  rw [range0] at vbH5
  have rH5:=RowG.new0 (sz:=3) vbH5
  clear hG
  have b0s:=Aqr w1H4 hb0
  have b0n:=Aqr w2H4 hb0
  have b0r:=Aqr wrH4 hb0
  have b00:=Hp.le_none lbH4 hb0
  have w1H5:=lH5 _ _ w1H4
  have w2H5:=lH5 _ _ w2H4
  have wrH5:=lH5 _ _ wrH4
  have lbH5:=Hp.le_trans lbH4 lH5
  have vg5:=lH5 _ _ vgH4
  have b0g:=Ne.symm (Aqr vgH4 hb0)
  refine ⟨.inr fun _=>(by first | trivial | exact ⟨by first | exact w1H5 | rw [if_neg (by first | exact Aqr w1H4 hg | exact Aqr w1H4 hb0)],by first | exact w2H5 | rw [if_neg (by first | exact Aqr w2H4 hg | exact Aqr w2H4 hb0)]⟩),?_⟩
  (refine @unH _ ?_;refine zM y48_150 ?_)
  refine append_RowGs (by decide) underlying24 sizeOf32 zeroValue32 rfl typeInfo32 (by decide) (by decide) rH5 (SlG.le hns0 lbH5) (fun hne x o hx h=>?_) hone (by simp only [List.length_nil,List.length_map];omega) _ _ _ _ (fun v3 H6 rH6 kH6 nH6=>?_)
  ·obtain ⟨u,hu⟩:=(show s.noses.map Bzf≠[]->∀x o,na=some ⟨x,o,none⟩->∃u,H x=some u from hsrc) hne x o hx
   simp only [rowB,Option.some.injEq] at h
   rw [<-h,b00] at hu
   cases hu
  have w1H6:=kH6 _ _ w1H5 (fun h=>b0s (Option.some.inj h).symm)
  have w2H6:=kH6 _ _ w2H5 (fun h=>b0n (Option.some.inj h).symm)
  have wrH6:=kH6 _ _ wrH5 (fun h=>b0r (Option.some.inj h).symm)
  have lbH6:H.le H6:=fun x u hx=>kH6 x u (lbH5 _ _ hx) (fun h=>by rw [<-Option.some.inj h,b00] at hx;cases hx)
  have nbH6:∀x,rowB v3=some x->H x=none:=fun x hx=>(nH6 x hx).elim (fun h=>by rw [<-Option.some.inj h];exact b00) fun h=>Hp.le_none lbH5 h
  rw [List.nil_append] at rH6
  have vg6:=kH6 _ _ vg5 (fun h=>b0g (Option.some.inj h))
  (refine @unH _ ?_;refine zX y48_150 ?_)
  refine ⟨.inr fun _=>(by first | trivial | exact ⟨by first | exact w1H6 | rw [if_neg (by first | exact Aqr w1H5 hg | exact Aqr w1H5 hb0)],by first | exact w2H6 | rw [if_neg (by first | exact Aqr w2H5 hg | exact Aqr w2H5 hb0)]⟩),?_⟩
  (refine @unH _ ?_;refine zM y48_150 ?_)
  refine append_RowGs (by decide) underlying24 sizeOf32 zeroValue32 rfl typeInfo32 (by decide) (by decide) rH6 (slG_one (ws:=[.int .i64 n.pl,.int .i64 n.hr,.bool n.sm]) rfl vg6) (fun _ x o hx h=>?_) (SlN.one (ns:=[n])) (by simp only [List.length_cons,List.length_nil,List.length_map];omega) _ _ _ _ (fun v6 H7 rH7 kH7 nH7=>?_)
  ·simp only [Option.some.injEq,Addr.mk.injEq] at hx
   rw [<-hx.1] at h
   exact (nH6 _ h).elim (fun h=>b0g (Option.some.inj h)) fun h=>by rw [vg5] at h;cases h
  have w1H7:=kH7 _ _ w1H6 (fun h=>RowG.bound rH6 h w1H6 (fun c hc=>by simp only [Obj.cells.injEq] at hc;exact absurd hc.2.1 (by decide)) rfl)
  have wrH7:=kH7 _ _ wrH6 (fun h=>RowG.bound rH6 h wrH6 (fun c hc=>by simp only [Obj.cells.injEq] at hc;exact absurd hc.2.1 (by decide)) rfl)
  have lbH7:H.le H7:=fun x u hx=>kH7 x u (lbH6 _ _ hx) (fun h=>by rw [nbH6 x h] at hx;cases hx)
  (refine @unH _ ?_;refine zX y48_150 ?_)
  refine ⟨.inl (by decide),?_⟩
  exact (show ∀(e:Nat->Value) (Hc:Hp) (v:Value),_->_->_->_->_->_->_->_ from htail) _ _ _ rfl rfl rfl w1H7 wrH7 rH7 lbH7
end Go.Proofs.YtaehjjbekjglkaaGreatDoor
end
section
namespace Go.X
open Go
section
variable {P:Program} {main:Md} {lp:Option Nat} {Q:Exit->Act->Hp->Prop} {l:List Oper} {n:Nat} {e0:Nat->Value} {ds:List Deferred} {Φ:Nat->Value->Hp->Prop} {H0:Hp}
def depB (l:List Oper) (i k t:Nat):Bool:=match l[k]? with
 | none=>false
 | some o=>o.dst==some t&&k != i&&(waitsFor l.toArray i).getD k false
def nodB (l:List Oper) (t:Nat):Bool:=l.all fun o=>o.dst != some t
def growG (P:Program) (main:Md) (lp:Option Nat) (Q:Exit->Act->Hp->Prop) (l:List Oper) (n:Nat) (e0:Nat->Value) (ds:List Deferred) (Φ:Nat->Value->Hp->Prop) (H0:Hp) (i:Nat) (o:Oper) (K:(Nat->Value)->Hp->Act->Hp->Prop):Prop:=
 ∀e H,H0.le H->(∀t,nodB l t=true->e t=e0 t)->(∀k t,depB l i k t=true->Φ k (e t) H)->fine lp o=true/\opX P main lp o (act n e ds) H (K e H) Q
def growOK (l:List Oper) (n:Nat):Bool:=
 (l.length != 0)&&(List.range l.length).all fun i=>match l[i]? with
 | none=>true
 | some o=>o.guard.isNone&&(match o.dst with | none=>true | some t=>decide (t<n))&&(o.after.all fun e=> !(Region.binds .any e)||decide (e.on<i))&&(i+1==l.length||(waitsFor l.toArray (l.length-1)).getD i false) &&
  (List.range l.length).all fun k=>k==i||(match l[k]? with | none=>true | some o'=>o.dst.isNone||o'.dst != o.dst)
structure GrowOK (l:List Oper) (n:Nat):Prop where
 ne:l.length≠0
 guard:∀(i:Nat) (o:Oper),l[i]?=some o->o.guard=none
 dst:∀(i:Nat) (o:Oper) (t:Tmp),l[i]?=some o->o.dst=some t->t<n
 aft:∀(i:Nat) (o:Oper),l[i]?=some o->∀e∈o.after,Region.binds .any e=true->e.on<i
 last:∀i,i+1<l.length->(waitsFor l.toArray (l.length-1)).getD i false=true
 apart:∀(i k:Nat) (o o':Oper) (t:Tmp),l[i]?=some o->l[k]?=some o'->k≠i->o.dst=some t->o'.dst≠some t
theorem growOK_spec (h:growOK l n=true):GrowOK l n:=by
 unfold growOK at h
 simp only [Bool.and_eq_true,bne_iff_ne,ne_eq] at h
 obtain ⟨h0,h⟩:=h
 have h1:∀(i:Nat) (o:Oper),l[i]?=some o->_:=fun i o hi=>by
  have:=List.all_eq_true.1 h i (List.mem_range.2 (List.getElem?_eq_some_iff.1 hi).1)
  rw [hi] at this
  simp only [Bool.and_eq_true] at this
  exact this
 refine ⟨h0,fun i o hi=>by simpa using (h1 i o hi).1.1.1.1,fun i o t hi hd=>?_,fun i o hi e he hb=>?_,fun i hi=>?_,fun i k o o' t hi hk hne hd hd'=>?_⟩
 ·have:=(h1 i o hi).1.1.1.2
  rw [hd] at this
  simpa using this
 ·have:=(h1 i o hi).1.1.2
  rw [Array.all_eq_true_iff_forall_mem] at this
  have:=this e he
  rw [hb] at this
  simpa using this
 ·have:=(h1 i _ (List.getElem?_eq_getElem (by omega))).1.2
  simp only [Bool.or_eq_true,beq_iff_eq] at this
  exact this.resolve_left (by omega)
 ·have:=List.all_eq_true.1 (h1 i o hi).2 k (List.mem_range.2 (List.getElem?_eq_some_iff.1 hk).1)
  rw [hk,hd] at this
  simp [hne,hd'] at this
structure GrowI (l:List Oper) (n:Nat) (e0:Nat->Value) (ds:List Deferred) (Φ:Nat->Value->Hp->Prop) (H0:Hp) (listed:Array Bool) (a:Act) (H:Hp):Prop where
 le:H0.le H
 env:∃e,a=act n e ds/\(∀t,nodB l t=true->e t=e0 t)/\∀(k:Nat) (o:Oper) (t:Tmp),l[k]?=some o->o.dst=some t->listed.getD k false=true->Φ k (e t) H
theorem growG.num {i:Nat} {o:Oper} {K:(Nat->Value)->Hp->Act->Hp->Prop} (h:growG P main lp Q l n e0 ds Φ H0 i o K) (hi:l[i]?=some o) (hg:o.guard=none) {listed:Array Bool} (hc:Closed l.toArray listed) (hr:i∈Region.ready .any l.toArray listed) {e:Nat->Value} {H:Hp} (hle:H0.le H) (he:∀t,nodB l t=true->e t=e0 t) (hf:∀(k:Nat) (o:Oper) (t:Tmp),l[k]?=some o->o.dst=some t->listed.getD k false=true->Φ k (e t) H) :
  numX P main lp l.toArray i Q (K e H) (act n e ds) H:=by
 rw [Av7]
 have hw:Region.wanted o (yielded l.toArray (act n e ds).tmps)=true:=by unfold Region.wanted;rw [hg]
 simp only [List.getElem?_toArray,hi,hw,if_true]
 refine h e H hle he fun k t hk=>?_
 unfold depB at hk
 cases ho:l[k]? with
 | none=>rw [ho] at hk;cases hk
 | some ok=>
  rw [ho] at hk
  simp only [Bool.and_eq_true,beq_iff_eq,bne_iff_ne,ne_eq] at hk
  exact hf k ok t ho hk.1.1 (((Bq8 hk.2).resolve_left hk.1.2).listed hc hr)
theorem grow_any (hst:∀k v H H',Φ k v H->H.le H'->Φ k v H') (ok:GrowOK l n)
  (hs:∀(i:Nat) (o:Oper),l[i]?=some o->i+1<l.length->growG P main lp Q l n e0 ds Φ H0 i o fun e H a' H'=>H.le H'/\∃v,a'=(act n e ds).put o.dst v/\Φ i v H')
  (hl:∀o,l[l.length-1]?=some o->growG P main lp Q l n e0 ds Φ H0 (l.length-1) o fun _ _ a' H'=>Q .normal a' H') :
  ∀(fuel:Nat) (listed:Array Bool) (a:Act) (H:Hp),listed.size=l.length->listed.toList.count false<=fuel->Closed l.toArray listed ->
   ((listed.getD (l.length-1) false=false/\GrowI l n e0 ds Φ H0 listed a H)∨((∀k,k<l.length->listed.getD k false=true)/\Q .normal a H))->anyX P main lp l.toArray Q (fun _=>True) fuel listed a H:=by
 have hall:∀listed:Array Bool,(∀k,k<l.length->listed.getD k false=true)->listed.size=l.length->Region.ready .any l.toArray listed=[]:=fun listed h hsz=>by
  cases hr:Region.ready .any l.toArray listed with
  | nil=>rfl
  | cons i r=>
   obtain ⟨h1,o,ho,_⟩:=mem_ready.1 (show i∈Region.ready .any l.toArray listed by rw [hr];exact List.mem_cons_self)
   rw [List.getElem?_toArray] at ho
   have hlt:=(List.getElem?_eq_some_iff.1 ho).1
   have:=h i hlt
   simp [Array.getD,hsz,hlt] at h1 this
   rw [this] at h1
   cases h1
 have hlive:∀listed:Array Bool,listed.size=l.length->listed.getD (l.length-1) false=false->Region.ready .any l.toArray listed≠[]:=fun listed hsz hlast=>by
  have key:∀m i,i<m->i<l.length->listed.getD i false=false->∃j,j∈Region.ready .any l.toArray listed:=by
   intro m
   induction m with
   | zero=>intro i hi;omega
   | succ m ih=>
    intro i hi hil hun
    by_cases hex:∃j,j<i/\listed.getD j false=false
    ·obtain ⟨j,hj,hju⟩:=hex
     exact ih j (by omega) (by omega) hju
    ·refine ⟨i,mem_ready.2 ⟨?_,l[i],by simp [hil],fun e he hb=>?_⟩⟩
     ·simpa [Array.getD,hsz,hil] using hun
     ·have:=ok.aft i _ (List.getElem?_eq_getElem hil) e he hb
      cases hq:listed.getD e.on false with
      | true=>rfl
      | false=>exact absurd ⟨_,this,hq⟩ hex
  obtain ⟨j,hj⟩:=key l.length (l.length-1) (by have:=ok.ne;omega) (by have:=ok.ne;omega) hlast
  intro h0
  rw [h0] at hj
  cases hj
 intro fuel
 induction fuel with
 | zero=>
  intro listed a H hsz hcnt hcl hI
  rcases hI with ⟨hlast,_⟩ | ⟨h,hq⟩
  ·exfalso
   have h0:l.length-1<listed.toList.length:=by have:=ok.ne;simp [hsz];omega
   have h1:false∈listed.toList:=by
    have h2:listed.toList[l.length-1]=false:=by
     have h3:l.length-1<listed.size:=by simpa using h0
     simpa [Array.getD,h3] using hlast
    rw [<-h2]
    exact List.getElem_mem h0
   have:=List.count_pos_iff.2 h1
   omega
  ·exact ⟨hall listed h hsz,hq⟩
 | succ fuel ih=>
  intro listed a H hsz hcnt hcl hI
  rcases hI with ⟨hlast,hG⟩ | ⟨h,hq⟩
  ·refine ⟨fun h0=>absurd h0 (hlive listed hsz hlast),fun i hi=>?_⟩
   obtain ⟨h1,o,ho,hdeps⟩:=mem_ready.1 hi
   rw [List.getElem?_toArray] at ho
   have hlt:=(List.getElem?_eq_some_iff.1 ho).1
   have hsz':(listed.setIfInBounds i true).size=l.length:=by simp [hsz]
   have hcnt':(listed.setIfInBounds i true).toList.count false<=fuel:=by
    have h2:i<listed.toList.length:=by simpa [hsz] using hlt
    have h3:listed.toList[i]=false:=by
     have h4:i<listed.size:=by simpa using h2
     simpa [Array.getD,h4] using h1
    rw [Array.toList_setIfInBounds,List.count_set h2,h3]
    simp only [beq_self_eq_true,if_true]
    have:=List.count_pos_iff.2 (show false∈listed.toList by rw [<-h3];exact List.getElem_mem h2)
    simp only [Bool.true_eq_false,beq_iff_eq,if_false,Nat.add_zero]
    omega
   obtain ⟨hle,e,rfl,he,hf⟩:=hG
   by_cases hil:i+1<l.length
   ·refine Axx (fun a' H' h'=>⟨trivial,ih _ a' H' hsz' hcnt' (hcl.set hi) (.inl ⟨?_,?_⟩)⟩) ((hs i o ho hil).num ho (ok.guard i o ho) hcl hi hle he hf)
    ·rw [getD_set_ne false (by omega)]
     exact hlast
    ·obtain ⟨hle',v,rfl,hv⟩:=h'
     refine ⟨fun x u hx=>hle' _ _ (hle _ _ hx),?_⟩
     cases hd:o.dst with
     | none=>
      refine ⟨e,rfl,he,fun k ok' t hk hdk hlk=>?_⟩
      by_cases hki:k=i
      ·subst hki
       rw [ho] at hk
       cases hk
       rw [hd] at hdk
       cases hdk
      ·rw [getD_set_ne false (Ne.symm hki)] at hlk
       exact hst _ _ _ _ (hf k ok' t hk hdk hlk) hle'
     | some t0=>
      refine ⟨upd e t0 v,by rw [Aq3 (ok.dst i o t0 ho hd)],fun t ht=>?_,fun k ok' t hk hdk hlk=>?_⟩
      ·have hne:t≠t0:=by
        rintro rfl
        have:=List.all_eq_true.1 ht o (List.mem_of_getElem? ho)
        simp [hd] at this
       rw [Axf,if_neg hne]
       exact he t ht
      ·by_cases hki:k=i
       ·subst hki
        rw [ho] at hk
        cases hk
        rw [hd] at hdk
        cases hdk
        rw [Axf,if_pos rfl]
        exact hv
       ·rw [getD_set_ne false (Ne.symm hki)] at hlk
        have hne:t≠t0:=by
         rintro rfl
         exact ok.apart i k o ok' t ho hk hki hd hdk
        rw [Axf,if_neg hne]
        exact hst _ _ _ _ (hf k ok' t hk hdk hlk) hle'
   ·obtain rfl:i=l.length-1:=by omega
    refine Axx (fun a' H' h'=>⟨trivial,ih _ a' H' hsz' hcnt' (hcl.set hi) (.inr ⟨fun k hk=>?_,h'⟩)⟩) ((hl o ho).num ho (ok.guard _ o ho) hcl hi hle he hf)
    by_cases hkl:k=l.length-1
    ·subst hkl
     simp [Array.getD,hsz,hk]
    ·rw [getD_set_ne false (Ne.symm hkl)]
     exact ((Bq8 (ok.last k (by omega))).resolve_left hkl).listed hcl hi
  ·refine ⟨fun _=>hq,fun i hi=>?_⟩
   rw [hall listed h hsz] at hi
   cases hi
def growAll (P:Program) (main:Md) (lp:Option Nat) (Q:Exit->Act->Hp->Prop) (l:List Oper) (n:Nat) (e0:Nat->Value) (ds:List Deferred) (Φ:Nat->Value->Hp->Prop) (H0:Hp):List Oper->Nat->Prop
 | [],_=>True
 | [o],i=>growG P main lp Q l n e0 ds Φ H0 i o fun _ _ a' H'=>Q .normal a' H'
 | o::o'::r,i=>growG P main lp Q l n e0 ds Φ H0 i o (fun e H a' H'=>H.le H'/\∃v,a'=(act n e ds).put o.dst v/\Φ i v H')/\growAll P main lp Q l n e0 ds Φ H0 (o'::r) (i+1)
theorem growAll_cons {o o':Oper} {r:List Oper} {i:Nat} (h:growG P main lp Q l n e0 ds Φ H0 i o (fun e H a' H'=>H.le H'/\∃v,a'=(act n e ds).put o.dst v/\Φ i v H')) (h':growAll P main lp Q l n e0 ds Φ H0 (o'::r) (i+1)):growAll P main lp Q l n e0 ds Φ H0 (o::o'::r) i:=⟨h,h'⟩
theorem growAll_one {o:Oper} {i:Nat} (h:growG P main lp Q l n e0 ds Φ H0 i o fun _ _ a' H'=>Q .normal a' H'):growAll P main lp Q l n e0 ds Φ H0 [o] i:=h
theorem growAll_get:∀(r:List Oper) (s:Nat),growAll P main lp Q l n e0 ds Φ H0 r s->(∀(i:Nat) (o:Oper),r[i]?=some o->i+1<r.length->growG P main lp Q l n e0 ds Φ H0 (s+i) o fun e H a' H'=>H.le H'/\∃v,a'=(act n e ds).put o.dst v/\Φ (s+i) v H') /\
  ∀o,r[r.length-1]?=some o->growG P main lp Q l n e0 ds Φ H0 (s+(r.length-1)) o fun _ _ a' H'=>Q .normal a' H'
 | [],_,_=>⟨fun i o hi=>by simp at hi,fun o hi=>by simp at hi⟩
 | [o],s,h=>⟨fun i o hi hl=>by simp at hl,fun o' ho=>by
   simp at ho
   subst ho
   exact h⟩
 | o::o'::r,s,h=>by
  have ih:=growAll_get (o'::r) (s+1) h.2
  refine ⟨fun i x hi hl=>?_,fun x hx=>?_⟩
  ·cases i with
   | zero=>
    simp only [List.getElem?_cons_zero,Option.some.injEq] at hi
    subst hi
    exact h.1
   | succ i=>
    have:=ih.1 i x (by simpa using hi) (by simpa using hl)
    rw [show s+(i+1)=s+1+i by omega]
    exact this
  ·have:=ih.2 x (by simpa using hx)
   rw [show s+((o::o'::r).length-1)=s+1+((o'::r).length-1) by simp;omega]
   exact this
theorem wpX_grow {id:Nat} (Φ:Nat->Value->Hp->Prop) (hm:P.follows .mixedOrders=true) (hok:growOK l n=true) (hst:∀k v H H',Φ k v H->H.le H'->Φ k v H')
  (h:growAll P main lp Q l n e0 ds Φ H0 l 0):wpX P main lp (.region id l.toArray true) Q (act n e0 ds) H0:=by
 have ok:=growOK_spec hok
 have hg:=growAll_get l 0 h
 refine Bvb (fun _=>True) hm (grow_any hst ok (fun i o hi hl=>by simpa using hg.1 i o hi hl) (fun o ho=>by simpa using hg.2 o ho) _ _ _ _ ?_ ?_ .start (.inl ⟨?_,Hp.le_refl _,e0,rfl,fun _ _=>rfl,fun k o t hk hd hl=>?_⟩))
 ·simp
 ·simp
 ·simp [Array.getD]
 ·exfalso
  by_cases hk2:k<l.length<;>simp [Array.getD,hk2] at hl
theorem wpX_gstmt {id:Nat} {y:Code} (Φ:Nat->Value->Hp->Prop) (hm:P.follows .mixedOrders=true) (hok:growOK l n=true) (hst:∀k v H H',Φ k v H->H.le H'->Φ k v H')
  (h:∀K:Act->Hp->Prop,(∀a' H',wpX P main lp y Q a' H'->K a' H')->growAll P main lp (only K) l n e0 ds Φ H0 l 0):wpX P main lp (.seq (.region id l.toArray true) y) Q (act n e0 ds) H0:=by
 refine Axn ?_
 refine Az3 (Q:=only fun a' H'=>wpX P main lp y Q a' H') (wpX_grow Φ hm hok hst (h _ fun _ _ h=>h)) fun e a H q=>?_
 cases e<;>first | exact q | exact q.elim
end
end Go.X
end
section
namespace Go.X
open Go
section
variable {P:Program} {main:Md} {lp:Option Nat} {Q:Exit->Act->Hp->Prop} {l:List Oper} {n:Nat} {e0:Nat->Value} {ds:List Deferred} {S:Hp->Prop} {ts:List Nat}
structure RestK where
 T:Nat->List Nat
 Φ:Nat->(Nat->Value)->Hp->Prop
 kb:List (Nat×Nat):=[]
 Ψ:Nat->Hp->Prop:=fun _ _=>True
 kc:List (Nat×Nat):=[]
variable {R:RestK} {L:Array Bool}
def res (T:List Nat) (e:Nat->Value):Nat->Value:=fun t=>if T.contains t then e t else undef
theorem res_same {T:List Nat} {e e':Nat->Value} (h:∀t∈T,e t=e' t):res T e=res T e':=by
 funext t
 unfold res
 split
 ·rename_i ht
  exact h t (by simpa using ht)
 ·rfl
def putE (e:Nat->Value) (d:Option Tmp) (v:Value):Nat->Value:=match d with
 | none=>e
 | some t=>upd e t v
theorem putE_ne {e:Nat->Value} {d:Option Tmp} {v:Value} {t:Tmp} (h:d≠some t):putE e d v t=e t:=by
 cases d with
 | none=>rfl
 | some t0=>show upd e t0 v t=e t;rw [Axf,if_neg fun e=>h (by rw [e])]
def depH (l:List Oper) (L:Array Bool) (kb:List (Nat×Nat)) (i k:Nat):Bool:=
 k != i&&(waitsFor l.toArray i).getD k false && !(L.getD k true)&&(List.range l.length).all fun j=> !(kb.contains (j,k))||j==i||j==k||(waitsFor l.toArray j).getD i false||(waitsFor l.toArray k).getD j false
def psiH (l:List Oper) (L:Array Bool) (kc:List (Nat×Nat)) (i j:Nat):Bool:=
 (List.range l.length).all fun s=> !(kc.contains (s,j))||s==i||L.getD s false||(waitsFor l.toArray s).getD i false
def nodH (l:List Oper) (L:Array Bool) (t:Nat):Bool:=(List.range l.length).all fun i=>L.getD i true||(match l[i]? with | none=>true | some o=>o.dst != some t)
def restG (P:Program) (main:Md) (lp:Option Nat) (Q:Exit->Act->Hp->Prop) (l:List Oper) (n:Nat) (e0:Nat->Value) (ds:List Deferred) (R:RestK) (S:Hp->Prop) (L:Array Bool) (i:Nat) (o:Oper) (K:(Nat->Value)->Hp->Act->Hp->Prop):Prop:=
 ∀e H,S H->(∀t,nodH l L t=true->e t=e0 t)->(∀k,depH l L R.kb i k=true->R.Φ k (res (R.T k) e) H)->(∀j,psiH l L R.kc i j=true->R.Ψ j H)->fine lp o=true/\opX P main lp o (act n e ds) H (K e H) Q
def keepH (R:RestK) (i:Nat) (H H':Hp):Prop:=(∀k f,(k != i && !(R.kb.contains (i,k)))=true->R.Φ k f H->R.Φ k f H')/\∀j,R.kc.contains (i,j)=false->R.Ψ j H->R.Ψ j H'
theorem keepH.refl (R:RestK) (i:Nat) (H:Hp):keepH R i H H:=⟨fun _ _ _ h=>h,fun _ _ h=>h⟩
def restOK (l:List Oper) (n:Nat) (L:Array Bool) (T:Nat->List Nat):Bool:=
 ((List.range l.length).all fun k=>L.getD k true||(T k).all fun t=>nodH l L t||(List.range l.length).any fun j=>(j==k||(waitsFor l.toArray k).getD j false)&&(match l[j]? with | none=>false | some o=>o.dst==some t))&&L.size==l.length&&(l.length != 0) && !(L.getD (l.length-1) true)&&(List.range l.length).all fun i=>L.getD i true||match l[i]? with
 | none=>true
 | some o=>o.guard.isNone&&(match o.dst with | none=>true | some t=>decide (t<n))&&(o.after.all fun e=> !(Region.binds .any e)||decide (e.on<i))&&(i+1==l.length||(waitsFor l.toArray (l.length-1)).getD i false) &&
  (List.range l.length).all fun k=>k==i||(match l[k]? with | none=>true | some o'=>o.dst.isNone||o'.dst != o.dst)
structure RestOK (l:List Oper) (n:Nat) (L:Array Bool) (T:Nat->List Nat):Prop where
 see:∀k,k<l.length->L.getD k true=false->∀t∈T k,nodH l L t=true∨∃(j:Nat) (o:Oper),(j=k∨Dep l.toArray k j)/\l[j]?=some o/\o.dst=some t
 size:L.size=l.length
 ne:l.length≠0
 lastL:L.getD (l.length-1) true=false
 guard:∀(i:Nat) (o:Oper),L.getD i true=false->l[i]?=some o->o.guard=none
 dst:∀(i:Nat) (o:Oper) (t:Tmp),L.getD i true=false->l[i]?=some o->o.dst=some t->t<n
 aft:∀(i:Nat) (o:Oper),L.getD i true=false->l[i]?=some o->∀e∈o.after,Region.binds .any e=true->e.on<i
 last:∀i,L.getD i true=false->i+1<l.length->(waitsFor l.toArray (l.length-1)).getD i false=true
 apart:∀(i k:Nat) (o o':Oper) (t:Tmp),L.getD i true=false->l[i]?=some o->l[k]?=some o'->k≠i->o.dst=some t->o'.dst≠some t
theorem restOK_spec {T:Nat->List Nat} (h:restOK l n L T=true):RestOK l n L T:=by
 unfold restOK at h
 simp only [Bool.and_eq_true,bne_iff_ne,ne_eq,beq_iff_eq,Bool.not_eq_true'] at h
 obtain ⟨⟨⟨⟨hT,hs⟩,h0⟩,hl⟩,h⟩:=h
 have h1:∀(i:Nat) (o:Oper),L.getD i true=false->l[i]?=some o->_:=fun i o hL hi=>by
  have:=List.all_eq_true.1 h i (List.mem_range.2 (List.getElem?_eq_some_iff.1 hi).1)
  rw [hi,hL] at this
  simp only [Bool.false_or,Bool.and_eq_true] at this
  exact this
 refine ⟨fun k hk hL t ht=>?_,hs,h0,hl,fun i o hL hi=>by simpa using (h1 i o hL hi).1.1.1.1,fun i o t hL hi hd=>?_,fun i o hL hi e he hb=>?_,fun i hL hi=>?_,fun i k o o' t hL hi hk hne hd hd'=>?_⟩
 ·have:=List.all_eq_true.1 hT k (List.mem_range.2 hk)
  rw [hL,Bool.false_or] at this
  have:=List.all_eq_true.1 this t ht
  rw [Bool.or_eq_true] at this
  refine this.imp id fun h=>?_
  obtain ⟨j,hj,h⟩:=List.any_eq_true.1 h
  rw [Bool.and_eq_true,Bool.or_eq_true] at h
  cases ho:l[j]? with
  | none=>rw [ho] at h;cases h.2
  | some o=>
   rw [ho] at h
   refine ⟨j,o,?_,ho,by simpa using h.2⟩
   rcases h.1 with h | h
   ·exact .inl (by simpa using h)
   ·exact (Bq8 h).imp (fun h=>h) fun h=>h
 ·have:=(h1 i o hL hi).1.1.1.2
  rw [hd] at this
  simpa using this
 ·have:=(h1 i o hL hi).1.1.2
  rw [Array.all_eq_true_iff_forall_mem] at this
  have:=this e he
  rw [hb] at this
  simpa using this
 ·have:=(h1 i _ hL (List.getElem?_eq_getElem (by omega))).1.2
  simp only [Bool.or_eq_true,beq_iff_eq] at this
  exact this.resolve_left (by omega)
 ·have:=List.all_eq_true.1 (h1 i o hL hi).2 k (List.mem_range.2 (List.getElem?_eq_some_iff.1 hk).1)
  rw [hk,hd] at this
  simp [hne,hd'] at this
theorem Closed.dep {ops:Array Oper} {listed:Array Bool} (hc:Closed ops listed) {j i:Nat} (hj:listed.getD j false=true) (h:Dep ops j i):listed.getD i false=true:=by
 induction h with
 | edge ho he hb=>exact hc _ _ ho hj _ he hb
 | more h ho he hb ih=>exact hc _ _ ho ih _ he hb
structure RestI (l:List Oper) (n:Nat) (e0:Nat->Value) (ds:List Deferred) (R:RestK) (S:Hp->Prop) (L listed:Array Bool) (a:Act) (H:Hp):Prop where
 s:S H
 sub:∀k,L.getD k true=true->k<l.length->listed.getD k false=true
 psi:∀j,(∀s,R.kc.contains (s,j)=true->listed.getD s false=true->L.getD s false=true)->R.Ψ j H
 env:∃e,a=act n e ds/\(∀t,nodH l L t=true->e t=e0 t)/\∀k,k<l.length->L.getD k true=false->listed.getD k false=true ->
  (∀j,R.kb.contains (j,k)=true->listed.getD j false=true->j=k∨Dep l.toArray k j)->R.Φ k (res (R.T k) e) H
theorem restG.num {i:Nat} {o:Oper} {K:(Nat->Value)->Hp->Act->Hp->Prop} (h:restG P main lp Q l n e0 ds R S L i o K) (hi:l[i]?=some o) (hg:o.guard=none) {listed:Array Bool} (hc:Closed l.toArray listed) (hr:i∈Region.ready .any l.toArray listed) (hsz:listed.size=l.length) {e:Nat->Value} {H:Hp} (hS:S H) (he:∀t,nodH l L t=true->e t=e0 t)
  (hf:∀k,k<l.length->L.getD k true=false->listed.getD k false=true->(∀j,R.kb.contains (j,k)=true->listed.getD j false=true->j=k∨Dep l.toArray k j)->R.Φ k (res (R.T k) e) H)
  (hp:∀j,(∀s,R.kc.contains (s,j)=true->listed.getD s false=true->L.getD s false=true)->R.Ψ j H) :
  numX P main lp l.toArray i Q (K e H) (act n e ds) H:=by
 rw [Av7]
 have hw:Region.wanted o (yielded l.toArray (act n e ds).tmps)=true:=by unfold Region.wanted;rw [hg]
 simp only [List.getElem?_toArray,hi,hw,if_true]
 have hiu:listed.getD i false=false:=by
  have h0:=(mem_ready.1 hr).1
  rcases Nat.lt_or_ge i listed.size with h' | h'
  ·simpa [Array.getD,h'] using h0
  ·simp [Array.getD,Nat.not_lt.2 h']
 have hlen:∀j,listed.getD j false=true->j<l.length:=fun j hjl=>by
  rcases Nat.lt_or_ge j l.length with h' | h'
  ·exact h'
  ·simp [Array.getD,hsz,Nat.not_lt.2 h'] at hjl
 refine h e H hS he (fun k hk=>?_) fun j hj=>hp j fun q hq hql=>?_
 rotate_left
 ·have:=List.all_eq_true.1 hj q (List.mem_range.2 (hlen q hql))
  simp only [Bool.or_eq_true,Bool.not_eq_true',beq_iff_eq] at this
  rcases this with ((h | h) | h) | h
  ·rw [hq] at h;cases h
  ·subst h;rw [hiu] at hql;cases hql
  ·exact h
  ·rcases Bq8 h with rfl | h
   ·rw [hiu] at hql;cases hql
   ·rw [hc.dep hql h] at hiu;cases hiu
 unfold depH at hk
 simp only [Bool.and_eq_true,Bool.not_eq_true',bne_iff_ne,ne_eq] at hk
 obtain ⟨⟨⟨hki,hw⟩,hL⟩,hall⟩:=hk
 have hkl:=((Bq8 hw).resolve_left hki).listed hc hr
 ·refine hf k (hlen k hkl) hL hkl fun j hj hjl=>?_
  have:=List.all_eq_true.1 hall j (List.mem_range.2 (hlen j hjl))
  simp only [Bool.or_eq_true,Bool.not_eq_true',beq_iff_eq] at this
  rcases this with (((h | h) | h) | h) | h
  ·rw [hj] at h;cases h
  ·subst h;rw [hiu] at hjl;cases hjl
  ·exact .inl h
  ·rcases Bq8 h with rfl | h
   ·rw [hiu] at hjl;cases hjl
   ·rw [hc.dep hjl h] at hiu;cases hiu
  ·exact (Bq8 h).imp (fun h=>h) fun h=>h
theorem rest_any (ok:RestOK l n L R.T) (hts:l.length-1∈ts)
  (hs:∀(i:Nat) (o:Oper),L.getD i true=false->l[i]?=some o->i+1<l.length->restG P main lp Q l n e0 ds R S L i o fun e H a' H'=>S H'/\(∃v,a'=(act n e ds).put o.dst v/\R.Φ i (res (R.T i) (putE e o.dst v)) H')/\keepH R i H H')
  (hl:∀o,l[l.length-1]?=some o->restG P main lp Q l n e0 ds R S L (l.length-1) o fun _ _ a' H'=>Q .normal a' H') :
  ∀(fuel:Nat) (listed:Array Bool) (a:Act) (H:Hp),listed.size=l.length->listed.toList.count false<=fuel->Closed l.toArray listed ->
   ((listed.getD (l.length-1) false=false/\RestI l n e0 ds R S L listed a H)∨((∀k,k<l.length->listed.getD k false=true)/\Q .normal a H))->anyV P main lp l.toArray Q S ts fuel listed a H:=by
 have hall:∀listed:Array Bool,(∀k,k<l.length->listed.getD k false=true)->listed.size=l.length->Region.ready .any l.toArray listed=[]:=fun listed h hsz=>by
  cases hr:Region.ready .any l.toArray listed with
  | nil=>rfl
  | cons i r=>
   obtain ⟨h1,o,ho,_⟩:=mem_ready.1 (show i∈Region.ready .any l.toArray listed by rw [hr];exact List.mem_cons_self)
   rw [List.getElem?_toArray] at ho
   have hlt:=(List.getElem?_eq_some_iff.1 ho).1
   have:=h i hlt
   simp [Array.getD,hsz,hlt] at h1 this
   rw [this] at h1
   cases h1
 have hlive:∀listed:Array Bool,listed.size=l.length->(∀k,L.getD k true=true->k<l.length->listed.getD k false=true)->listed.getD (l.length-1) false=false->Region.ready .any l.toArray listed≠[]:=fun listed hsz hsub hlast=>by
  have key:∀m i,i<m->i<l.length->listed.getD i false=false->∃j,j∈Region.ready .any l.toArray listed:=by
   intro m
   induction m with
   | zero=>intro i hi;omega
   | succ m ih=>
    intro i hi hil hun
    by_cases hex:∃j,j<i/\listed.getD j false=false
    ·obtain ⟨j,hj,hju⟩:=hex
     exact ih j (by omega) (by omega) hju
    ·have hLi:L.getD i true=false:=by
      cases hq:L.getD i true with
      | false=>rfl
      | true=>rw [hsub i hq hil] at hun;cases hun
     refine ⟨i,mem_ready.2 ⟨?_,l[i],by simp [hil],fun e he hb=>?_⟩⟩
     ·simpa [Array.getD,hsz,hil] using hun
     ·have:=ok.aft i _ hLi (List.getElem?_eq_getElem hil) e he hb
      cases hq:listed.getD e.on false with
      | true=>rfl
      | false=>exact absurd ⟨_,this,hq⟩ hex
  obtain ⟨j,hj⟩:=key l.length (l.length-1) (by have:=ok.ne;omega) (by have:=ok.ne;omega) hlast
  intro h0
  rw [h0] at hj
  cases hj
 intro fuel
 induction fuel with
 | zero=>
  intro listed a H hsz hcnt hcl hI
  rcases hI with ⟨hlast,_⟩ | ⟨h,hq⟩
  ·exfalso
   have h0:l.length-1<listed.toList.length:=by have:=ok.ne;simp [hsz];omega
   have h1:false∈listed.toList:=by
    have h2:listed.toList[l.length-1]=false:=by
     have h3:l.length-1<listed.size:=by simpa using h0
     simpa [Array.getD,h3] using hlast
    rw [<-h2]
    exact List.getElem_mem h0
   have:=List.count_pos_iff.2 h1
   omega
  ·exact ⟨hall listed h hsz,hq⟩
 | succ fuel ih=>
  intro listed a H hsz hcnt hcl hI
  rcases hI with ⟨hlast,hG⟩ | ⟨h,hq⟩
  ·refine ⟨fun h0=>absurd h0 (hlive listed hsz hG.sub hlast),fun i hi=>?_⟩
   obtain ⟨h1,o,ho,hdeps⟩:=mem_ready.1 hi
   rw [List.getElem?_toArray] at ho
   have hlt:=(List.getElem?_eq_some_iff.1 ho).1
   have hiu:listed.getD i false=false:=by simpa [Array.getD,hsz,hlt] using h1
   have hLi:L.getD i true=false:=by
    cases hq:L.getD i true with
    | false=>rfl
    | true=>rw [hG.sub i hq hlt] at hiu;cases hiu
   have hsz':(listed.setIfInBounds i true).size=l.length:=by simp [hsz]
   have hcnt':(listed.setIfInBounds i true).toList.count false<=fuel:=by
    have h2:i<listed.toList.length:=by simpa [hsz] using hlt
    have h3:listed.toList[i]=false:=by
     have h4:i<listed.size:=by simpa using h2
     simpa [Array.getD,h4] using hiu
    rw [Array.toList_setIfInBounds,List.count_set h2,h3]
    simp only [beq_self_eq_true,if_true]
    have:=List.count_pos_iff.2 (show false∈listed.toList by rw [<-h3];exact List.getElem_mem h2)
    simp only [Bool.true_eq_false,beq_iff_eq,if_false,Nat.add_zero]
    omega
   obtain ⟨hS,hsub,hps,e,rfl,he,hf⟩:=hG
   by_cases hil:i+1<l.length
   ·refine Axx (fun a' H' h'=>?_) ((hs i o hLi ho hil).num ho (ok.guard i o hLi ho) hcl hi hsz hS he hf hps)
    obtain ⟨hS',⟨v,rfl,hv⟩,hkp,hkq⟩:=h'
    refine ⟨.inr fun _=>hS',ih _ _ H' hsz' hcnt' (hcl.set hi) (.inl ⟨?_,hS',fun k hk hkl=>getD_set_true (hsub k hk hkl),fun j hj=>?_,?_⟩)⟩
    ·rw [getD_set_ne false (by omega)]
     exact hlast
    ·refine hkq j ?_ (hps j fun q hq hql=>hj q hq (getD_set_true hql))
     cases hq:R.kc.contains (i,j) with
     | false=>rfl
     | true=>
      have:=hj i hq (by simp [Array.getD,hsz,hlt])
      have h0:i<L.size:=by rw [ok.size];exact hlt
      simp [Array.getD,h0] at this hLi
      rw [this] at hLi
      cases hLi
    ·have hsame:∀k,k≠i->k<l.length->L.getD k true=false->listed.getD k false=true->∀t∈R.T k,o.dst≠some t:=fun k hki hk hLk hlk t ht hd=>by
      rcases ok.see k hk hLk t ht with h | ⟨j,oj,hj,hoj,hdj⟩
      ·have:=List.all_eq_true.1 h i (List.mem_range.2 hlt)
       rw [ho,hLi] at this
       simp [hd] at this
      ·have hjl:listed.getD j false=true:=by
        rcases hj with rfl | hj
        ·exact hlk
        ·exact hcl.dep hlk hj
       have hji:j≠i:=fun e=>by rw [e,hiu] at hjl;cases hjl
       exact ok.apart i j o oj t hLi ho hoj hji hd hdj
     have key:∀k,k≠i->k<l.length->L.getD k true=false->(listed.setIfInBounds i true).getD k false=true ->
       (∀j,R.kb.contains (j,k)=true->(listed.setIfInBounds i true).getD j false=true->j=k∨Dep l.toArray k j)->R.Φ k (res (R.T k) (putE e o.dst v)) H':=by
      intro k hki hk hLk hlk hj
      rw [getD_set_ne false (Ne.symm hki)] at hlk
      rw [res_same (e':=e) fun t ht=>putE_ne (hsame k hki hk hLk hlk t ht)]
      refine hkp k _ ?_ (hf k hk hLk hlk fun j h1 h2=>hj j h1 (getD_set_true h2))
      rw [Bool.and_eq_true,bne_iff_ne,Bool.not_eq_true']
      refine ⟨hki,?_⟩
      cases hq:R.kb.contains (i,k) with
      | false=>rfl
      | true=>
       exfalso
       have hil':(listed.setIfInBounds i true).getD i false=true:=by simp [Array.getD,hsz,hlt]
       rcases hj i hq hil' with h | h
       ·exact hki h.symm
       ·rw [hcl.dep hlk h] at hiu;cases hiu
     have hput:(act n e ds).put o.dst v=act n (putE e o.dst v) ds:=by
      unfold putE
      cases hd:o.dst with
      | none=>rfl
      | some t0=>exact Aq3 (ok.dst i o t0 hLi ho hd)
     refine ⟨putE e o.dst v,hput,fun t ht=>?_,fun k hk hLk hlk hj=>?_⟩
     ·have hne:o.dst≠some t:=fun hd=>by
       have:=List.all_eq_true.1 ht i (List.mem_range.2 hlt)
       rw [ho,hLi] at this
       simp [hd] at this
      rw [putE_ne hne]
      exact he t ht
     ·by_cases hki:k=i
      ·subst hki
       exact hv
      ·exact key k hki hk hLk hlk hj
   ·obtain rfl:i=l.length-1:=by omega
    refine Axx (fun a' H' h'=>⟨.inl hts,ih _ a' H' hsz' hcnt' (hcl.set hi) (.inr ⟨fun k hk=>?_,h'⟩)⟩) ((hl o ho).num ho (ok.guard _ o hLi ho) hcl hi hsz hS he hf hps)
    by_cases hkl:k=l.length-1
    ·subst hkl
     simp [Array.getD,hsz,hk]
    ·rw [getD_set_ne false (Ne.symm hkl)]
     cases hq:L.getD k true with
     | true=>exact hsub k hq hk
     | false=>exact ((Bq8 (ok.last k hq (by omega))).resolve_left hkl).listed hcl hi
  ·refine ⟨fun _=>hq,fun i hi=>?_⟩
   rw [hall listed h hsz] at hi
   cases hi
def restAll (P:Program) (main:Md) (lp:Option Nat) (Q:Exit->Act->Hp->Prop) (l:List Oper) (n:Nat) (e0:Nat->Value) (ds:List Deferred) (R:RestK) (S:Hp->Prop) (L:Array Bool):List Oper->Nat->Prop
 | [],_=>True
 | [o],i=>restG P main lp Q l n e0 ds R S L i o fun _ _ a' H'=>Q .normal a' H'
 | o::o'::r,i=>(L.getD i true=false->restG P main lp Q l n e0 ds R S L i o (fun e H a' H'=>S H'/\(∃v,a'=(act n e ds).put o.dst v/\R.Φ i (res (R.T i) (putE e o.dst v)) H')/\keepH R i H H'))/\restAll P main lp Q l n e0 ds R S L (o'::r) (i+1)
theorem restAll_skip {o o':Oper} {r:List Oper} {i:Nat} (hL:L.getD i true=true) (h':restAll P main lp Q l n e0 ds R S L (o'::r) (i+1)):restAll P main lp Q l n e0 ds R S L (o::o'::r) i:=⟨fun h=>(by rw [hL] at h;cases h),h'⟩
theorem restAll_cons {o o':Oper} {r:List Oper} {i:Nat} (h:restG P main lp Q l n e0 ds R S L i o (fun e H a' H'=>S H'/\(∃v,a'=(act n e ds).put o.dst v/\R.Φ i (res (R.T i) (putE e o.dst v)) H')/\keepH R i H H')) (h':restAll P main lp Q l n e0 ds R S L (o'::r) (i+1)):restAll P main lp Q l n e0 ds R S L (o::o'::r) i:=⟨fun _=>h,h'⟩
theorem restAll_one {o:Oper} {i:Nat} (h:restG P main lp Q l n e0 ds R S L i o fun _ _ a' H'=>Q .normal a' H'):restAll P main lp Q l n e0 ds R S L [o] i:=h
theorem restAll_get:∀(r:List Oper) (s:Nat),restAll P main lp Q l n e0 ds R S L r s->(∀(i:Nat) (o:Oper),L.getD (s+i) true=false->r[i]?=some o->i+1<r.length->restG P main lp Q l n e0 ds R S L (s+i) o fun e H a' H'=>S H'/\(∃v,a'=(act n e ds).put o.dst v/\R.Φ (s+i) (res (R.T (s+i)) (putE e o.dst v)) H')/\keepH R (s+i) H H') /\
  ∀o,r[r.length-1]?=some o->restG P main lp Q l n e0 ds R S L (s+(r.length-1)) o fun _ _ a' H'=>Q .normal a' H'
 | [],_,_=>⟨fun i o _ hi=>by simp at hi,fun o hi=>by simp at hi⟩
 | [o],s,h=>⟨fun i o _ hi hl=>by simp at hl,fun o' ho=>by
   simp at ho
   subst ho
   exact h⟩
 | o::o'::r,s,h=>by
  have ih:=restAll_get (o'::r) (s+1) h.2
  refine ⟨fun i x hL hi hl=>?_,fun x hx=>?_⟩
  ·cases i with
   | zero=>
    simp only [List.getElem?_cons_zero,Option.some.injEq] at hi
    subst hi
    exact h.1 hL
   | succ i=>
    have:=ih.1 i x (by rw [show s+1+i=s+(i+1) by omega];exact hL) (by simpa using hi) (by simpa using hl)
    rw [show s+(i+1)=s+1+i by omega]
    exact this
  ·have:=ih.2 x (by simpa using hx)
   rw [show s+((o::o'::r).length-1)=s+1+((o'::r).length-1) by simp;omega]
   exact this
theorem planZ_rest {ops:List Oper} {e:Nat->Value} {H:Hp} (hO:Ayr l ops) (R:RestK) (hok:restOK l n L R.T=true) (hts:l.length-1∈ts) (hS:S H) (hΨ:∀j,R.Ψ j H)
  (h:restAll P main lp Q l n e ds R S L l 0):Azh P main lp ops.toArray Q S ts (.rest L) (act n e ds) H:=by
 obtain rfl:ops=l:=List.ext_getElem? hO.nth
 have ok:=restOK_spec hok
 have hg:=restAll_get ops 0 h
 intro hcl fuel hfu
 refine rest_any (R:=R) (L:=L) (e0:=e) (n:=n) (ds:=ds) ok hts (fun i o hL hi hl=>by simpa using hg.1 i o (by simpa using hL) hi hl) (fun o ho=>by simpa using hg.2 o ho) fuel L _ H ok.size hfu hcl (.inl ⟨?_,hS,fun k hk hkl=>?_,fun j _=>hΨ j,e,rfl,fun _ _=>rfl,fun k hkl hL hl _=>?_⟩)
 ·have:=ok.lastL
  have h0:ops.length-1<L.size:=by rw [ok.size];have:=ok.ne;omega
  simpa [Array.getD,h0] using this
 ·have h0:k<L.size:=by rw [ok.size];exact hkl
  simpa [Array.getD,h0] using hk
 ·exfalso
  have h0:k<L.size:=by rw [ok.size];exact hkl
  simp [Array.getD,h0] at hL hl
  rw [hL] at hl
  cases hl
end
end Go.X
end
