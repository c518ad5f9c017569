/- Texts Data Kit Grow Calls Haul Office Maps Days Auto Scope LdO Check Ops2 Meths Begin Slices Rank Both Look. -/
import Derived.Test.YtaehjjbekjglkaaGreatDoorJ10
set_option linter.defProp false
set_option linter.unusedSimpArgs false
set_option linter.unusedVariables false
set_option maxRecDepth 100000
set_option maxHeartbeats 2000000
section
namespace Go.Proofs.YtaehjjbekjglkaaGreatDoor
open Go Go.X Go.Proofs.Tryz
def Cwp:=aN @Dv5 (aN @Bqh (aN @Dyp @Dw2))
def SlI (H:Hp) (v:Value) (xs:List Int):Prop:=
 ∃(a:Option Addr) (cap:Nat),v=.slice a xs.length cap/\xs.length<=cap/\∀(i:Nat) (x:Int),xs[i]?=some x->∃(b o:Nat) (p:Bool) (c:Array Value) (fr:Nat×Nat),a=some ⟨b,o,none⟩/\H b=some (p,.cells c 3 fr)/\c[o+i]?=some (.int .i64 x)
theorem SlI.le {H H':Hp} {v:Value} {xs:List Int} (h:SlI H v xs) (hl:H.le H'):SlI H' v xs:=by
 obtain ⟨a,cap,hv,hc,h⟩:=h
 refine ⟨a,cap,hv,hc,fun i x hi=>?_⟩
 obtain ⟨b,o,p,c,fr,ha,hb,hx⟩:=h i x hi
 exact ⟨b,o,p,c,fr,ha,hl _ _ hb,hx⟩
theorem SlI.nil (H:Hp) (a:Option Addr) (cap:Nat):SlI H (.slice a 0 cap) []:=⟨a,cap,rfl,Nat.zero_le _,fun i x hi=>by simp at hi⟩
theorem SlI.cons {H:Hp} {v:Value} {xs:List Int} (h:SlI H v xs) (hx:xs≠[]):∃(b o cap:Nat) (p:Bool) (c:Array Value) (fr:Nat×Nat),v=.slice (some ⟨b,o,none⟩) xs.length cap/\xs.length<=cap/\H b=some (p,.cells c 3 fr)/\∀(i:Nat) (x:Int),xs[i]?=some x->c[o+i]?=some (.int .i64 x):=by
 obtain ⟨a,cap,hv,hc,h⟩:=h
 cases xs with
 | nil=>exact absurd rfl hx
 | cons y ys=>
  obtain ⟨b,o,p,c,fr,rfl,hb,_⟩:=h 0 y rfl
  refine ⟨b,o,cap,p,c,fr,hv,hc,hb,fun i x hi=>?_⟩
  obtain ⟨b',o',p',c',fr',ha,hb',hx'⟩:=h i x hi
  simp only [Option.some.injEq,Addr.mk.injEq] at ha
  obtain ⟨rfl,rfl,_⟩:=ha
  rw [hb] at hb'
  simp only [Option.some.injEq,Prod.mk.injEq,Obj.cells.injEq] at hb'
  obtain ⟨_,rfl,_⟩:=hb'
  exact hx'
def RdI (H:Hp) (v:Value) (xs:List Int):Prop:=
 ∃a cap,v=.slice a xs.length cap/\xs.length<=cap/\∀(i:Nat) (x:Int),xs[i]?=some x->∃b o p c e fr,a=some ⟨b,o,none⟩/\H b=some (p,.cells c e fr)/\c[o+i]?=some (.int .i64 x)
theorem RdI.le {H H':Hp} {v:Value} {xs:List Int} (h:RdI H v xs) (hl:H.le H'):RdI H' v xs:=by
 obtain ⟨a,cap,h1,h2,h3⟩:=h
 exact ⟨a,cap,h1,h2,fun i r hr=>by
  obtain ⟨b,o,p,c,e,fr,g1,g2,g3⟩:=h3 i r hr
  exact ⟨b,o,p,c,e,fr,g1,hl _ _ g2,g3⟩⟩
theorem SlI.rd {H:Hp} {v:Value} {xs:List Int} (h:SlI H v xs):RdI H v xs:=by
 obtain ⟨a,cap,h1,h2,h3⟩:=h
 exact ⟨a,cap,h1,h2,fun i r hr=>by
  obtain ⟨b,o,p,c,fr,g⟩:=h3 i r hr
  exact ⟨b,o,p,c,_,fr,g⟩⟩
theorem RdI.get {H:Hp} {a:Option Addr} {n cap:Nat} {xs:List Int} (h:RdI H (.slice a n cap) xs) {i:Nat} {x:Int} (hx:xs[i]?=some x) :
  ∃b o p c e fr,a=some ⟨b,o,none⟩/\H b=some (p,.cells c e fr)/\c[o+i]?=some (.int .i64 x):=by
 obtain ⟨a',cap',h1,_,h3⟩:=h
 simp only [Value.slice.injEq] at h1
 obtain ⟨rfl,_,_⟩:=h1
 exact h3 i x hx
theorem RdI.form {H:Hp} {v:Value} {xs:List Int} (h:RdI H v xs):∃a cap,v=.slice a xs.length cap/\xs.length<=cap:=by
 obtain ⟨a,cap,h1,h2,_⟩:=h
 exact ⟨a,cap,h1,h2⟩
def ints (xs:List Int):List Value:=xs.map (Value.int .i64)
theorem Aj6 {xs:List Int} {i:Nat} {x:Int} (h:xs[i]?=some x):(ints xs)[i]?=some (.int .i64 x):=by simp [ints,h]
theorem Cxs (xs ys:List Int):ints (xs++ys)=ints xs++ints ys:=by simp [ints]
theorem Aqz (xs:List Int):(ints xs).length=xs.length:=by simp [ints]
theorem Bxm (xs:List Int):∀u∈ints xs,one u=true:=fun u hu=>by
 simp only [ints,List.mem_map] at hu
 obtain ⟨x,_,rfl⟩:=hu
 rfl
theorem Bxw {H₀ H:Hp} {v:Value} {n:Nat} {xs:List Int} (hrow:Aju H₀ H v 3 1 n (ints xs)) {Hx:Hp} (hx:H.le Hx) {g o m cap:Nat} {ys:List Int} (hm:ys.length=m)
  (hg:H₀ g=none->H g=none) (hys:∀(j:Nat) (y:Int),ys[j]?=some y->Hx.cell ⟨g,o+j,none⟩=some (.int .i64 y)) (hn:n+m<=1073741824)
  (ty:TypeId) (cb:Array Bool) (K:Next->Hp->Prop) (E:Value->Hp->Prop)
  (h:∀v' H' H'',Aju H₀ H' v' 3 1 (n+m) (ints (xs++ys))->H'.le H''->K (.value v') H'') :
  wpS Tryz.prog (builtin .append #[23,23] ty cb #[v,.slice (some ⟨g,o,none⟩) m cap]) Hx K E:=by
 refine Ak6 underlying23 sizeOf3 zeroValue3 rfl typeInfo3 (by decide) (by decide) hrow hx (news:=ints ys) (by rw [Aqz,hm,Nat.mul_one]) hg (fun j u hj=>?_) (Bxm ys) hn ty cb K E (fun v' H' H'' h1 h2=>h v' H' H'' (by rw [Cxs];exact h1) h2)
 simp only [ints,List.getElem?_map,Option.map_eq_some_iff] at hj
 obtain ⟨y,hy,rfl⟩:=hj
 exact hys j y hy
theorem Byr (m:Md) (H:Hp) (b k:Nat) (v:Value) (xs:List Int) (hv:SlI H v xs) (hne:xs≠[]) (hl:xs.length<=1000000) (hT:TinI H b (k+1)) :
  FnX Tryz.prog m 96 #[.pointer (some ⟨b,0,none⟩),v] H fun e H'=>∃r:Int,r∈xs/\e=.returned (.int .i64 r)/\∃o,H'=H.set b o/\TinI H' b k:=by
 have hpos:0<xs.length:=List.length_pos_iff.2 hne
 obtain ⟨sb,so,cap,p,c,fr,rfl,_,hsb,hc⟩:=hv.cons hne
 have hbn:sb≠b:=fun e=>by
  obtain ⟨_,_,_,_,_,hb,_⟩:=hT
  rw [e,hb] at hsb
  cases hsb
 refine Aqn func96 rfl ntmps96 (by simp) ?_
 (refine @unH _ ?_;refine z1 Cwp ?_)
 (refine @unH _ ?_;refine z8 Cwp ?_;(try clear hK K);intro K hK _)
 refine (Awf m H b k ((xs.length:Int)-1) (by omega) hT).runs.mono ?_
 rintro _ _ ⟨r,hr0,hr1,rfl,o,rfl,hT'⟩
 have hr2:r<xs.length:=by omega
 have hrn:r.toNat<xs.length:=by omega
 have hx:=hc r.toNat xs[r.toNat] (List.getElem?_eq_getElem hrn)
 have hx':c[so+r.toNat*1]?=some (.int .i64 xs[r.toNat]):=by simpa using hx
 have hsb':(H.set b o) sb=some (p,.cells c 3 fr):=by rw [Axp,if_neg hbn];exact hsb
 simp -implicitDefEqProofs (disch:=first | omega | (simp only [qd]<;>omega)) only [xq,↓xp,qc,Nat.reduceAdd,List.range,List.range.loop,fine,Nat.reduceEqDiff,↓reduceIte,yielded,reduceCtorEq,Nat.reduceLT,Nat.reduceMul,Nat.reduceSub,one,Nat.reduceLeDiff,Aqg,Cwp,cell_of hsb',hx',exists_eq_left']
 refine hK _ _ ?_;clear hK K
 (refine @unH _ ?_;refine z9 results96 ?_)
 exact ⟨_,List.getElem_mem hrn,rfl,o,rfl,hT'⟩
def Aw7:=aN @Dy4 (aN @Bqh (aN @Dyp (aN @Dw2 @Dy5)))
def Lex (b:Option Nat) (H H':Hp):Prop:=∀x v,H x=some v->∃v',H' x=some v'/\(b≠some x->v'=v)
theorem Lex.refl {b:Option Nat} {H:Hp}:Lex b H H:=fun _ v h=>⟨v,h,fun _=>rfl⟩
theorem Lex.trans {b:Option Nat} {H H' H'':Hp} (h:Lex b H H') (h':Lex b H' H''):Lex b H H'':=fun x v hx=>by
 obtain ⟨v1,h1,e1⟩:=h x v hx
 obtain ⟨v2,h2,e2⟩:=h' x v1 h1
 exact ⟨v2,h2,fun hn=>(e2 hn).trans (e1 hn)⟩
theorem Lex.hold {b:Option Nat} {b':Nat} {H H':Hp} {v:Bool×Obj} (h:Lex b H H') (hx:H b'=some v) (hn:b≠some b'):H' b'=some v:=by
 obtain ⟨v',h',e⟩:=h _ _ hx
 rw [h',e hn]
theorem Lex.keeps {b b':Nat} {H H':Hp} {v:Bool×Obj} (h:Lex (some b) H H') (hx:H b'=some v) (hn:b'≠b):H' b'=some v:=h.hold hx (fun e=>hn (Option.some.inj e).symm)
theorem Lex.of {b:Option Nat} {H H':Hp} (h:H.le H'):Lex b H H':=fun x v hx=>⟨v,h _ _ hx,fun _=>rfl⟩
theorem Lex.toLe {H H':Hp} (h:Lex none H H'):H.le H':=fun _ _ hx=>h.hold hx (by simp)
theorem Lex.gone {b:Option Nat} {H H':Hp} (h:Lex b H H') {x:Nat} (hx:H' x=none):H x=none:=by
 cases e:H x with
 | none=>rfl
 | some v=>obtain ⟨v',h',_⟩:=h x v e;rw [hx] at h';cases h'
theorem Lex.set {b:Nat} {H H':Hp} {o:Obj} (h:Lex (some b) H H'):Lex (some b) H (H'.set b o):=fun x v hx=>by
 obtain ⟨v',h',e⟩:=h x v hx
 by_cases hxb:x=b
 ·exact ⟨_,by rw [Axp,if_pos hxb],fun hn=>absurd (by rw [hxb]) hn⟩
 ·exact ⟨v',by rw [Axp,if_neg hxb];exact h',e⟩
theorem Lex.le {b:Option Nat} {H H' H'':Hp} (h:Lex b H H') (hl:H'.le H''):Lex b H H'':=h.trans (Lex.of hl)
theorem Lex.new {b:Option Nat} {b':Nat} {H H':Hp} {o:Obj} (h:Lex b H H') (hb:H' b'=none):Lex b H (H'.set b' o):=h.le (Hp.le_set hb)
theorem Lex.own {b:Option Nat} {b':Nat} {H H':Hp} {o:Obj} (h:Lex b H H') (hb:H b'=none):Lex b H (H'.set b' o):=fun x v hx=>by
 obtain ⟨v',h',e⟩:=h x v hx
 exact ⟨v',by rw [Axp,if_neg (fun e=>by rw [e,hb] at hx;cases hx)];exact h',e⟩
theorem SlI.lex {H H':Hp} {v:Value} {xs:List Int} (h:SlI H v xs) {b k:Nat} (hl:Lex (some b) H H') (hT:TinI H b k):SlI H' v xs:=by
 obtain ⟨a,cap,hv,hc,h⟩:=h
 refine ⟨a,cap,hv,hc,fun i x hi=>?_⟩
 obtain ⟨b',o,p,c,fr,ha,hb,hx⟩:=h i x hi
 refine ⟨b',o,p,c,fr,ha,hl.keeps hb (fun e=>?_),hx⟩
 obtain ⟨_,_,_,_,_,hb2,_⟩:=hT
 rw [e,hb2] at hb;cases hb
theorem TinI.ne {H:Hp} {b b' k:Nat} (h:TinI H b k) (hb:H b'=none):b'≠b:=fun e=>by
 obtain ⟨_,_,_,_,_,hb2,_⟩:=h
 rw [e,hb2] at hb;cases hb
theorem Azm (xs:List Int) (j:Nat) (x:Int):(ints xs).set j (.int .i64 x)=ints (xs.set j x):=by
 simp [ints,List.map_set]
theorem ints_at {xs:List Int} {j:Nat} (h:j<xs.length):(ints xs).toArray[j]?=some (.int .i64 xs[j]):=by
 simp [ints,h]
def Cx8 (n j:Nat) (xs:List Int):Prop:=
 xs.length=n/\(∀i,i<j->∃x,xs[i]?=some x/\0<=x/\x<j)/\∀i i' x,i<j->i'<j->xs[i]?=some x->xs[i']?=some x->i=i'
theorem Cx8.step {n j r:Nat} {xs:List Int} (h:Cx8 n j xs) (hj:j<n) (hr:r<=j) {y:Int} (hy:xs[r]?=some y):Cx8 n (j+1) ((xs.set j y).set r j):=by
 obtain ⟨hl,h1,h2⟩:=h
 have hg:∀i,i<j+1->((xs.set j y).set r (j:Int))[i]?=if i=r then some (j:Int) else if i=j then some y else xs[i]?:=by
  intro i hi
  rw [List.getElem?_set,List.getElem?_set,List.length_set]
  by_cases e:i=r
  ·subst e;rw [if_pos rfl,if_pos rfl,if_pos (by omega)]
  ·rw [if_neg (fun h=>e h.symm),if_neg e]
   by_cases e':i=j
   ·subst e';rw [if_pos rfl,if_pos rfl,if_pos (by omega)]
   ·rw [if_neg (fun h=>e' h.symm),if_neg e']
 refine ⟨by simp [hl],fun i hi=>?_,fun i i' x hi hi' hx hx'=>?_⟩
 ·rw [hg i hi]
  by_cases e:i=r
  ·exact ⟨j,by simp [e],by omega,by omega⟩
  ·rw [if_neg e]
   by_cases e':i=j
   ·rw [if_pos e']
    obtain ⟨x,hx,h0,h0'⟩:=h1 r (by omega)
    rw [hy] at hx;cases hx
    exact ⟨y,rfl,h0,by omega⟩
   ·rw [if_neg e']
    obtain ⟨x,hx,h0,h0'⟩:=h1 i (by omega)
    exact ⟨x,hx,h0,by omega⟩
 ·rw [hg i hi] at hx
  rw [hg i' hi'] at hx'
  have lo:∀i x,i<j->xs[i]?=some x->x<j:=fun i x hi hx=>by
   obtain ⟨x',hx',_,h⟩:=h1 i hi
   rw [hx] at hx';cases hx';exact h
  by_cases e:i=r<;>by_cases e':i'=r<;>simp only [e,e',if_true,if_false] at hx hx' ⊢
  ·exfalso
   cases hx
   by_cases f:i'=j
   ·rw [if_pos f] at hx';cases hx'
    have:=lo r j (by omega) hy
    omega
   ·rw [if_neg f] at hx'
    have:=lo i' j (by omega) hx'
    omega
  ·exfalso
   cases hx'
   by_cases f:i=j
   ·rw [if_pos f] at hx;cases hx
    have:=lo r j (by omega) hy
    omega
   ·rw [if_neg f] at hx
    have:=lo i j (by omega) hx
    omega
  ·by_cases f:i=j<;>by_cases f':i'=j<;>simp only [f,f',if_true,if_false] at hx hx' ⊢
   ·cases hx
    exfalso
    exact e' (h2 i' r y (by omega) (by omega) hx' hy)
   ·cases hx'
    exfalso
    exact e (h2 i r y (by omega) (by omega) hx hy)
   ·exact h2 i i' x (by omega) (by omega) hx hx'
theorem Cx8.nodup {n:Nat} {xs:List Int} (h:Cx8 n n xs):xs.length=n/\xs.Nodup/\∀x∈xs,0<=x/\x<n:=by
 obtain ⟨hl,h1,h2⟩:=h
 refine ⟨hl,?_,fun x hx=>?_⟩
 ·rw [List.Nodup,List.pairwise_iff_getElem]
  intro i j hi hj hlt e
  have:=h2 i j xs[i] (by omega) (by omega) (List.getElem?_eq_getElem hi) (by rw [List.getElem?_eq_getElem hj,e])
  omega
 ·obtain ⟨i,hi,rfl⟩:=List.getElem_of_mem hx
  obtain ⟨x,hx,h⟩:=h1 i (by omega)
  rw [List.getElem?_eq_getElem hi] at hx
  cases hx
  exact h
theorem Cz5 (m:Md) (H:Hp) (b k:Nat) (n:Nat) (hn:n<=1000) (hT:TinI H b (k+n)) :
  FnX Tryz.prog m 95 #[.pointer (some ⟨b,0,none⟩),.int .i64 n] H fun e H'=>∃v xs,e=.returned v/\SlI H' v xs/\xs.length=n/\xs.Nodup/\(∀x∈xs,0<=x/\x<n)/\Lex (some b) H H'/\TinI H' b k:=by
 refine Aqn func95 rfl ntmps95 (by simp) ?_
 (refine @unH _ ?_;refine z1 Aw7 ?_)
 (refine @unH _ ?_;refine z8 Aw7 ?_;(try clear hK K);intro K hK _)
 intro lb hlb
 refine hK _ _ ?_;clear hK K
 have hlbn:lb≠b:=hT.ne hlb
 refine Axn ?_
 (refine @unH _ ?_;refine z1 Aw7 ?_)
 refine Ax7 (Axg (fun w a' H'=>∃e j xs,w=n-j/\j<=n/\a'=act 30 e []/\e 0=.pointer (some ⟨b,0,none⟩)/\e 1=.int .i64 n/\e 5=.slice (some ⟨lb,0,none⟩) n n/\e 6=.int .i64 j /\
  H' lb=some (true,.cells (ints xs).toArray 3 (0,0))/\Lex (some b) H H'/\TinI H' b (k+(n-j))/\Cx8 n j xs) (n:=n) ?_ ?_)
 ·exact ⟨_,0,List.replicate n 0,by omega,by omega,rfl,rfl,rfl,rfl,rfl,by rw [Axp,if_pos rfl];simp [ints],Lex.refl.new hlb,(hT.new hlb).less (by omega),by simp,fun i hi=>by omega,fun i i' x hi=>by omega⟩
 ·rintro w a' H' ⟨e,j,xs,rfl,hj,rfl,e0,e1,e5,e6,hlb',hlex,hT',hM⟩
  refine Axn ?_
  (refine @unH _ ?_;refine z1 (aN Aw7 (aN @e0 (aN @e1 (aN @e5 @e6)))) ?_)
  refine Avs (by simp -implicitDefEqProofs (disch:=first | omega | (simp only [qd]<;>omega)) only [Aq7,Axf,Nat.reduceEqDiff,↓reduceIte];rfl) ?_
  by_cases hlt:j<n
  ·simp only [Int.ofNat_lt,hlt,decide_true,if_true]
   refine Aza (Axn (Ax7 ?_))
   (refine @unH _ ?_;refine z8 (aN Aw7 (aN @e0 (aN @e1 (aN @e5 @e6)))) ?_;(try clear hK K);intro K hK _)
   refine (Awf m H' b (k+(n-(j+1))) (j:Int) (by omega) (by rw [show k+(n-(j+1))+1=k+(n-j) by omega];exact hT')).runs.mono ?_
   rintro _ _ ⟨r,hr0,hr1,rfl,o,rfl,hT2⟩
   (refine @unH _ ?_;refine z0 Aw7 ?_)
   refine hK _ _ ?_;clear hK K
   obtain ⟨r,rfl⟩:=Int.eq_ofNat_of_zero_le hr0
   have hrj:r<=j:=by omega
   have hrn:r<n:=by omega
   have hl:=hM.1
   have hlb2:(H'.set b o) lb=some (true,.cells (ints xs).toArray 3 (0,0)):=by rw [Axp,if_neg hlbn];exact hlb'
   have hx:=ints_at (xs:=xs) (j:=r) (by omega)
   (refine Awx ?_;intro K hK;simp -implicitDefEqProofs (disch:=first | omega | (simp only [qd]<;>omega)) only [xq,↓xp,qc,Nat.reduceAdd,List.range,List.range.loop,fine,Nat.reduceEqDiff,↓reduceIte,yielded,reduceCtorEq,Nat.reduceLT,Nat.reduceMul,Nat.reduceSub,one,Nat.reduceLeDiff,Aqg,Aw7,e0,e1,e5,e6,cell_of hlb2,Ak2 hlb2,Int.toNat_natCast,Nat.mul_one,hx,exists_eq_left',Azm,Aqz,hl,hlt,hrn];refine hK _ _ ?_;clear hK K)
   (refine Bqc ?_;intro K hK;simp -implicitDefEqProofs (disch:=first | omega | (simp only [qd]<;>omega)) only [xq,↓xp,qc,Nat.reduceAdd,List.range,List.range.loop,fine,Nat.reduceEqDiff,↓reduceIte,yielded,reduceCtorEq,Nat.reduceLT,Nat.reduceMul,Nat.reduceSub,one,Nat.reduceLeDiff,Aqg,Aw7,e0,e1,e5,e6,Int.toNat_natCast,Nat.mul_one,Azm,Aqz,List.length_set,hl,hlt,hrn,Awb];refine hK _ _ ?_;clear hK K)
   (refine Bqc ?_;intro K hK;simp -implicitDefEqProofs (disch:=first | omega | (simp only [qd]<;>omega)) only [xq,↓xp,qc,Nat.reduceAdd,List.range,List.range.loop,fine,Nat.reduceEqDiff,↓reduceIte,yielded,reduceCtorEq,Nat.reduceLT,Nat.reduceMul,Nat.reduceSub,one,Nat.reduceLeDiff,Aqg,Aw7,e0,e1,e5,e6,Int.toNat_natCast,Nat.mul_one];refine hK _ _ ?_;clear hK K)
   simp -implicitDefEqProofs (disch:=first | omega | (simp only [qd]<;>omega)) only [thn,blk,↓reduceIte,Nat.reduceEqDiff]
   refine ⟨_,?_,_,j+1,(xs.set j xs[r]).set r j,rfl,hlt,rfl,e0,e1,e5,rfl,by rw [Axp,if_pos rfl],(hlex.set.own hlb),(hT2.own hlb2 (Ne.symm hlbn)).less (by omega),hM.step hlt hrj (List.getElem?_eq_getElem _)⟩
   omega
  ·simp only [Int.ofNat_lt,hlt,decide_false,Bool.false_eq_true,if_false]
   (refine Az2 ?_;simp only [thn,blk,↓reduceIte,Nat.reduceEqDiff])
   (refine @unH _ ?_;refine z1 (aN Aw7 @e5) ?_)
   (refine @unH _ ?_;refine z9 results95 ?_)
   have:j=n:=by omega
   subst this
   obtain ⟨hl,hnd,hb⟩:=hM.nodup
   exact ⟨_,xs,rfl,⟨_,_,by rw [hl],by omega,fun i x hi=>⟨lb,0,true,_,_,rfl,hlb',by rw [Nat.zero_add];simpa using Aj6 hi⟩⟩,hl,hnd,hb,hlex,hT'.less (by omega)⟩
theorem Bjd (m:Md) (H:Hp) (b k:Nat) (n:Int) (hn:n<36028797018963967) (hT:TinI H b (k+1)) :
  FnX Tryz.prog m 14 #[.pointer (some ⟨b,0,none⟩),.int .i64 n] H fun e H'=>∃r:Int,0<=r/\(r<=n∨r=0)/\e=.returned (.int .i64 r)/\Lex (some b) H H'/\TinI H' b k:=
 (Awf m H b k n hn hT).mono fun _ _ ⟨r,h0,h1,he,_,hH,hT'⟩=>⟨r,h0,h1,he,hH▸Lex.refl.set,hT'⟩
theorem Bzy (m:Md) (H:Hp) (b k:Nat) (lo hi:Int) (h0 : -1000000<=lo) (h1:lo<=1000000) (h2 : -1000000<=hi) (h3:hi<=1000000) (hT:TinI H b (k+1)) :
  FnX Tryz.prog m 93 #[.pointer (some ⟨b,0,none⟩),.int .i64 lo,.int .i64 hi] H fun e H'=>∃r:Int,lo<=r/\(r<=hi∨r=lo)/\e=.returned (.int .i64 r)/\Lex (some b) H H'/\TinI H' b k:=
 (Cqr m H b k lo hi h0 h1 h2 h3 hT).mono fun _ _ ⟨r,h0,h1,he,_,hH,hT'⟩=>⟨r,h0,h1,he,hH▸Lex.refl.set,hT'⟩
theorem Cvo (m:Md) (H:Hp) (b k:Nat) (n:Int) (h0 : -1000000<=n) (h1:n<=1000000) (hT:TinI H b (k+1)) :
  FnX Tryz.prog m 31 #[.pointer (some ⟨b,0,none⟩),.int .i64 n] H fun e H'=>∃r:Bool,e=.returned (.bool r)/\Lex (some b) H H'/\TinI H' b k:=
 (By6 m H b k n h0 h1 hT).mono fun _ _ ⟨r,he,_,hH,hT'⟩=>⟨r,he,hH▸Lex.refl.set,hT'⟩
theorem Dzw (m:Md) (H:Hp) (b k:Nat) (v:Value) (xs:List Int) (hv:SlI H v xs) (hne:xs≠[]) (hl:xs.length<=1000000) (hT:TinI H b (k+1)) :
  FnX Tryz.prog m 96 #[.pointer (some ⟨b,0,none⟩),v] H fun e H'=>∃r:Int,r∈xs/\e=.returned (.int .i64 r)/\Lex (some b) H H'/\TinI H' b k:=
 (Byr m H b k v xs hv hne hl hT).mono fun _ _ ⟨r,h0,he,_,hH,hT'⟩=>⟨r,h0,he,hH▸Lex.refl.set,hT'⟩
theorem Axh {H:Hp} {b:Nat} {o:Obj}:(H.set b o) b=some (true,o):=by rw [Axp,if_pos rfl]
theorem Aqv {H:Hp} {b b':Nat} {o:Obj} (h:b'≠b):(H.set b o) b'=H b':=by rw [Axp,if_neg h]
end Go.Proofs.YtaehjjbekjglkaaGreatDoor
end
section
namespace Go.Proofs.YtaehjjbekjglkaaGreatDoor
open Go Go.X
def RowX (t:Option Nat) (H₀ H:Hp) (v:Value) (e:TypeId) (cs:List Value):Prop:=
 Lex t H₀ H/\((v=.slice none 0 0/\cs=[]) ∨
 ∃(b:Nat) (c:Array Value) (cap:Nat),H₀ b=none/\H b=some (true,.cells c e (0,0))/\v=.slice (some ⟨b,0,none⟩) cs.length cap/\c.size=cap/\cs.length<=cap/\∀(i:Nat) (u:Value),cs[i]?=some u->c[i]?=some u)
def Other (e:TypeId) (H H':Hp):Prop:=∀x p o,H x=some (p,o)->(p=false∨∀c fr,o≠.cells c e fr)->H' x=some (p,o)
theorem RowX.nil {t:Option Nat} {H:Hp} {e:TypeId}:RowX t H H (.slice none 0 0) e []:=⟨Lex.refl,.inl ⟨rfl,rfl⟩⟩
theorem RowX.len {t:Option Nat} {H₀ H:Hp} {v:Value} {e:TypeId} {cs:List Value} (h:RowX t H₀ H v e cs):∃a cap,v=.slice a cs.length cap:=by
 rcases h.2 with ⟨rfl,rfl⟩ | ⟨b,c,cap,_,_,rfl,_⟩
 ·exact ⟨_,_,rfl⟩
 ·exact ⟨_,_,rfl⟩
theorem RowX.le {t:Option Nat} {H₀ H H':Hp} {v:Value} {e:TypeId} {cs:List Value} (h:RowX t H₀ H v e cs) (hl:H.le H'):RowX t H₀ H' v e cs:=by
 refine ⟨h.1.le hl,h.2.imp id ?_⟩
 rintro ⟨b,c,cap,h0,h1,h2,h3,h4,h5⟩
 exact ⟨b,c,cap,h0,hl _ _ h1,h2,h3,h4,h5⟩
theorem Bjh {P:Program} {tt e:TypeId} {z:Value} {inf:TypeInfo} (hu:P.underlying tt=some (.slice e)) (hs:∀w,(sizeOf e).run P w=.ok 1 w) (hz:∀w,(zeroValue e).run P w=.ok z w) (hzc:z.cells.size=1)
  (hi:∀w,(typeInfo e).run P w=.ok inf w) (hby:inf.bytes<=1024) (hby0:0<inf.bytes)
  {t:Option Nat} {H₀ H:Hp} {v:Value} {cs:List Value} (h:RowX t H₀ H v e cs) {g:Nat} {w:Value} (hg:H g=none) (hw:one w=true) (hn:cs.length<=1000000) (ty:TypeId) (cb:Array Bool) (K:Next->Hp->Prop) (E:Value->Hp->Prop)
  (h':∀v' H',RowX t H₀ H' v' e (cs++[w])->Other e H H'->K (.value v') H') :
  wpS P (builtin .append #[tt,tt] ty cb #[v,.slice (some ⟨g,0,none⟩) 1 1]) (H.set g (.cells #[w] e (0,0))) K E:=by
 obtain ⟨hlex,hrow⟩:=h
 have hws:∀(j:Nat) (u:Value),[w][j]?=some u->(H.set g (.cells #[w] e (0,0))).cell ⟨g,0+j,none⟩=some u:=by
  intro j u hj
  rw [Nat.zero_add,cell_of (b:=g) (p:=true) (c:=#[w]) (e:=e) (f:=(0,0)) (by rw [Axp,if_pos rfl])]
  simpa using hj
 have h1w:∀u∈[w],one u=true:=by simp [hw]
 rcases hrow with ⟨rfl,rfl⟩ | ⟨b,c,cap,hb0,hb,rfl,hcs,hcap,hget⟩
 ·refine Ak6 (P:=P) hu hs hz hzc hi hby hby0 (Aju.nil H e 1) (Hp.le_set hg) (by simp) id hws h1w (by omega) ty cb K E (fun v' H1 H2 hr hl=>?_)
  have hle:H.le H2:=fun x u hx=>hl _ _ (hr.le _ _ hx)
  refine h' v' H2 ⟨hlex.le hle,?_⟩ (fun x p o hx _=>hle _ _ hx)
  rcases hr with ⟨_,hn0,_⟩ | ⟨b',c',cap',hb',rfl,rfl,hs',hl',hn',hg'⟩
  ·simp at hn0
  ·refine .inr ⟨b',c',cap',hlex.gone hb',hl _ _ (by rw [Axp,if_pos rfl]),by simp,by omega,by simpa using hn',fun i u hi=>hg' i u hi⟩
 ·have hgb:g≠b:=fun e=>by rw [e,hb] at hg;cases hg
  have hD:(fun x=>if x=b then none else H x:Hp) b=none:=by simp
  have hH:H=Hp.set (fun x=>if x=b then none else H x) b (.cells c e (0,0)):=by
   funext x
   unfold Hp.set
   by_cases e:x=b
   ·subst e;simp [hb]
   ·simp [e]
  refine Ak6 (P:=P) hu hs hz hzc hi hby hby0 (H₀:=fun x=>if x=b then none else H x) (H:=H) (n:=cs.length) (cs:=cs) (.inr ⟨b,c,cap,hD,hH,rfl,by omega,by omega,hcap,hget⟩) (Hp.le_set hg) (by simp) (fun _=>hg) hws h1w (by omega) ty cb K E (fun v' H1 H2 hr hl=>?_)
  have hkeep:∀x u,x≠b->H x=some u->H2 x=some u:=fun x u hn hx=>hl _ _ (hr.le _ _ (by simp only [hn,if_false];exact hx))
  rcases hr with ⟨_,hn0,_⟩ | ⟨b',c',cap',hb',rfl,rfl,hs',hl',hn',hg'⟩
  ·simp at hn0
  ·have hb2:H2 b'=some (true,.cells c' e (0,0)):=hl _ _ (by rw [Axp,if_pos rfl])
   have hb'0:H₀ b'=none:=by
    by_cases e:b'=b
    ·rw [e];exact hb0
    ·simp only [e,if_false] at hb';exact hlex.gone hb'
   refine h' _ H2 ⟨fun x u hx=>?_,.inr ⟨b',c',cap',hb'0,hb2,by simp,by omega,by simpa using hn',hg'⟩⟩ (fun x p o hx ho=>hkeep x _ (fun e=>?_) hx)
   ·obtain ⟨u',hu',e'⟩:=hlex x u hx
    exact ⟨u',hkeep x u' (fun e=>by rw [e,hb0] at hx;cases hx) hu',e'⟩
   ·rw [e,hb] at hx
    simp only [Option.some.injEq,Prod.mk.injEq] at hx
    rcases ho with ho | ho
    ·rw [ho] at hx;cases hx.1
    ·exact ho c (0,0) hx.2.symm
theorem Other.cells {H H':Hp} {e e':TypeId} (h:Other e H H') {x:Nat} {p:Bool} {c:Array Value} {fr:Nat×Nat} (hx:H x=some (p,.cells c e' fr)) (he:e'≠e):H' x=some (p,.cells c e' fr):=
 h x _ _ hx (.inr fun c' fr' e''=>by simp only [Obj.cells.injEq] at e'';exact he e''.2.1)
theorem RowX.ints {t:Option Nat} {H₀ H:Hp} {v:Value} {xs:List Int} (h:RowX t H₀ H v 3 (ints xs)):SlI H v xs:=by
 rcases h.2 with ⟨rfl,hx⟩ | ⟨b,c,cap,_,hb,rfl,hc,hle,hget⟩
 ·have:xs=[]:=by simpa [Go.Proofs.YtaehjjbekjglkaaGreatDoor.ints] using hx
  subst this
  exact SlI.nil _ _ _
 ·rw [Aqz] at hle ⊢
  exact ⟨_,cap,rfl,hle,fun i x hi=>⟨b,0,true,c,(0,0),rfl,hb,by rw [Nat.zero_add];exact hget i _ (Aj6 hi)⟩⟩
def SlR (H:Hp) (v:Value) (xss:List (List Int)):Prop:=
 ∃(a:Option Addr) (cap:Nat),v=.slice a xss.length cap/\xss.length<=cap/\∀(i:Nat) (xs:List Int),xss[i]?=some xs->∃(b o:Nat) (p:Bool) (c:Array Value) (fr:Nat×Nat) (w:Value),a=some ⟨b,o,none⟩/\H b=some (p,.cells c 23 fr)/\c[o+i]?=some w/\SlI H w xs
def Rows (H:Hp) (vs:List Value) (xss:List (List Int)):Prop:=vs.length=xss.length/\∀(i:Nat) (xs:List Int),xss[i]?=some xs->∃w,vs[i]?=some w/\SlI H w xs
theorem Rows.mono {H H':Hp} {vs:List Value} {xss:List (List Int)} (h:Rows H vs xss) (hl:∀v xs,SlI H v xs->SlI H' v xs):Rows H' vs xss:=
 ⟨h.1,fun i xs hi=>by obtain ⟨w,h1,h2⟩:=h.2 i xs hi;exact ⟨w,h1,hl _ _ h2⟩⟩
theorem Rows.snoc {H:Hp} {vs:List Value} {xss:List (List Int)} (h:Rows H vs xss) {w:Value} {xs:List Int} (hw:SlI H w xs):Rows H (vs++[w]) (xss++[xs]):=by
 refine ⟨by simp [h.1],fun i ys hi=>?_⟩
 by_cases hlt:i<xss.length
 ·rw [List.getElem?_append_left hlt] at hi
  obtain ⟨w',h1,h2⟩:=h.2 i ys hi
  exact ⟨w',by rw [List.getElem?_append_left (by rw [h.1];exact hlt)];exact h1,h2⟩
 ·rw [List.getElem?_append_right (by omega)] at hi
  have:i-xss.length=0:=by
   have:=(List.getElem?_eq_some_iff.1 hi).1
   simp at this;omega
  rw [this] at hi
  simp at hi
  subst hi
  exact ⟨w,by rw [List.getElem?_append_right (by rw [h.1];omega),h.1,this];rfl,hw⟩
theorem RowX.rows {t:Option Nat} {H₀ H:Hp} {v:Value} {vs:List Value} {xss:List (List Int)} (h:RowX t H₀ H v 23 vs) (hr:Rows H vs xss):SlR H v xss:=by
 rcases h.2 with ⟨rfl,rfl⟩ | ⟨b,c,cap,_,hb,rfl,hc,hle,hget⟩
 ·have:xss=[]:=by have:=hr.1;simp at this;exact List.eq_nil_of_length_eq_zero this.symm
  subst this
  exact ⟨_,_,rfl,Nat.zero_le _,fun i xs hi=>by simp at hi⟩
 ·refine ⟨_,cap,by rw [hr.1],by rw [<-hr.1];exact hle,fun i xs hi=>?_⟩
  obtain ⟨w,h1,h2⟩:=hr.2 i xs hi
  exact ⟨b,0,true,c,(0,0),w,rfl,hb,by rw [Nat.zero_add];exact hget i w h1,h2⟩
theorem SlI.move {H H':Hp} {v:Value} {xs:List Int} (h:SlI H v xs) (hl:∀x p c fr,H x=some (p,.cells c 3 fr)->H' x=some (p,.cells c 3 fr)):SlI H' v xs:=by
 obtain ⟨a,cap,hv,hc,h⟩:=h
 refine ⟨a,cap,hv,hc,fun i x hi=>?_⟩
 obtain ⟨b,o,p,c,fr,ha,hb,hx⟩:=h i x hi
 exact ⟨b,o,p,c,fr,ha,hl _ _ _ _ hb,hx⟩
theorem SlR.move {H H':Hp} {v:Value} {xss:List (List Int)} (h:SlR H v xss) (hl:∀x p c fr e,(e=3∨e=23)->H x=some (p,.cells c e fr)->H' x=some (p,.cells c e fr)):SlR H' v xss:=by
 obtain ⟨a,cap,hv,hc,h⟩:=h
 refine ⟨a,cap,hv,hc,fun i x hi=>?_⟩
 obtain ⟨b,o,p,c,fr,w,ha,hb,hx,hs⟩:=h i x hi
 exact ⟨b,o,p,c,fr,w,ha,hl _ _ _ _ _ (.inr rfl) hb,hx,hs.move fun _ _ _ _ h=>hl _ _ _ _ _ (.inl rfl) h⟩
theorem SlR.le {H H':Hp} {v:Value} {xss:List (List Int)} (h:SlR H v xss) (hl:H.le H'):SlR H' v xss:=h.move fun _ _ _ _ _ _ hx=>hl _ _ hx
end Go.Proofs.YtaehjjbekjglkaaGreatDoor
end
section
namespace Go.Proofs.YtaehjjbekjglkaaGreatDoor
open Go Go.X Go.Proofs.Tryz
theorem Cwt {t:Option Nat} {H₀ H:Hp} {v:Value} {xs:List Int} (h:RowX t H₀ H v 3 (ints xs)) {g:Nat} {x:Int} (hg:H g=none) (hn:xs.length<=1000000) (ty:TypeId) (cb:Array Bool) (K:Next->Hp->Prop) (E:Value->Hp->Prop)
  (h':∀v' H',RowX t H₀ H' v' 3 (ints (xs++[x]))->Other 3 H H'->K (.value v') H') :
  wpS Tryz.prog (builtin .append #[23,23] ty cb #[v,.slice (some ⟨g,0,none⟩) 1 1]) (H.set g (.cells #[.int .i64 x] 3 (0,0))) K E:=
 Bjh underlying23 sizeOf3 zeroValue3 rfl typeInfo3 (by decide) (by decide) h hg rfl (by rw [Aqz];exact hn) ty cb K E fun v' H' hr ho=>h' v' H' (by rw [Cxs];exact hr) ho
theorem Cwu {t:Option Nat} {H₀ H:Hp} {v:Value} {vs:List Value} (h:RowX t H₀ H v 23 vs) {g:Nat} {w:Value} (hw:one w=true) (hg:H g=none) (hn:vs.length<=1000000) (ty:TypeId) (cb:Array Bool) (K:Next->Hp->Prop) (E:Value->Hp->Prop)
  (h':∀v' H',RowX t H₀ H' v' 23 (vs++[w])->Other 23 H H'->K (.value v') H') :
  wpS Tryz.prog (builtin .append #[95,95] ty cb #[v,.slice (some ⟨g,0,none⟩) 1 1]) (H.set g (.cells #[w] 23 (0,0))) K E:=
 Bjh underlying95 sizeOf23 zeroValue23 rfl typeInfo23 (by decide) (by decide) h hg hw hn ty cb K E h'
theorem TinI.le {H H':Hp} {b k:Nat} (h:TinI H b k) (hl:H.le H'):TinI H' b k:=by
 obtain ⟨sa,sl,sc,g,st,h1,h2,h3,h4⟩:=h
 refine ⟨sa,sl,sc,g,st,hl _ _ h1,h2,h3,fun i hi=>?_⟩
 obtain ⟨sb,so,c,e,fr,x,ha,hs,hx⟩:=h4 i hi
 exact ⟨sb,so,c,e,fr,x,ha,hl _ _ hs,hx⟩
theorem TinI.notI {H:Hp} {b k:Nat} (h:TinI H b k) {e:TypeId} (he:e≠69):∀b',some b=some b'->∀p c fr,H b'≠some (p,.cells c e fr):=fun b' hb' p c fr hx=>by
 cases hb'
 obtain ⟨_,_,_,_,_,hb2,_⟩:=h
 rw [hb2] at hx
 simp only [Option.some.injEq,Prod.mk.injEq,Obj.cells.injEq] at hx
 exact he hx.2.2.1.symm
end Go.Proofs.YtaehjjbekjglkaaGreatDoor
end
section
namespace Go.Proofs.YtaehjjbekjglkaaGreatDoor
open Go Go.X
def drop (H:Hp) (b:Nat):Hp:=fun x=>if x=b then none else H x
section
variable {H H':Hp} {sv:Value} {start:List Int} {cv:Value} {xss:List (List Int)} {tv:Value} {ts:List Int}
end
end Go.Proofs.YtaehjjbekjglkaaGreatDoor
end
section
namespace Go.Proofs.YtaehjjbekjglkaaGreatDoor
open Go Go.X
def Bqm (m n:Nat):Nat:=m ||| 2 ^ n
def Dqj (m n:Nat):Nat:=m &&& (63-2 ^ n)
def Dkh (m:Nat):Nat:=(List.range 6).countP fun n=>m.testBit n
def Dki (m k:Nat):List Int:=((List.range k).filter fun n=>m.testBit n).map fun n:Nat=>(n:Int)
def Dvk (m:Nat):List Int:=Dki m 6
def oOf (xs:List Int):Nat:=xs.foldl (fun m x=>Bqm m x.toNat) 0
theorem Bwv:∀m:Fin 64,∀n:Fin 6,bitv (fun x a b=>a ||| b) IntKind.u8 (m.val:Int) (IntKind.u8.wrap (1*2 ^ min (n.val:Int).toNat IntKind.u8.bits))=(Bqm m.val (n.val:Int).toNat:Nat)/\Bqm m.val (n.val:Int).toNat<64:=by decide +kernel
theorem Ck4 {m:Nat} {n:Int} (hm:m<64) (h0:0<=n) (h1:n<6):∃(a:Fin 64) (b:Fin 6),a.val=m/\(b.val:Int)=n:=⟨⟨m,hm⟩,⟨n.toNat,by omega⟩,rfl,by simp;omega⟩
theorem Dqi {m:Nat} {n:Int} (hm:m<64) (h0:0<=n) (h1:n<6):Bqm m n.toNat<64:=by
 obtain ⟨a,b,rfl,rfl⟩:=Ck4 hm h0 h1
 exact (Bwv a b).2
theorem Dq8:∀(xs:List Int) (m:Nat),m<64->(∀x∈xs,0<=x/\x<6)->xs.foldl (fun m x=>Bqm m x.toNat) m<64
 | [],m,hm,_=>hm
 | x::xs,m,hm,h=>Dq8 xs _ (Dqi hm (h x List.mem_cons_self).1 (h x List.mem_cons_self).2) fun y hy=>h y (List.mem_cons_of_mem _ hy)
end Go.Proofs.YtaehjjbekjglkaaGreatDoor
end
section
namespace Go.X
open Go
section
variable {P:Program} {H:Hp}
theorem Ajj {t:TypeId} {k:IntKind} (hu:P.underlying t=some (.int k)) (d:Nat) (j:IntKind) (a b:Int) (K:Bool->Hp->Prop) (E:Value->Hp->Prop):wpS P (Op.equalIn (d+1) t (.int j a) (.int j b)) H K E=K (a==b) H:=by
 unfold Op.equalIn
 simp only [Aqa,Aqj hu,if_true,Aqf]
theorem Akq {α:Type} (x:α) (K:α->Hp->Prop) (E:Value->Hp->Prop):wpS P (Sem.pure x) H K E=K x H:=rfl
theorem Ajr (K:Program->Hp->Prop) (E:Value->Hp->Prop):wpS P program H K E=K P H:=rfl
structure Key2 (P:Program) (ks:TypeId) (k1 k2:IntKind):Prop where
 ex:∃f1 f2:Field,P.underlying ks=some (.struct #[f1,f2])/\f1.name ≠ "_" /\f2.name ≠ "_" /\f1.offset=0/\f2.offset=1/\(∃d,P.underlying f1.type=some (.int d))/\(∃d,P.underlying f2.type=some (.int d))
 held:P.stoodInHeld ks=false
theorem Bvz {ks:TypeId} {k1 k2:IntKind} (h:Key2 P ks k1 k2) (a b c d:Int) (K:Bool->Hp->Prop) (E:Value->Hp->Prop) :
  wpS P (Op.equal ks (.agg #[.int k1 a,.int k2 b]) (.agg #[.int k1 c,.int k2 d])) H K E=K (a==c&&b==d) H:=by
 obtain ⟨⟨f1,f2,hu,hn1,hn2,ho1,ho2,⟨d1,h1⟩,⟨d2,h2⟩⟩,hh⟩:=h
 unfold Op.equal Op.maxDepth
 rw [show (10000:Nat)=9998+1+1 from rfl]
 unfold Op.equalIn
 simp only [Aqa,Aqj hu,Ajr,hh,Bool.false_eq_true,if_false,Aqf,List.forIn_toArray,List.forIn_cons,List.forIn_nil,hn1,hn2,ne_eq,not_false_eq_true,if_true]
 rw [Aqm h1 rfl (v:=.int k1 a) _ _ (by simp [ho1])]
 rw [Aqm h1 rfl (v:=.int k1 c) _ _ (by simp [ho1]),show (9999:Nat)=9998+1 from rfl,Ajj h1]
 cases a==c
 ·simp only [Bool.not_false,if_true,Aqf,Bool.false_and]
 ·simp only [Bool.not_true,Bool.false_eq_true,if_false,Aqf,Bool.true_and,Aqa]
  rw [Aqm h2 rfl (v:=.int k2 b) _ _ (by simp [ho2]),Aqm h2 rfl (v:=.int k2 d) _ _ (by simp [ho2]),Ajj h2]
  cases b==d
  ·simp only [Bool.not_false,if_true,Aqf]
  ·simp only [Bool.not_true,Bool.false_eq_true,if_false,Aqf]
theorem Bq1 {t:TypeId} {k:IntKind} (hu:P.underlying t=some (.int k)) (em:Bool) (n:Nat) (v:Value) (K:Unit->Hp->Prop) (E:Value->Hp->Prop):wpS P (Instr.checkKey em (n+1) t v) H K E=K () H:=by
 unfold Instr.checkKey
 rw [Aqa,Aqj hu]
 rfl
end
end Go.X
end
section
namespace Go.Proofs.YtaehjjbekjglkaaGreatDoor
open Go Go.X
def Dvl (m:Nat) (sent:Int) (t:Int):Nat:=Bqm (if 0<=sent then Dqj m sent.toNat else m) t.toNat
end Go.Proofs.YtaehjjbekjglkaaGreatDoor
end
section
namespace Go.X
open Go
section
variable {P:Program} {main:Md} {lp:Option Nat} {Q:Exit->Act->Hp->Prop} {a:Act} {H:Hp}
def Ckf (q:Option (Bool×Obj)) (o:Nat):Option Value:=match q with
 | some (_,.cells c _ _)=>c[o]?
 | _=>none
theorem Djy {b o:Nat}:H.cell ⟨b,o,none⟩=Ckf (H b) o:=by
 unfold Hp.cell Ckf
 simp
 rfl
theorem Czh {p:Bool} {c:Array Value} {e:TypeId} {f:Nat×Nat} {o:Nat}:Ckf (some (p,.cells c e f)) o=c[o]?:=rfl
def Cv3 (q:Option (Bool×Obj)) (H:Hp) (b o:Nat) (v:Value) (K:Hp->Prop):Prop:=match q with
 | some (true,.cells c e (lo,hi))=>o<c.size/\(decide (lo<=o)&&decide (o<hi))=false/\K (H.set b (.cells (c.setIfInBounds o v) e (lo,hi)))
 | _=>False
theorem Dkw {b o:Nat} {v:Value} {K:Hp->Prop}:stor H b o v K=Cv3 (H b) H b o v K:=rfl
theorem Cjl {c:Array Value} {e:TypeId} {b o:Nat} {v:Value} {K:Hp->Prop}:Cv3 (some (true,.cells c e (0,0))) H b o v K=(o<c.size/\K (H.set b (.cells (c.setIfInBounds o v) e (0,0)))):=by
 simp [Cv3]
def Cxu (q:Option (Bool×Obj)) (o n:Nat) (K:Value->Prop):Prop:=match q with
 | some (_,.cells c _ _)=>o+n<=c.size/\K (.agg (c.extract o (o+n)))
 | _=>False
theorem Dz8 {b o n:Nat} {K:Value->Prop}:Bql H b o n K=Cxu (H b) o n K:=rfl
theorem Byy {p:Bool} {c:Array Value} {e:TypeId} {f:Nat×Nat} {o n:Nat} {K:Value->Prop}:Cxu (some (p,.cells c e f)) o n K=(o+n<=c.size/\K (.agg (c.extract o (o+n)))):=rfl
def Bqr (q:Option (Bool×Obj)) (H:Hp) (b o:Nat) (vs:List Value) (K:Hp->Prop):Prop:=match q with
 | some (true,.cells c e f)=>if f=(0,0) then (vs.all one)=true/\o+vs.length<=c.size/\K (H.set b (.cells (over c o vs) e (0,0))) else Akm H b o vs K
 | _=>Akm H b o vs K
theorem Dji {b o:Nat} {v:Value} {vs:List Value} {K:Hp->Prop}:Akm H b o (v::vs) K=Bqr (H b) H b o (v::vs) K:=by
 rcases hb:H b with _ | ⟨p,ob⟩
 ·rfl
 ·cases p
  ·rfl
  ·cases ob<;>try rfl
   rename_i c e f
   simp only [Bqr]
   split
   ·rename_i hf;subst hf;rw [Dqy hb]
   ·rfl
theorem Cql {c:Array Value} {e:TypeId} {b o:Nat} {vs:List Value} {K:Hp->Prop}:Bqr (some (true,.cells c e (0,0))) H b o vs K=((vs.all one)=true/\o+vs.length<=c.size/\K (H.set b (.cells (over c o vs) e (0,0)))):=by
 simp [Bqr]
@[congr] theorem storLK_congr {q q':Option (Bool×Obj)} {H':Hp} {b o b' o':Nat} {vs vs':List Value} {K:Hp->Prop} (hq:q=q') (hH:H=H') (hb:b=b') (ho:o=o') (hv:vs=vs'):Bqr q H b o vs K=Bqr q' H' b' o' vs' K:=by subst hq hH hb ho hv;rfl
@[congr] theorem storK_congr {q q':Option (Bool×Obj)} {H':Hp} {b o b' o':Nat} {v v':Value} {K:Hp->Prop} (hq:q=q') (hH:H=H') (hb:b=b') (ho:o=o') (hv:v=v'):Cv3 q H b o v K=Cv3 q' H' b' o' v' K:=by subst hq hH hb ho hv;rfl
@[congr] theorem loadAK_congr {q q':Option (Bool×Obj)} {o n:Nat} {o':Nat} {K:Value->Prop} (hq:q=q') (ho:o=o'):Cxu q o n K=Cxu q' o' n K:=by subst hq ho;rfl
theorem Djf {b x:Nat} {o:Obj}:(H.set b o) x=if x=b then some (true,o) else H x:=rfl
theorem Dvj {x y:Nat} (h:x<y):(x<y)=True:=by simp [h]
theorem Dvi {x y:Nat} (h:x<=y):(x<=y)=True:=by simp [h]
theorem Dj2 {x y:Int} (h:x<y):decide (x<y)=true:=decide_eq_true h
theorem Dj1 {x y:Int} (h:y<=x):decide (x<y)=false:=decide_eq_false (by omega)
theorem Dj0 {x y:Int} (h:x<=y):decide (x<=y)=true:=decide_eq_true h
theorem Djz {x y:Int} (h:y<x):decide (x<=y)=false:=decide_eq_false (by omega)
theorem Djt {x y:Int} (h:x=y):(x==y)=true:=by simp [h]
theorem Djs {x y:Int} (h:x≠y):(x==y)=false:=by simp [h]
theorem Djw {x y:Int} (h:x≠y):(x != y)=true:=by simp [h]
theorem Djv {x y:Int} (h:x=y):(x != y)=false:=by simp [h]
theorem Cjo (n:Nat):((n:Int)).toNat=n:=rfl
theorem Dvu {next:Act->Hp->Prop}:thn next Q .normal a H=next a H:=rfl
theorem Dvs {next:Act->Hp->Prop} {i:Nat}:thn next Q (.exit i) a H=Q (.exit i) a H:=rfl
theorem Dvt {next:Act->Hp->Prop} {i:Nat}:thn next Q (.goto i) a H=Q (.goto i) a H:=rfl
theorem Dvv {next:Act->Hp->Prop}:thn next Q .ret a H=Q .ret a H:=rfl
theorem Dva {id:Nat}:blk id Q .normal a H=Q .normal a H:=rfl
theorem Dk8 {id i:Nat}:blk id Q (.exit i) a H=if i=id then Q .normal a H else Q (.exit i) a H:=rfl
theorem Dk9 {id i:Nat}:blk id Q (.goto i) a H=Q (.goto i) a H:=rfl
theorem Dvb {id:Nat}:blk id Q .ret a H=Q .ret a H:=rfl
def yl (ds:List (Option Tmp)) (tmps:Array Value) (j:Nat):Option Bool:=match ((ds[j]?).bind id).bind (tmps[·]?) with
 | some (.bool b)=>some b
 | _=>none
def ylK (q:Option Value):Option Bool:=match q with
 | some (.bool b)=>some b
 | _=>none
def Djk (ds:List (Option Tmp)) (o:Oper) (tmps:Array Value):Bool:=match o.guard with
 | none=>true
 | some (j,b)=>yl ds tmps j==some b
theorem Dkz {ops:Array Oper} {o:Oper} {tmps:Array Value}:Region.wanted o (yielded ops tmps)=Djk (ops.toList.map (·.dst)) o tmps:=by
 unfold Region.wanted Djk
 cases o.guard with
 | none=>rfl
 | some g=>
  obtain ⟨j,b⟩:=g
  have:yielded ops tmps j=yl (ops.toList.map (·.dst)) tmps j:=by
   unfold yielded yl
   simp only [List.getElem?_map,Array.getElem?_toList]
   cases ops[j]? <;> rfl
  simp only [this]
def Dkv (P:Program) (main:Md) (lp:Option Nat) (ds:List (Option Tmp)) (o:Oper) (Q:Exit->Act->Hp->Prop) (K:Act->Hp->Prop) (a:Act) (H:Hp):Prop:=
 if Djk ds o a.tmps then fine lp o=true/\opX P main lp o a H K Q else K (a.put o.dst undef) H
def runL (P:Program) (main:Md) (lp:Option Nat) (ds:List (Option Tmp)) (Q:Exit->Act->Hp->Prop):List Oper->Act->Hp->Prop
 | [],a,H=>Q .normal a H
 | o::rest,a,H=>Dkv P main lp ds o Q (runL P main lp ds Q rest) a H
theorem Awt {ops:Array Oper}:∀(rest:List Oper) (k:Nat) (a:Act) (H:Hp),ops.toList.drop k=rest->runL P main lp (ops.toList.map (·.dst)) Q rest a H->runX P main lp ops Q (List.range' k rest.length) a H
 | [],_,_,_,_,h=>h
 | o::rest,k,a,H,hd,h=>by
  simp only [List.length_cons,List.range'_succ]
  unfold runX numX
  have hk:ops[k]?=some o:=by
   have:=congrArg (·[0]?) hd
   simpa using this
  rw [hk]
  simp only []
  rw [Dkz]
  have hd':ops.toList.drop (k+1)=rest:=by rw [<-List.drop_drop,hd];rfl
  unfold runL Dkv at h
  split
  ·rename_i hw
   rw [if_pos hw] at h
   exact ⟨h.1,Awr h.2 fun a' H' h'=>Awt rest (k+1) a' H' hd' h'⟩
  ·rename_i hw
   rw [if_neg hw] at h
   exact Awt rest (k+1) _ _ hd' h
theorem Bk4 {ops:List Oper} {ds:List (Option Tmp)} (hds:ops.map (·.dst)=ds) (h:runL P main lp ds Q ops a H):runX P main lp ops.toArray Q (List.range ops.toArray.size) a H:=by
 subst hds
 rw [List.range_eq_range']
 have:=Awt (ops:=ops.toArray) ops 0 a H (by simp) (by simpa using h)
 simpa using this
theorem Axz {id:Nat} {ops:List Oper} {ds:List (Option Tmp)} {y:Code} (hds:ops.map (·.dst)=ds) (h:∀K:Act->Hp->Prop,(∀a' H',wpX P main lp y Q a' H'->K a' H')->runL P main lp ds (only K) ops a H) :
 wpX P main lp (.seq (.region id ops.toArray false) y) Q a H:=Awx fun K hK=>Bk4 hds (h K hK)
theorem Azq {id:Nat} {ops:List Oper} {ds:List (Option Tmp)} (hds:ops.map (·.dst)=ds) (h:∀K:Act->Hp->Prop,(∀a' H',Q .normal a' H'->K a' H')->runL P main lp ds (only K) ops a H) :
 wpX P main lp (.region id ops.toArray false) Q a H:=Bqc fun K hK=>Bk4 hds (h K hK)
@[congr] theorem runL_congr {ds:List (Option Tmp)} {l:List Oper} {a a':Act} {H H':Hp} (ha:a=a') (hH:H=H'):runL P main lp ds Q l a H=runL P main lp ds Q l a' H':=by subst ha hH;rfl
def Bv5 (q:Option Bool) (b:Bool) (x y:Prop):Prop:=if q==some b then x else y
@[congr] theorem gateL_congr {q q':Option Bool} {b b':Bool} {x y:Prop} (hq:q=q') (hb:b=b'):Bv5 q b x y=Bv5 q' b' x y:=by subst hq hb;rfl
theorem Cy5 {x y:Prop}:Bv5 (some true) true x y=x:=rfl
theorem Cy2 {x y:Prop}:Bv5 (some false) false x y=x:=rfl
theorem Cy4 {x y:Prop}:Bv5 (some true) false x y=y:=rfl
theorem Cy3 {x y:Prop}:Bv5 (some false) true x y=y:=rfl
theorem Dvw {ds:List (Option Tmp)} {tmps:Array Value} {j:Nat}:yl ds tmps j=ylK (((ds[j]?).bind id).bind (tmps[·]?)):=rfl
theorem Bvh {b:Bool}:ylK (some (.bool b))=some b:=rfl
theorem Dkf {t:Option Tmp}:id t=t:=rfl
theorem Azp {c:Operand} {x y:Code} {t:Bool} (ht:a.eval c=.bool t) (h1:t=true->wpX P main lp x Q a H) (h2:t=false->wpX P main lp y Q a H):wpX P main lp (.cond c x y) Q a H:=by
 refine Avs ht ?_
 cases t
 ·exact h2 rfl
 ·exact h1 rfl
theorem Dqr {ds:List (Option Tmp)}:runL P main lp ds Q [] a H=Q .normal a H:=rfl
theorem Dqs {ds:List (Option Tmp)} {d:Option Tmp} {op:Op} {ty:TypeId} {pos:String} {af:Array Edge} {rest:List Oper} :
 runL P main lp ds Q (⟨d,op,ty,pos,af,none⟩::rest) a H=(fine lp ⟨d,op,ty,pos,af,none⟩=true/\opX P main lp ⟨d,op,ty,pos,af,none⟩ a H (runL P main lp ds Q rest) Q):=rfl
theorem Dkm {ds:List (Option Tmp)} {d:Option Tmp} {op:Op} {ty:TypeId} {pos:String} {af:Array Edge} {j:Nat} {b:Bool} {rest:List Oper} :
 runL P main lp ds Q (⟨d,op,ty,pos,af,some (j,b)⟩::rest) a H=Bv5 (yl ds a.tmps j) b (fine lp ⟨d,op,ty,pos,af,some (j,b)⟩=true/\opX P main lp ⟨d,op,ty,pos,af,some (j,b)⟩ a H (runL P main lp ds Q rest) Q) (runL P main lp ds Q rest (a.put d undef) H):=rfl
end
end Go.X
end
section
namespace Go.X
open Go
open Go.Conc (G base)
section
variable {P:Program} {main:Md} {lp:Option Nat} {Q:Exit->Act->Hp->Prop} {a:Act} {H:Hp}
def scp (c:Code) (I:Nat->Act->Hp->Prop) (Q:Exit->Act->Hp->Prop):Exit->Act->Hp->Prop
 | .normal,a,H=>Q .normal a H
 | .exit id,a,H=>Q (.exit id) a H
 | .goto l,a,H=>if (findLabel c l).isSome then I l a H else Q (.goto l) a H
 | .ret,a,H=>Q .ret a H
 | .panic ch,a,H=>Q (.panic ch) a H
 | .outgrown,_,_=>False
theorem Dvp {c:Code} {I:Nat->Act->Hp->Prop}:scp c I Q .normal a H=Q .normal a H:=rfl
theorem Dvo {c:Code} {I:Nat->Act->Hp->Prop} {i:Nat}:scp c I Q (.exit i) a H=Q (.exit i) a H:=rfl
theorem Dvq {c:Code} {I:Nat->Act->Hp->Prop}:scp c I Q .ret a H=Q .ret a H:=rfl
theorem Bwy {c:Code} (I:Nat->Nat->Act->Hp->Prop) (h:wpX P main lp c (scp c (fun l a H=>∃n,I l n a H) Q) a H)
  (hr:∀l rest n a H,findLabel c l=some rest->I l n a H->wpX P main lp rest (scp c (fun l a H=>∃n',n'<n/\I l n' a H) Q) a H):wpX P main lp (.scope c) Q a H:=by
 intro b k cs Stop hk hl hc
 have key:∀n l rest a H,findLabel c l=some rest->I l n a H->WPG P main Stop (G (fat b a (.code rest::.inScope c::k)) cs) H:=by
  intro n
  induction n using Nat.strongRecOn with
  | _ n ih=>
  intro l rest a H hf hI
  refine hr l rest n a H hf hI b (.inScope c::k) cs Stop hk hl fun e a' H' q=>?_
  cases e with
  | normal=>exact .ctl (g':=G (fat b a' k) cs) rfl (fun w=>by simp [G,stepG,stepG.exec,fat]) (hc _ _ _ q)
  | exit id=>exact fun k' hk'=>hc _ _ _ q k' (hk'.trans (by simp [exitTo]))
  | goto l'=>
   simp only [scp] at q
   split at q
   ·rename_i hs
    obtain ⟨n',hlt,hI'⟩:=q
    obtain ⟨rest',hf'⟩:=Option.isSome_iff_exists.1 hs
    intro k' hk'
    have hx:gotoIn l' k'=some (.code rest'::.inScope c::k):=hk'.trans (by simp [gotoIn,hf'])
    exact .ctl (g':=G (fat b a' (.code rest'::.inScope c::k)) cs) rfl (fun w=>by simp [G,stepG,stepG.exec,fat,hx]) (ih n' hlt l' rest' a' H' hf' hI')
   ·rename_i hs
    have hn:findLabel c l'=none:=by simpa using hs
    exact fun k' hk'=>hc _ _ _ q k' (hk'.trans (by simp [gotoIn,hn]))
  | ret=>exact hc _ _ _ q
  | panic ch=>exact hc _ _ _ q
  | outgrown=>exact q.elim
 refine .ctl (g':=G (fat b a (.code c::.inScope c::k)) cs) rfl (fun w=>by simp [G,stepG,stepG.exec,fat]) ?_
 refine h b (.inScope c::k) cs Stop hk hl fun e a' H' q=>?_
 cases e with
 | normal=>exact .ctl (g':=G (fat b a' k) cs) rfl (fun w=>by simp [G,stepG,stepG.exec,fat]) (hc _ _ _ q)
 | exit id=>exact fun k' hk'=>hc _ _ _ q k' (hk'.trans (by simp [exitTo]))
 | goto l'=>
  simp only [scp] at q
  split at q
  ·rename_i hs
   obtain ⟨n',hI'⟩:=q
   obtain ⟨rest',hf'⟩:=Option.isSome_iff_exists.1 hs
   intro k' hk'
   have hx:gotoIn l' k'=some (.code rest'::.inScope c::k):=hk'.trans (by simp [gotoIn,hf'])
   exact .ctl (g':=G (fat b a' (.code rest'::.inScope c::k)) cs) rfl (fun w=>by simp [G,stepG,stepG.exec,fat,hx]) (key n' l' rest' a' H' hf' hI')
  ·rename_i hs
   have hn:findLabel c l'=none:=by simpa using hs
   exact fun k' hk'=>hc _ _ _ q k' (hk'.trans (by simp [gotoIn,hn]))
 | ret=>exact hc _ _ _ q
 | panic ch=>exact hc _ _ _ q
 | outgrown=>exact q.elim
def scp0 (Q:Exit->Act->Hp->Prop):Exit->Act->Hp->Prop
 | .normal,a,H=>Q .normal a H
 | .exit id,a,H=>Q (.exit id) a H
 | .goto _,_,_=>False
 | .ret,a,H=>Q .ret a H
 | .panic ch,a,H=>Q (.panic ch) a H
 | .outgrown,_,_=>False
theorem Dko:scp0 Q .normal a H=Q .normal a H:=rfl
theorem Dkn {i:Nat}:scp0 Q (.exit i) a H=Q (.exit i) a H:=rfl
theorem Dkp:scp0 Q .ret a H=Q .ret a H:=rfl
theorem Azs {c:Code} (h:wpX P main lp c (scp0 Q) a H):wpX P main lp (.scope c) Q a H:=by
 refine Bwy (fun _ _ _ _=>False) (Az3 h fun e a H q=>?_) fun _ _ _ _ _ _ h=>h.elim
 cases e<;>first | exact q | exact q.elim
end
def aq:=And.intro @Dqr (And.intro @Cy5 (And.intro @Cy2 (And.intro @Cy4 (And.intro @Cy3 (And.intro @Dvw (And.intro @Bvh (And.intro @Dkf (And.intro @Djy (And.intro @Czh (And.intro @Dkw (And.intro @Cjl (And.intro @Dz8 (And.intro @Byy (And.intro @Bzt (And.intro @Dji (And.intro @Cql (And.intro @Awb (And.intro @Djf (And.intro @Cjo (And.intro @Nat.mul_one (And.intro @true_and (And.intro @and_true (And.intro @decide_true (And.intro @decide_false (And.intro @Dvj (And.intro @Dvi (And.intro @Dj2 (And.intro @Dj1 (And.intro @Dj0 (And.intro @Djz (And.intro @Djt (And.intro @Djs (And.intro @Djw (And.intro @Djv (And.intro @Bool.not_true @Bool.not_false)))))))))))))))))))))))))))))))))))
def ap:=And.intro @Dqs @Dkm
def qe0:=@exists_eq_left'
def qe1:=@if_true
def qe2:=@if_false
def qe3:=@beq_iff_eq
def qe4:=@beq_eq_false_iff_ne
def qe5:=@bne_iff_ne
def qe6:=@bne_eq_false_iff_eq
def bq:=And.intro @Dj2 (And.intro @Dj1 (And.intro @Dj0 (And.intro @Djz (And.intro @Djt (And.intro @Djs (And.intro @Djw (And.intro @Djv (And.intro @decide_true (And.intro @decide_false (And.intro @Bool.not_true (And.intro @Bool.not_false (And.intro @Bool.false_eq_true (And.intro @Bool.and_self (And.intro @Bool.and_true (And.intro @Bool.and_false (And.intro @Bool.true_and @Bool.false_and))))))))))))))))
def dq:=And.intro @decide_eq_true_eq (And.intro @decide_eq_false_iff_not (And.intro @Bool.not_eq_true' (And.intro @Bool.not_eq_false' (And.intro @Int.not_lt @Int.not_le))))
def nq:=And.intro @Dvp (And.intro @Dvo (And.intro @Dvq (And.intro @Dko (And.intro @Dkn (And.intro @Dkp (And.intro @Dvu (And.intro @Dvs (And.intro @Dvt (And.intro @Dvv (And.intro @Dva (And.intro @Dk8 (And.intro @Dk9 @Dvb))))))))))))
end Go.X
end
section
namespace Go.X
open Go
def ldO (q:Option Value) (K:Value->Prop):Prop:=∃v,q=some v/\K v
@[congr] theorem ldO_congr {q q':Option Value} {K:Value->Prop} (h:q=q'):ldO q K=ldO q' K:=by rw [h]
theorem ldO_some {v:Value} {K:Value->Prop}:ldO (some v) K=K v:=by simp [ldO]
theorem ld_O {H:Hp} {a:Addr} {K:Value->Prop}:(∃v,H.cell a=some v/\K v)=ldO (H.cell a) K:=rfl
theorem ylK_undef:ylK (some undef)=none:=rfl
theorem gateL_no {b:Bool} {x y:Prop}:Bv5 none b x y=y:=by cases b<;>rfl
end Go.X
end
section
namespace Go.Proofs.YtaehjjbekjglkaaGreatDoor
open Go Go.X
theorem Bkx (m n k:Nat):(Bqm m n).testBit k=(m.testBit k||decide (n=k)):=by
 unfold Bqm
 rw [Nat.testBit_or,Nat.testBit_two_pow]
theorem Ayz:∀(xs:List Int) (m:Nat),(∀x∈xs,0<=x)->∀y:Int,0<=y->(xs.foldl (fun m x=>Bqm m x.toNat) m).testBit y.toNat=(m.testBit y.toNat||decide (y∈xs))
 | [],m,_,y,_=>by simp
 | x::xs,m,h,y,hy=>by
  rw [List.foldl_cons,Ayz xs _ (fun z hz=>h z (List.mem_cons_of_mem _ hz)) y hy,Bkx,Bool.or_assoc]
  congr 1
  have hx:=h x List.mem_cons_self
  have:decide (x.toNat=y.toNat)=decide (y=x):=by
   by_cases e:y=x
   ·subst e;simp
   ·rw [decide_eq_false e,decide_eq_false (by omega)]
  rw [this,<-Bool.decide_or]
  simp [List.mem_cons]
theorem By2 (xs:List Int) (h:∀x∈xs,0<=x) (y:Int) (hy:0<=y):(oOf xs).testBit y.toNat=decide (y∈xs):=by
 unfold oOf
 rw [Ayz xs 0 h y hy]
 simp
end Go.Proofs.YtaehjjbekjglkaaGreatDoor
end
section
namespace Go.X
open Go
section
variable {P:Program} {main:Md} {lp:Option Nat} {Q:Exit->Act->Hp->Prop} {a:Act} {H:Hp}
theorem Aqc {H H':Hp} {b:Nat} {o:Obj} (h:H.set b o=H') (hb:H b=none):H.le H':=h▸Hp.le_set hb
theorem Aqb {H H':Hp} {b:Nat} {o:Obj} (h:H.set b o=H'):H' b=some (true,o):=by rw [<-h,Axp,if_pos rfl]
theorem Aqi {H H':Hp} {b x:Nat} {o:Obj} {v:Bool×Obj} (h:H.set b o=H') (hx:H x=some v) (hn:x≠b):H' x=some v:=by rw [<-h,Axp,if_neg hn];exact hx
theorem Aqr {H:Hp} {b x:Nat} {v:Bool×Obj} (hx:H x=some v) (hb:H b=none):x≠b:=fun e=>by rw [e,hb] at hx;cases hx
theorem Cko (op:BinOp) (t:TypeId) (x y:Operand) (p q:Option Addr) (n c n' c':Nat) (K:Unit->Hp->Prop) (E:Value->Hp->Prop):wpS P (eqGuard op t x y (.slice p n c) (.slice q n' c')) H K E=K () H:=by
 unfold eqGuard;cases op<;>rfl
theorem Ckn (op:BinOp) (t:TypeId) (x y:Operand) (u:TypeId) (v:Value) (K:Unit->Hp->Prop) (E:Value->Hp->Prop):wpS P (eqGuard op t x y (.iface u v) .nilIface) H K E=K () H:=by
 unfold eqGuard;cases op<;>rfl
theorem Dzy (op:BinOp) (t:TypeId) (x:Operand) (v:Value) (K:Unit->Hp->Prop) (E:Value->Hp->Prop):wpS P (eqGuard op t x (.const v) .nilIface .nilIface) H K E=K () H:=by
 unfold eqGuard;cases op<;>cases x<;>rfl
theorem Bkc {t e:TypeId} (hu:P.underlying t=some (.slice e)) (p:Option Addr) (n c:Nat) (K:Value->Hp->Prop) (E:Value->Hp->Prop):wpS P (binOp .eql t (.slice p n c) (.slice none 0 0)) H K E=K (.bool p.isNone) H:=by
 simp only [binOp]
 rw [Aqa]
 unfold Op.equal Op.maxDepth
 rw [show (10000:Nat)=9999+1 from rfl]
 unfold Op.equalIn
 rw [Aqa,Aqj hu]
 cases p<;>rfl
theorem Bw7 {t:TypeId} {ms:Array (String×TypeId)} (hu:P.underlying t=some (.interface ms)) (K:Value->Hp->Prop) (E:Value->Hp->Prop):wpS P (binOp .eql t .nilIface .nilIface) H K E=K (.bool true) H:=by
 simp only [binOp]
 rw [Aqa]
 unfold Op.equal Op.maxDepth
 rw [show (10000:Nat)=9999+1 from rfl]
 unfold Op.equalIn
 rw [Aqa,Aqj hu]
 rfl
theorem Bkb {t:TypeId} {ms:Array (String×TypeId)} (hu:P.underlying t=some (.interface ms)) (u:TypeId) (v:Value) (K:Value->Hp->Prop) (E:Value->Hp->Prop):wpS P (binOp .eql t (.iface u v) .nilIface) H K E=K (.bool false) H:=by
 simp only [binOp]
 rw [Aqa]
 unfold Op.equal Op.maxDepth
 rw [show (10000:Nat)=9999+1 from rfl]
 unfold Op.equalIn
 rw [Aqa,Aqj hu]
 rfl
theorem Bw8 {t:TypeId} {ms:Array (String×TypeId)} (hu:P.underlying t=some (.interface ms)) (K:Value->Hp->Prop) (E:Value->Hp->Prop):wpS P (binOp .neq t .nilIface .nilIface) H K E=K (.bool false) H:=by
 simp only [binOp]
 rw [Aqa]
 unfold Op.equal Op.maxDepth
 rw [show (10000:Nat)=9999+1 from rfl]
 unfold Op.equalIn
 rw [Aqa,Aqj hu]
 rfl
theorem Bkd {t:TypeId} {ms:Array (String×TypeId)} (hu:P.underlying t=some (.interface ms)) (u:TypeId) (v:Value) (K:Value->Hp->Prop) (E:Value->Hp->Prop):wpS P (binOp .neq t (.iface u v) .nilIface) H K E=K (.bool true) H:=by
 simp only [binOp]
 rw [Aqa]
 unfold Op.equal Op.maxDepth
 rw [show (10000:Nat)=9999+1 from rfl]
 unfold Op.equalIn
 rw [Aqa,Aqj hu]
 rfl
theorem Ayu {t st:TypeId} {d:TypeDesc} (hu:P.underlying t=some d) (hd:(match d with | .interface _=>true | _=>false)=false) {z:Value} (hz:∀w,(zeroValue t).run P w=.ok z w) (u:TypeId) (v:Value) (K:Value->Hp->Prop) (E:Value->Hp->Prop) :
  wpS P (Instr.typeAssert (.iface u v) st t true) H K E=if u=t then K (.tuple #[v,.bool true]) H else K (.tuple #[z,.bool false]) H:=by
 unfold Instr.typeAssert
 rw [Aqa,Aqj hu]
 cases d<;>first | (cases hd;done) | (simp only [Bzz,Aqf,if_true,Aqa,Axe hz])
def Bjc (P:Program) (v:Value) (name:String) (args:Array Value) (H:Hp) (K:Next->Hp->Prop) (E:Value->Hp->Prop):Prop:=wpS P (callMethod v name args) H K E
@[congr] theorem methK_congr {v v':Value} {name:String} {args args':Array Value} {H':Hp} {K:Next->Hp->Prop} {E:Value->Hp->Prop} (hv:v=v') (ha:args=args') (hH:H=H'):Bjc P v name args H K E=Bjc P v' name args' H' K E:=by subst hv ha hH;rfl
theorem Akh (ρ:Operand->Value) (d:Option Tmp) (ty:TypeId) (pos:String) (af:Array Edge) (g:Option (Nat×Bool)) (K:Next->Hp->Prop) (E:Value->Hp->Prop) {x:Operand} {name:String} {args:List Operand} {ats:Array TypeId} :
  wpS P (execOp ρ ⟨d,.call ⟨.invoke x name,args.toArray,ats⟩,ty,pos,af,g⟩) H K E=Bjc P (ρ x) name (args.toArray.map ρ) H K E:=by
 simp only [execOp,resolve,invoke,Bjc]
 rw [Aqa]
 simp only [Aqf]
 have h0:(#[ρ x]++Array.map ρ args.toArray)[0]?=some (ρ x):=by simp
 have h1:(#[ρ x]++Array.map ρ args.toArray).extract 1 (#[ρ x]++Array.map ρ args.toArray).size=Array.map ρ args.toArray:=by
  apply Array.ext'
  simp [List.extract_eq_take_drop,List.take_of_length_le]
 simp only [h0,h1]
theorem Bym {t e:TypeId} {t2:TypeId} (hu:P.underlying t=some (.slice e)) (hs:∀w,(sizeOf e).run P w=.ok 1 w) (ty:TypeId) (cb:Array Bool) (b o n c b2 o2 n2 c2:Nat) {p2:Bool} {cs cs2:List Value} {e1 e2:TypeId} {fr2:Nat×Nat}
  (hb:H b=some (true,.cells cs.toArray e1 (0,0))) (hb2:H b2=some (p2,.cells cs2.toArray e2 fr2)) (h1:o+min n2 n<=cs.length) (h2:o2+min n2 n<=cs2.length) (hone:∀v∈(cs2.drop o2).take (min n2 n),one v=true) (K:Next->Hp->Prop) (E:Value->Hp->Prop)
  (hK:K (.value (.int .i64 (min n2 n:Nat))) (H.set b (.cells (over cs.toArray o ((cs2.drop o2).take (min n2 n))) e1 (0,0)))) :
  wpS P (builtin .copy #[t,t2] ty cb #[.slice (some ⟨b,o,none⟩) n c,.slice (some ⟨b2,o2,none⟩) n2 c2]) H K E:=by
 simp only [builtin]
 rw [Aqa]
 unfold Builtin.copy_
 simp only [List.getElem?_toArray,List.getElem?_cons_zero,List.getElem?_cons_succ]
 have hlen:((cs2.drop o2).take (min n2 n)).length=min n2 n:=by simp;omega
 have hmin:Nat.min n2 n=min n2 n:=rfl
 simp only [Aqa,Aqj hu,Aqf,Builtin.lenOf,Aq0 hs,hmin,Nat.mul_one,Builtin.firstCells]
 rw [Azl (cs:=(cs2.drop o2).take (min n2 n)) (by rw [hlen]) (fun j u hj=>by
  have hjl:j<((cs2.drop o2).take (min n2 n)).length:=(List.getElem?_eq_some_iff.1 hj).1
  rw [hlen] at hjl
  rw [cell_of hb2]
  rw [List.getElem?_take_of_lt hjl,List.getElem?_drop] at hj
  simpa using hj)]
 simp only [Aqa]
 refine Ak3 b o _ E _ 0 H cs.toArray e1 (by simpa using hone) hb ?_ ?_
 ·simp only [List.toList_toArray,hlen,Nat.add_zero,List.size_toArray]
  omega
 ·simp only [List.toList_toArray,Nat.add_zero,Aqf]
  exact hK
theorem Aw9 {t e:TypeId} (hu:P.underlying t=some (.slice e)) {sz:Nat} (hs:∀w,(sizeOf e).run P w=.ok sz w) (ty:TypeId) (cb:Array Bool) (p q:Option Addr) (n cap cap2:Nat) (h:n<=cap) (K:Next->Hp->Prop) (E:Value->Hp->Prop) (hK:K (.value (.slice p n cap)) H) :
  wpS P (builtin .append #[t,t] ty cb #[.slice p n cap,.slice q 0 cap2]) H K E:=by
 simp only [builtin]
 rw [Aqa]
 unfold Builtin.append_
 simp only [List.getElem?_toArray,List.getElem?_cons_zero,List.getElem?_cons_succ]
 rw [Aqa,Aqj hu]
 simp only [Aqa,Aq0 hs,Aqj hu,Aqf,Bool.false_eq_true,if_false,Builtin.lenOf,Bzz,Nat.add_zero,h,if_true,Bool.not_false]
 have hf:∀(K':Array Value->Hp->Prop),wpS P (Builtin.firstCells sz 0 (.slice q 0 cap2)) H K' E=K' #[] H:=fun K'=>by
  unfold Builtin.firstCells
  cases q with
  | none=>rfl
  | some a=>simp only [loadCells,Nat.zero_mul];rfl
 rw [hf]
 cases p with
 | none=>simp only [Aqf];exact hK
 | some a=>simp only [Aqa,storeCells,Aqf];exact hK
end
end Go.X
end
section
namespace Go.Proofs.YtaehjjbekjglkaaGreatDoor
open Go Go.X
variable {H:Hp} (args:Array Value) (K:Next->Hp->Prop) (E:Value->Hp->Prop)
theorem Ay4 (v:Value):Bjc Tryz.prog (.iface 220 v) "gladstone/smell.at" args H K E=wpS Tryz.prog (callFunc 178 (#[v]++args)) H K E:=by kernel_rfl
theorem Ay5 (v:Value):nilK Tryz.prog (.func (.method "gladstone/smell.at") #[.iface 220 v] #[]) H K E=K (.value (.func (.method "gladstone/smell.at") #[.iface 220 v] #[])) H:=by kernel_rfl
theorem Bxg (v:Value):Bjc Tryz.prog (.iface 222 v) "gladstone/smell.at" args H K E=wpS Tryz.prog (callFunc 179 (#[v]++args)) H K E:=by kernel_rfl
theorem Bxi (v:Value):nilK Tryz.prog (.func (.method "gladstone/smell.at") #[.iface 222 v] #[]) H K E=K (.value (.func (.method "gladstone/smell.at") #[.iface 222 v] #[])) H:=by kernel_rfl
end Go.Proofs.YtaehjjbekjglkaaGreatDoor
end
section
namespace Go.Proofs.YtaehjjbekjglkaaGreatDoor
open Go Go.X
theorem SlI.isSlice {H:Hp} {v:Value} {xs:List Int} (h:SlI H v xs):∃a n c,v=.slice a n c:=by
 obtain ⟨a,c,rfl,_⟩:=h
 exact ⟨_,_,_,rfl⟩
end Go.Proofs.YtaehjjbekjglkaaGreatDoor
end
section
namespace Go.Proofs.YtaehjjbekjglkaaGreatDoor
open Go Go.X Go.Proofs.Tryz
def Bq9:=aN @Cko (aN (fun H=>Bkc (H:=H) underlying23) (fun H=>Bxz (H:=H) underlying23 sizeOf3))
theorem Dvx {p q:Prop} (g:q) (h:Hid q->p:=by
 intro g
 repeat' (first
 | (refine Axz rfl ?_;intro Kz hKz;simp -implicitDefEqProofs (disch:=first | omega | (simp only [qd]<;>omega)) only [xq,↓xp,qc,Nat.reduceAdd,List.range,List.range.loop,fine,Nat.reduceEqDiff,↓reduceIte,yielded,reduceCtorEq,Nat.reduceLT,Nat.reduceMul,Nat.reduceSub,one,Nat.reduceLeDiff,Aqg,Bq9,aq,↓ap,qe0,qe1,qe2, *,-g,-hKz,Option.isNone_none];try (refine hKz _ _ ?_;clear hKz Kz))
 | (refine Azq rfl ?_;intro Kz hKz;simp -implicitDefEqProofs (disch:=first | omega | (simp only [qd]<;>omega)) only [xq,↓xp,qc,Nat.reduceAdd,List.range,List.range.loop,fine,Nat.reduceEqDiff,↓reduceIte,yielded,reduceCtorEq,Nat.reduceLT,Nat.reduceMul,Nat.reduceSub,one,Nat.reduceLeDiff,Aqg,Bq9,aq,↓ap,qe0,qe1,qe2, *,-g,-hKz,Option.isNone_none];try (refine hKz _ _ ?_;clear hKz Kz;(try simp only [nq,↓reduceIte,Nat.reduceEqDiff])))
 | (refine Aza ?_;(try simp only [nq,↓reduceIte,Nat.reduceEqDiff]))
 | (refine Azd ?_;(try simp only [nq,↓reduceIte,Nat.reduceEqDiff]))
 | (refine Az2 ?_;(try simp only [nq,↓reduceIte,Nat.reduceEqDiff]))
 | (refine Az9 ?_;(try simp only [nq,↓reduceIte,Nat.reduceEqDiff]))
 | (refine Azp (by simp only [Aq7,Axf,Nat.reduceEqDiff,Nat.reduceLT,↓reduceIte, *,-g];rfl) ?_ ?_<;>(intro hcz;first | (exfalso;simp -implicitDefEqProofs (disch:=omega) only [*,-g,bq,reduceCtorEq] at hcz;done) | (simp only [dq,qe3,qe4,qe5,qe6] at hcz) | skip))
 | (refine Azs ?_)
 | (refine Ax7 ?_)
 | (refine Axn ?_))
 refine unT ?_;(try (revert hcz;refine unC ?_));(repeat (revert hcz;refine unD ?_));first | revert Kz | refine unU ?_
 exact Hid.out g):Hid p:=⟨h ⟨g⟩⟩
theorem Dvy {p q:Prop} (g:q) (h:Hid q->p:=by
 intro g
 repeat' (first
 | (refine Axz rfl ?_;intro Kz hKz;simp -implicitDefEqProofs (disch:=first | omega | (simp only [qd]<;>omega)) only [xq,↓xp,qc,Nat.reduceAdd,List.range,List.range.loop,fine,Nat.reduceEqDiff,↓reduceIte,yielded,reduceCtorEq,Nat.reduceLT,Nat.reduceMul,Nat.reduceSub,one,Nat.reduceLeDiff,Aqg,Bq9,aq,↓ap,qe0,qe1,qe2, *,-g,-hKz,Option.isNone_some];try (refine hKz _ _ ?_;clear hKz Kz))
 | (refine Azq rfl ?_;intro Kz hKz;simp -implicitDefEqProofs (disch:=first | omega | (simp only [qd]<;>omega)) only [xq,↓xp,qc,Nat.reduceAdd,List.range,List.range.loop,fine,Nat.reduceEqDiff,↓reduceIte,yielded,reduceCtorEq,Nat.reduceLT,Nat.reduceMul,Nat.reduceSub,one,Nat.reduceLeDiff,Aqg,Bq9,aq,↓ap,qe0,qe1,qe2, *,-g,-hKz,Option.isNone_some];try (refine hKz _ _ ?_;clear hKz Kz;(try simp only [nq,↓reduceIte,Nat.reduceEqDiff])))
 | (refine Aza ?_;(try simp only [nq,↓reduceIte,Nat.reduceEqDiff]))
 | (refine Azd ?_;(try simp only [nq,↓reduceIte,Nat.reduceEqDiff]))
 | (refine Az2 ?_;(try simp only [nq,↓reduceIte,Nat.reduceEqDiff]))
 | (refine Az9 ?_;(try simp only [nq,↓reduceIte,Nat.reduceEqDiff]))
 | (refine Azp (by simp only [Aq7,Axf,Nat.reduceEqDiff,Nat.reduceLT,↓reduceIte, *,-g];rfl) ?_ ?_<;>(intro hcz;first | (exfalso;simp -implicitDefEqProofs (disch:=omega) only [*,-g,bq,reduceCtorEq] at hcz;done) | (simp only [dq,qe3,qe4,qe5,qe6] at hcz) | skip))
 | (refine Azs ?_)
 | (refine Ax7 ?_)
 | (refine Axn ?_))
 refine unT ?_;(try (revert hcz;refine unC ?_));(repeat (revert hcz;refine unD ?_));first | revert Kz | refine unU ?_
 exact Hid.out g):Hid p:=⟨h ⟨g⟩⟩
theorem Czk (m:Md) (H:Hp) (v:Value) (xs:List Int) (hv:SlI H v xs) (hl:xs.length<=1000000) :
  FnX Tryz.prog m 85 #[v] H fun e H'=>∃w,e=.returned w/\RowX none H H' w 3 (ints xs):=by
 obtain ⟨a,cap,rfl,hcap,hx⟩:=hv
 refine Aqn func85 rfl ntmps85 (by simp) ?_
 cases a with
 | none=>
  have:xs=[]:=by
   cases xs with
   | nil=>rfl
   | cons x xs=>obtain ⟨b,o,p,c,fr,h,_⟩:=hx 0 x rfl;cases h
  subst this
  (refine @unH _ (Dvx ?_);(try clear hK K);intro K hK hc)
  (refine @unH _ ?_;refine z9 results85 ?_)
  exact ⟨_,rfl,RowX.nil⟩
 | some ad=>
  (refine @unH _ (Dvy ?_);(try clear hK K);intro K hK hc)
  intro nb hnb
  have hle:H.le (H.set nb (.cells #[] 3 (0,0))):=Hp.le_set hnb
  have hrow0:Aju H (H.set nb (.cells #[] 3 (0,0))) (.slice (some ⟨nb,0,none⟩) 0 0) 3 1 0 (ints []):=.inr ⟨nb,#[],0,hnb,rfl,rfl,rfl,rfl,Nat.le_refl _,fun i u hi=>by simp [ints] at hi⟩
  obtain ⟨b,o,sp⟩:=ad
  cases xs with
  | nil=>
   (refine @unH _ (zU Bq9 ?_);intro _ _ hc)
   refine Aw9 underlying23 sizeOf3 _ _ _ _ _ _ _ (Nat.le_refl _) _ _ ?_
   (refine @unH _ (zU Bq9 ?_);(try clear hK K);intro K hK hc)
   (refine @unH _ ?_;refine z9 results85 ?_)
   exact ⟨_,rfl,Lex.of hle,.inr ⟨nb,#[],0,hnb,Axh,rfl,rfl,Nat.le_refl _,fun i u hi=>by simp [ints] at hi⟩⟩
  | cons x0 xs0=>
   obtain ⟨b',o',p',c',fr',h',hb',_⟩:=hx 0 x0 rfl
   cases h'
   (refine @unH _ (zU Bq9 ?_);intro _ _ hc)
   have hgne:b≠nb:=Aqr hb' hnb
   refine Bxw hrow0 (Hp.le_refl _) (ys:=x0::xs0) rfl (fun h=>absurd h (by rw [hb'];simp)) (fun j y hj=>?_) (by simp at hl ⊢;omega) _ _ _ _ (fun v' H1 H2 hr hl2=>?_)
   ·obtain ⟨b2,o2,p2,c2,fr2,e2,hb2,hc2⟩:=hx j y hj
    cases e2
    rw [Bx2 hgne,cell_of hb2]
    exact hc2
   ·(refine @unH _ (zU Bq9 ?_);(try clear hK K);intro K hK hc)
    (refine @unH _ ?_;refine z9 results85 ?_)
    refine ⟨_,rfl,?_⟩
    have hlen:=hr.len
    rcases hr with ⟨_,h0,_⟩ | ⟨b3,c3,cap3,hb3,rfl,rfl,hs3,hl3,hn3,hg3⟩
    ·simp at h0
    ·refine ⟨Lex.of (Hp.le_trans (Hp.le_set hb3) hl2),.inr ⟨b3,c3,cap3,hb3,hl2 _ _ Axh,?_,by simpa using hs3,?_,?_⟩⟩
     ·simp [ints]
     ·simpa [ints] using hn3
     ·intro i u hi;exact hg3 i u (by simpa using hi)
end Go.Proofs.YtaehjjbekjglkaaGreatDoor
end
section
namespace Go.Proofs.YtaehjjbekjglkaaGreatDoor
open Go Go.X
def Dvn (r:Int) (came asked later:List Int) (p:Int):Int:=
 if r=0 then p else if r=1 then came.getD p.toNat 0 else if r=2 then asked.getD p.toNat 0 else-later.getD p.toNat 0
theorem Cxw {P:Program} {main:Md} {H:Hp} {f:FuncId} {args:Array Value} {v:Value} (h:FnX P main f args H fun e H'=>e=.returned v/\H.le H'):Runs P main (Frame.enter P f args .normal) H fun
  | .returned u,H₁=>u=v/\H₁=H
  | _,_=>False:=
 h.runs.less fun e H₁ he=>by obtain ⟨rfl,hl⟩:=he;exact ⟨H,hl,rfl,rfl⟩
end Go.Proofs.YtaehjjbekjglkaaGreatDoor
end
section
namespace Go.X
open Go
open Go.Conc (G base)
def both (K:Act->Hp->Prop) (E:List PanicEntry->Act->Hp->Prop):Exit->Act->Hp->Prop
 | .normal,a,H=>K a H
 | .panic ch,a,H=>E ch a H
 | _,_,_=>False
section
variable {P:Program} {main:Md} {lp:Option Nat} {Q:Exit->Act->Hp->Prop} {a:Act} {H:Hp}
theorem Cj6 {K:Act->Hp->Prop} {E:List PanicEntry->Act->Hp->Prop}:both K E .normal a H=K a H:=rfl
theorem Cj7 {K:Act->Hp->Prop} {E:List PanicEntry->Act->Hp->Prop} {ch:List PanicEntry}:both K E (.panic ch) a H=E ch a H:=rfl
theorem Cq8 {ops:Array Oper} {K:Act->Hp->Prop} {E:List PanicEntry->Act->Hp->Prop} (hE:∀c a H,E c a H->Q (.panic c) a H) (hK:∀a H,K a H->Q .normal a H) :
  ∀ {todo:List Nat} {a:Act} {H:Hp},runX P main lp ops (both K E) todo a H->runX P main lp ops Q todo a H
 | [],_,_,h=>hK _ _ h
 | _::_,_,_,h=>Bzg (fun c a H h=>hE c a H h) (fun _ _ h=>Cq8 hE hK h) h
theorem Bz2 {id:Nat} {ops:List Oper} {ds:List (Option Tmp)} (hds:ops.map (·.dst)=ds)
  (h:∀(K:Act->Hp->Prop) (E:List PanicEntry->Act->Hp->Prop),(∀a' H',Q .normal a' H'->K a' H')->(∀ch a' H',Q (.panic ch) a' H'->E ch a' H')->runL P main lp ds (both K E) ops a H) :
  wpX P main lp (.region id ops.toArray false) Q a H:=
 Bvd (Cq8 (fun _ _ _ h=>h) (fun _ _ h=>h) (Bk4 hds (h _ _ (fun _ _ h=>h) fun _ _ _ h=>h)))
section
variable {ρ:Operand->Value} {d:Option Tmp} {ty:TypeId} {pos:String} {af:Array Edge} {g:Option (Nat×Bool)} {K:Next->Hp->Prop} {E:Value->Hp->Prop}
theorem Bks (x:Operand):wpS P (execOp ρ ⟨d,.panic x,ty,pos,af,g⟩) H K E=wpS P (Instr.panic (ρ x)) H (fun v H'=>K (.value v) H') E:=Aqa _ _ _ _
end
theorem Ayh {t:TypeId} {v:Value} {K:Value->Hp->Prop} {E:Value->Hp->Prop}:wpS P (Instr.panic (.iface t v)) H K E=E (.iface t v) H:=rfl
end
end Go.X
end
section
namespace Go.Proofs.YtaehjjbekjglkaaGreatDoor
open Go Go.X
def nxt (ts:List Int) (k:Nat) (p:Int):Nat:=k+(ts.drop k).findIdx (· == p)
def Dq6 (ts:List Int) (k:Nat):List Int:=(List.range 6).map fun p:Nat=>(nxt ts k (p:Int):Int)
end Go.Proofs.YtaehjjbekjglkaaGreatDoor
end
