/- Texts More. -/
import Derived.Test.YtaehjjbekjglkaaGreatDoorJ08
set_option linter.defProp false
set_option linter.unusedSimpArgs false
set_option linter.unusedVariables false
set_option maxRecDepth 100000
set_option maxHeartbeats 2000000
section
namespace Go.X
open Go
section
variable {P:Program} {main:Md} {lp:Option Nat} {Q:Exit->Act->Hp->Prop} {a:Act} {H:Hp}
theorem Avm {t e:TypeId} {z:Value} {inf:TypeInfo} (hu:P.underlying t=some (.slice e)) (hs:∀w,(sizeOf e).run P w=.ok 1 w) (hz:∀w,(zeroValue e).run P w=.ok z w) (hz1:one z=true)
  (hi:∀w,(typeInfo e).run P w=.ok inf w) (hby:inf.bytes<=1024) (k j:IntKind) (n:Int) (h0:0<=n) (h1:n<=1000000) (K:Value->Hp->Prop) (E:Value->Hp->Prop) :
  wpS P (Instr.makeSlice t (.int k n) (.int j n)) H K E=∀b,H b=none->K (.slice (some ⟨b,0,none⟩) n.toNat n.toNat) (H.set b (.cells (Array.replicate n.toNat z) e (0,0))):=by
 have hinf:=Aki hi
 have hw:IntKind.i64.wrap n=n:=w64 n (by omega) (by omega)
 have hb:¬((inf.bytes:Int)*n>2 ^ 48):=by
  have:(inf.bytes:Int)*n<=1024*1000000:=Int.mul_le_mul (by omega) h1 h0 (by omega)
  have h2:(2:Int) ^ 48=281474976710656:=by decide
  omega
 have h00:¬n<0:=by omega
 unfold Instr.makeSlice
 simp only [Aqa,Aqj hu,asInt,asIntOf,Aqf,Ajx hinf,hw]
 simp only [h00,decide_false,hb,Bool.or_self,Bool.false_eq_true,if_false,gt_iff_lt,Int.lt_irrefl,Aqa,Awk,Aq0 hs,Nat.mul_one]
 have h0r:∀f:Nat->Value,Array.map f (Array.range 0)=#[]:=fun f=>Array.eq_empty_of_size_eq_zero (by simp)
 by_cases hn:n.toNat=0
 ·simp [-bind_pure_comp,hn,Aqf,newRow,newObj,Aqa,wpS,h0r]
 ·simp only [hn,if_false,Aqa,Axe hz,Aqf,cells_one hz1,reps,newRow,newObj,wpS]
theorem Ayg (ats:Array TypeId) (ty:TypeId) (cs:Array Bool) (k j:IntKind) (x y:Int) (K:Next->Hp->Prop) (E:Value->Hp->Prop) :
  wpS P (builtin .min ats ty cs #[.int k x,.int j y]) H K E=K (.value (.int k (if y<x then y else x))) H:=by
 simp only [builtin,Builtin.min_,Aqa,List.foldlM,Builtin.min2,Aqf]
theorem Bkv (ats:Array TypeId) (ty:TypeId) (cs:Array Bool) (k j:IntKind) (x y:Int) (K:Next->Hp->Prop) (E:Value->Hp->Prop) :
  wpS P (builtin .max ats ty cs #[.int k x,.int j y]) H K E=K (.value (.int k (if x<y then y else x))) H:=by
 simp only [builtin,Builtin.max_,Aqa,List.foldlM,Builtin.max2,Aqf]
theorem Aq4 {t e:TypeId} {N:Nat} (hu:P.underlying t=some (.array N e)) {n:Nat} (hs:∀w,(sizeOf e).run P w=.ok n w) (b o:Nat) (k:IntKind) (i:Int) (K:Value->Hp->Prop) (E:Value->Hp->Prop) (h0:0<=i) (h1:i<N) :
  wpS P (Instr.indexAt t (.pointer (some ⟨b,o,none⟩)) (.int k i)) H K E=K (.pointer (some ⟨b,o+i.toNat*n,none⟩)) H:=by
 unfold Instr.indexAt
 rw [Aqa]
 simp only [asIntOf,Aqf]
 simp only [Aqa,Aqj hu,Instr.sureAddr,Aqf,h0,h1,and_self,if_true,Aq0 hs,Aj2]
def Dz7 (q:Option (Nat×Nat)) (v:Value) (cs:List Value):List Value:=match q with
 | none=>cs
 | some (off,n)=>cs.take off++v.cells.toList++cs.drop (off+n)
def layT (pl:List (Nat×Nat)):List (Nat×Value)->List Value->List Value
 | [],cs=>cs
 | (i,v)::rest,cs=>layT pl rest (Dz7 pl[i]? v cs)
theorem Dqb {pl:List (Nat×Nat)} {cs:List Value}:layT pl [] cs=cs:=rfl
theorem Cva {pl:List (Nat×Nat)} {cs:List Value} {i:Nat} {v:Value} {rest:List (Nat×Value)}:layT pl ((i,v)::rest) cs=layT pl rest (Dz7 pl[i]? v cs):=rfl
theorem Cz3 {v:Value} {cs:List Value} {off n:Nat}:Dz7 (some (off,n)) v cs=cs.take off++v.cells.toList++cs.drop (off+n):=rfl
theorem Ckg {k:IntKind} {x:Int}:(Value.int k x).cells=#[.int k x]:=rfl
theorem Czi {x:Bool}:(Value.bool x).cells=#[.bool x]:=rfl
theorem Byk {x:Option Addr} {n c:Nat}:(Value.slice x n c).cells=#[.slice x n c]:=rfl
theorem Bkl {x:Option Addr}:(Value.pointer x).cells=#[.pointer x]:=rfl
theorem Ckh {x:Option Nat}:(Value.map x).cells=#[.map x]:=rfl
theorem Byj {x:TypeId} {v:Value}:(Value.iface x v).cells=#[.iface x v]:=rfl
theorem Bvu {c:Array Value}:(Value.agg c).cells=c:=rfl
def Dql (K:Act->Hp->Prop) (Q:Exit->Act->Hp->Prop) (d:Option Tmp) (a:Act):Ending->Hp->Prop
 | .returned v,H'=>K (a.put d v) H'
 | .panicked c,H'=>Q (.panic c) a H'
 | .outgrown,_=>False
theorem Azn {K:Act->Hp->Prop} {d:Option Tmp} {v:Value}:Dql K Q d a (.returned v) H=K (a.put d v) H:=rfl
theorem Ajw {o:Oper} {K:Act->Hp->Prop} (f:FuncId) (args:Array Value):Awe P main lp o a K Q (.enter f args) H=Runs P main (Frame.enter P f args .normal) H (Dql K Q o.dst a):=by
 unfold Awe
 congr 1
def exK (q:Option Value) (K:Value->Prop):Prop:=match q with
 | some v=>K v
 | none=>False
theorem Cym {v:Value} {K:Value->Prop}:exK (some v) K=K v:=rfl
theorem Ckv (vs:List Value) (i:Nat) (K:Value->Hp->Prop) (E:Value->Hp->Prop):wpS P (Instr.extract (.tuple vs.toArray) i) H K E=exK vs[i]? (fun v=>K v H):=by
 unfold Instr.extract exK
 simp only [List.getElem?_toArray]
 cases vs[i]? <;> rfl
theorem Ayf {t:TypeId} {d:TypeDesc} (hu:P.underlying t=some d) (hd:aggB d=true) {n:Nat} (hs:∀w,(sizeOf t).run P w=.ok (n+1) w) (b o:Nat) (K:Value->Hp->Prop) (E:Value->Hp->Prop) :
 wpS P (loadVar t ⟨b,o,none⟩) H K E=Bql H b o (n+1) (fun v=>K v H):=Aqp hu hd hs b o K E
theorem Ax4 {fn:Func} {t:Tmp} {ty:TypeId} (h:fn.results=#[.cell t ty]) {n:Nat} {e:Nat->Value} {ds:List Deferred} (ht:t<n) {b o:Nat} (hb:e t=.pointer (some ⟨b,o,none⟩))
  {d:TypeDesc} (hu:P.underlying ty=some d) (hd:aggB d=true) {k:Nat} (hs:∀w,(sizeOf ty).run P w=.ok (k+1) w) (K:Value->Hp->Prop) (E:Value->Hp->Prop) :
  wpS P (results fn (act n e ds).tmps) H K E=Bql H b o (k+1) (fun v=>K v H):=by
 simp [-bind_pure_comp,results,h,act_get? ht,hb,asAddr,Aqa,Aqf,Ayf hu hd hs]
theorem results_cell_tmp {fn:Func} {t u:Tmp} {ty:TypeId} (h:fn.results=#[.cell t ty,.tmp u]) {n:Nat} {e:Nat->Value} {ds:List Deferred} (ht:t<n) (hu':u<n) {b o:Nat} (hb:e t=.pointer (some ⟨b,o,none⟩))
  {d:TypeDesc} (hu:P.underlying ty=some d) (hd:aggB d=true) {k:Nat} (hs:∀w,(sizeOf ty).run P w=.ok (k+1) w) (K:Value->Hp->Prop) (E:Value->Hp->Prop) :
  wpS P (results fn (act n e ds).tmps) H K E=Bql H b o (k+1) (fun v=>K (.tuple #[v,e u]) H):=by
 simp [-bind_pure_comp,results,h,act_get? ht,act_get? hu',hb,asAddr,Aqa,Aqf,Ayf hu hd hs]
theorem Bk3 {fn:Func} {t u v:Tmp} (h:fn.results=#[.tmp t,.tmp u,.tmp v]) {n:Nat} {e:Nat->Value} {ds:List Deferred} (ht:t<n) (hu:u<n) (hv:v<n) (K:Value->Hp->Prop) (E:Value->Hp->Prop) :
  wpS P (results fn (act n e ds).tmps) H K E=K (.tuple #[e t,e u,e v]) H:=by
 simp [results,h,act_get? ht,act_get? hu,act_get? hv,Aqf]
theorem Az5 (k:IntKind) (i:Int) (cap:Nat) (kd:BoundsCode) (h0:0<=i) (h1:i<=cap) (K:Nat->Hp->Prop) (E:Value->Hp->Prop):wpS P (Instr.sliceBound (.int k i) cap kd) H K E=K i.toNat H:=by
 unfold Instr.sliceBound
 simp [-bind_pure_comp,Aqa,asIntOf,Aqf,h0,h1]
theorem Bk6 {t e:TypeId} (hu:P.underlying t=some (.slice e)) {n:Nat} (hs:∀w,(sizeOf e).run P w=.ok n w) (b o len cap:Nat) (k:IntKind) (i:Int) (h0:0<=i) (h1:i<=cap) (K:Value->Hp->Prop) (E:Value->Hp->Prop) :
  wpS P (Instr.sliceAt t (.slice (some ⟨b,o,none⟩) len cap) (none:Option Value) (some (.int k i)) none) H K E=K (.slice (some ⟨b,o,none⟩) i.toNat cap) H:=by
 unfold Instr.sliceAt Instr.slice Instr.sliceBounds
 simp [-bind_pure_comp,Aqa,Aqj hu,Aqf,Az5 k i cap _ h0 h1,Aq0 hs,Aj2]
theorem Cvx {t e:TypeId} {N:Nat} (hu:P.underlying t=some (.array N e)) {n:Nat} (hs:∀w,(sizeOf e).run P w=.ok n w) (b o:Nat) (K:Value->Hp->Prop) (E:Value->Hp->Prop) :
  wpS P (Instr.sliceAt t (.pointer (some ⟨b,o,none⟩)) (none:Option Value) none none) H K E=K (.slice (some ⟨b,o,none⟩) N N) H:=by
 unfold Instr.sliceAt Instr.sliceBounds
 simp [-bind_pure_comp,Aqa,Aqj hu,Instr.sureAddr,Aqf,Aq0 hs,Aj2]
theorem Bwn {t e:TypeId} {N:Nat} (hu:P.underlying t=some (.array N e)) {n:Nat} (hs:∀w,(sizeOf e).run P w=.ok n w) (b o:Nat) (k:IntKind) (i:Int) (h0:0<=i) (h1:i<=N) (K:Value->Hp->Prop) (E:Value->Hp->Prop) :
  wpS P (Instr.sliceAt t (.pointer (some ⟨b,o,none⟩)) (none:Option Value) (some (.int k i)) none) H K E=K (.slice (some ⟨b,o,none⟩) i.toNat N) H:=by
 unfold Instr.sliceAt Instr.sliceBounds
 simp [-bind_pure_comp,Aqa,Aqj hu,Instr.sureAddr,Aqf,Az5 k i N _ h0 h1,Aq0 hs,Aj2]
theorem Bk7 {t e:TypeId} (hu:P.underlying t=some (.slice e)) {n:Nat} (hs:∀w,(sizeOf e).run P w=.ok n w) (b o len cap:Nat) (k:IntKind) (i:Int) (h0:0<=i) (h1:i<=len) (K:Value->Hp->Prop) (E:Value->Hp->Prop) :
  wpS P (Instr.sliceAt t (.slice (some ⟨b,o,none⟩) len cap) (some (.int k i)) (none:Option Value) none) H K E=K (.slice (if cap=i.toNat then some ⟨b,o,none⟩ else some ⟨b,o+i.toNat*n,none⟩) (len-i.toNat) (cap-i.toNat)) H:=by
 unfold Instr.sliceAt Instr.slice Instr.sliceBounds
 simp [-bind_pure_comp,Aqa,Aqj hu,Aqf,Az5 k i len _ h0 h1,Aq0 hs,Aj2]
theorem Bqq {t e:TypeId} (hu:P.underlying t=some (.slice e)) {n:Nat} (hs:∀w,(sizeOf e).run P w=.ok n w) (b o len cap:Nat) (k k':IntKind) (i j:Int) (h0:0<=i) (h1:i<=j) (h2:j<=cap) (K:Value->Hp->Prop) (E:Value->Hp->Prop) :
  wpS P (Instr.sliceAt t (.slice (some ⟨b,o,none⟩) len cap) (some (.int k i)) (some (.int k' j)) none) H K E=K (.slice (if cap=i.toNat then some ⟨b,o,none⟩ else some ⟨b,o+i.toNat*n,none⟩) (j.toNat-i.toNat) (cap-i.toNat)) H:=by
 unfold Instr.sliceAt Instr.slice Instr.sliceBounds
 have hj:i<=(j.toNat:Int):=by omega
 simp [-bind_pure_comp,Aqa,Aqj hu,Aqf,Az5 k' j cap _ (by omega) h2,Az5 k i j.toNat _ h0 hj,Aq0 hs,Aj2]
end
end Go.X
end
