/- Texts WQuiet WNeg WDone. -/
import Derived.Test.YtaehjjbekjglkaaGreatDoorJ02
import Derived.Conc.WgGenN3
import Derived.Conc.WgGenDone
set_option linter.defProp false
set_option linter.unusedSimpArgs false
set_option linter.unusedVariables false
set_option maxRecDepth 100000
set_option maxHeartbeats 2000000
section
namespace Go.X
open Go
open Go.Conc
theorem Akz {b:Nat} {ty:TypeId} {w:World} {st sm:Nat} (h:w.heap[b]?=some (wgO ty st sm)):w.cell? ⟨b,0,none⟩=some (.int .u64 st):=by simp [World.cell?,h,wgO]
theorem Bxs {b:Nat} {ty:TypeId} {w:World} {st sm:Nat} (h:w.heap[b]?=some (wgO ty st sm)):w.cell? ⟨b,1,none⟩=some (.int .u32 sm):=by simp [World.cell?,h,wgO]
theorem Ayo {b:Nat} {ty:TypeId} {w:World} {st sm:Nat} (h:w.heap[b]?=some (wgO ty st sm)) (off:Nat):w.frozen? ⟨b,off,none⟩=false:=by simp [World.frozen?,h,wgO]
def WgA (b:Nat) (ty:TypeId) (w:World):Prop:=∃st sm:Nat,w.heap[b]?=some (wgO ty st sm)/\w.cell? ⟨b,0,none⟩=some (.int .u64 st)/\w.cell? ⟨b,1,none⟩=some (.int .u32 sm)
theorem WgA.mk {b:Nat} {ty:TypeId} {w:World} {st sm:Nat} (h:w.heap[b]?=some (wgO ty st sm)):WgA b ty w:=⟨st,sm,h,Akz h,Bxs h⟩
structure Quiet (P:Program) (m:Bool) (A:World->Prop) (J:Goroutine->Prop):Prop where
 back:∀ {g g':Goroutine},g.status=.running->(∀w,A w->stepG P m g w=.go g' w #[])->J g'->J g
section
variable {P:Program} {m:Bool} {A:World->Prop} {J:Goroutine->Prop} {b b₀:Frame} {a a₀:Act} {k:List Item} {cs:List Frame}
theorem Quiet.ctl (hJ:Quiet P m A J) {g g':Goroutine} (hs:g.status=.running) (h:∀w,stepG P m g w=.go g' w #[]) (hn:J g'):J g:=hJ.back hs (fun w _=>h w) hn
theorem Quiet.seq (hJ:Quiet P m A J) {x y:Code} (hn:J (G (b.at a (.code x::.code y::k)) cs)):J (G (b.at a (.code (.seq x y)::k)) cs):=hJ.ctl rfl (fun _=>stepG_seq) hn
theorem Quiet.skip (hJ:Quiet P m A J) (hn:J (G (b.at a k) cs)):J (G (b.at a (.code .skip::k)) cs):=hJ.ctl rfl (fun _=>stepG_skip) hn
theorem Quiet.block (hJ:Quiet P m A J) {id:Nat} {x:Code} (hn:J (G (b.at a (.code x::.inBlock id::k)) cs)):J (G (b.at a (.code (.block id x)::k)) cs):=hJ.ctl rfl (fun _=>stepG_block) hn
theorem Quiet.inBlock (hJ:Quiet P m A J) {id:Nat} (hn:J (G (b.at a k) cs)):J (G (b.at a (.inBlock id::k)) cs):=hJ.ctl rfl (fun _=>stepG_inBlock) hn
theorem Quiet.loop (hJ:Quiet P m A J) {x:Code} (hn:J (G (b.at a (.code x::.inLoop x::k)) cs)):J (G (b.at a (.code (.loop x)::k)) cs):=hJ.ctl rfl (fun _=>stepG_loop) hn
theorem Quiet.inLoop (hJ:Quiet P m A J) {x:Code} (hn:J (G (b.at a (.code x::.inLoop x::k)) cs)):J (G (b.at a (.inLoop x::k)) cs):=hJ.ctl rfl (fun _=>stepG_inLoop) hn
theorem Quiet.region (hJ:Quiet P m A J) {id:Nat} {ops:Array Oper} (hn:J (G (b.at a (.inRegion ops (List.range ops.size)::k)) cs)):J (G (b.at a (.code (.region id ops false)::k)) cs):=hJ.ctl rfl (fun _=>stepG_region) hn
theorem Quiet.region_end (hJ:Quiet P m A J) {ops:Array Oper} (hn:J (G (b.at a k) cs)):J (G (b.at a (.inRegion ops []::k)) cs):=hJ.ctl rfl (fun _=>stepG_region_end) hn
theorem Quiet.ends (hJ:Quiet P m A J) (hn:J (G { b.at a [] with mode:=.returning } cs)):J (G (b.at a []) cs):=hJ.ctl rfl (fun _=>stepG_end) hn
theorem Quiet.ret (hJ:Quiet P m A J) (hn:J (G { b.at a (.code .ret::k) with mode:=.returning } cs)):J (G (b.at a (.code .ret::k)) cs):=hJ.ctl rfl (fun _=>stepG_ret') hn
theorem Quiet.exit (hJ:Quiet P m A J) {id:Nat} {k':List Item} (h:exitTo id k=some k') (hn:J (G (b.at a k') cs)):J (G (b.at a (.code (.exit id)::k)) cs):=hJ.ctl rfl (fun _=>stepG_exit h) hn
theorem Quiet.condT (hJ:Quiet P m A J) {c:Operand} {x y:Code} (h:a.eval c=.bool true) (hn:J (G (b.at a (.code x::k)) cs)):J (G (b.at a (.code (.cond c x y)::k)) cs):=hJ.ctl rfl (fun _=>(stepG_cond (t:=true) h).trans (by simp)) hn
theorem Quiet.condF (hJ:Quiet P m A J) {c:Operand} {x y:Code} (h:a.eval c=.bool false) (hn:J (G (b.at a (.code y::k)) cs)):J (G (b.at a (.code (.cond c x y)::k)) cs):=hJ.ctl rfl (fun _=>(stepG_cond (t:=false) h).trans (by simp)) hn
section
variable {ops:Array Oper} {i:Nat} {rest:List Nat} {o:Oper} {f:FuncId} {fn:Func} {ats:Array TypeId} {ars:Array Operand}
theorem Quiet.value (hJ:Quiet P m A J) {v:Value} (ho:ops[i]?=some o) (hw:Region.wanted o (yielded ops a.tmps)=true) (hk:b.kind≠.early)
  (hr:∀w,A w->(execOp a.eval o).run P w=.ok (.value v) w/\(execOp a.eval o).events P w #[]=#[])
  (hn:J (G (b.at (a.put o.dst v) (.inRegion ops rest::k)) cs)):J (G (b.at a (.inRegion ops (i::rest)::k)) cs):=
 hJ.back rfl (fun w h=>by
  obtain ⟨h1,h2⟩:=hr w h
  rw [stepG_value ho hw hk h1];unfold listed;rw [h2,seen_none]) hn
theorem Quiet.unwanted (hJ:Quiet P m A J) (ho:ops[i]?=some o) (hw:Region.wanted o (yielded ops a.tmps)=false) (hn:J (G (b.at (a.put o.dst undef) (.inRegion ops rest::k)) cs)):J (G (b.at a (.inRegion ops (i::rest)::k)) cs):=
 hJ.ctl rfl (fun _=>stepG_unwanted ho hw) hn
theorem Quiet.enter (hJ:Quiet P m A J) {c:Code} (ho:ops[i]?=some o) (hw:Region.wanted o (yielded ops a.tmps)=true) (hk:b.kind≠.early) (hop:o.op=.call { callee:=.value (.func f),args:=ars,argTypes:=ats })
  (hf:P.funcs[f]?=some fn) (hname:(fn.name == "runtime.NumGoroutine")=false) (hb:fn.body=some c)
  (hn:J (G ((base f).at { tmps:=ars.map a.eval++Array.replicate (fn.ntmps-(ars.map a.eval).size) undef,defers:=[] } [.code c]) (b.at a (.inRegion ops (i::rest)::k)::cs))):J (G (b.at a (.inRegion ops (i::rest)::k)) cs):=
 hJ.ctl rfl (fun w=>by
  have hb':fn.body.isNone=false:=by rw [hb];rfl
  rw [stepG_enter ho hw hk (run_call_body hop hf hname hb'),enter_at _ hf hb]
  have:listed P b.fn a o w=#[]:=by unfold listed;rw [events_call_body hop hf hname hb'];exact seen_none P _
  rw [this]) hn
theorem Quiet.entry (hJ:Quiet P m A J) (v:Value) (ho:ops[i]?=some o) (hw:Region.wanted o (yielded ops a.tmps)=true) (hk:b.kind≠.early) (hop:o.op=.call { callee:=.value (.func f),args:=ars,argTypes:=ats })
  (hf:P.funcs[f]?=some fn) (hname:(fn.name == "runtime.NumGoroutine")=false) (hb:fn.body.isNone=true) (hx:Extern.findNext fn=none) (he:Extern.find fn=some (fun _=>pure v))
  (hn:J (G (b.at (a.put o.dst v) (.inRegion ops rest::k)) cs)):J (G (b.at a (.inRegion ops (i::rest)::k)) cs):=
 hJ.ctl rfl (fun w=>stepG_entry_pure v ho hw hk hop hf hname hb hx he) hn
theorem Quiet.defer (hJ:Quiet P m A J) (ho:ops[i]?=some o) (hw:Region.wanted o (yielded ops a.tmps)=true) (hk:b.kind≠.early) (hop:o.op=.defer { callee:=.value (.func f),args:=ars,argTypes:=ats })
  (hn:J (G (b.at (Act.put ⟨a.tmps,dcall f (ars.map a.eval)::a.defers⟩ o.dst undef) (.inRegion ops rest::k)) cs)):J (G (b.at a (.inRegion ops (i::rest)::k)) cs):=
 hJ.ctl rfl (fun _=>stepG_defer ho hw hk hop) hn
theorem Quiet.leave0 (hJ:Quiet P m A J) {todo:List Item} (hn:b.kind=.normal) (hd:a.defers=[]) (hf:P.funcs[b.fn]?=some fn) (hr:fn.results=#[])
  (hq:J (G (b₀.at (a₀.put ((ops[i]?).bind (·.dst)) (.tuple #[])) (.inRegion ops rest::k)) cs)):J (G { b.at a todo with mode:=.returning } (b₀.at a₀ (.inRegion ops (i::rest)::k)::cs)):=
 hJ.ctl rfl (fun w=>by rw [stepG_leave hn hd hf (results_none hr _ P w) (events_results_none hr _ _),Frame.finish_at]) hq
theorem Quiet.leave1 (hJ:Quiet P m A J) {t:Tmp} {todo:List Item} (hn:b.kind=.normal) (hd:a.defers=[]) (hf:P.funcs[b.fn]?=some fn) (hr:fn.results=#[.tmp t])
  (hq:J (G (b₀.at (a₀.put ((ops[i]?).bind (·.dst)) (a.tmps.getD t undef)) (.inRegion ops rest::k)) cs)):J (G { b.at a todo with mode:=.returning } (b₀.at a₀ (.inRegion ops (i::rest)::k)::cs)):=
 hJ.ctl rfl (fun w=>by rw [stepG_leave hn hd hf (results_tmp hr _ P w) (events_results_tmp hr _ _),Frame.finish_at]) hq
theorem Quiet.unwind_enter (hJ:Quiet P m A J) {c:Code} {todo:List Item} {args:Array Value} {ds:List Deferred} (hd:a.defers=dcall f args::ds) (hf:P.funcs[f]?=some fn) (hname:(fn.name == "runtime.NumGoroutine")=false) (hb:fn.body=some c)
  (hq:J (G ((baseD f).at { tmps:=args++Array.replicate (fn.ntmps-args.size) undef,defers:=[] } [.code c]) ({ b.at ⟨a.tmps,ds⟩ todo with mode:=.returning }::cs))):J (G { b.at a todo with mode:=.returning } cs):=
 hJ.ctl rfl (fun w=>stepG_unwind_enter hd hf hname hb) hq
end
end
def xW:Goroutine×Hp×Nat:=(G default [],Hid0,0)
section
variable {P:Program} {c b:Nat} {ty:TypeId}
theorem Quiet.tail (d:Nat):Quiet P false (WgA b ty) fun g=>∃ρ,OthW P c b ty ρ g (.tail d):=
 ⟨fun hs h ⟨ρ,hn⟩=>⟨.node fun _=>ρ,.tail (d:=d) xW hs (.inl rfl) (fun w st sm hw=>h w (.mk hw)) hn⟩⟩
theorem Quiet.rel (s:Nat):Quiet P false (WgA b ty) fun g=>∃ρ,OthW P c b ty ρ g (.rel s):=
 ⟨fun hs h ⟨ρ,hn⟩=>⟨.node fun _=>ρ,.rstep xW hs (fun w st sm hw=>h w (.mk hw)) hn⟩⟩
theorem Quiet.wait (K:Hp) (d m:Nat):Quiet P false (WgA b ty) fun g=>∃ρ,OthW P c b ty ρ g (.wait K d m):=
 ⟨fun hs h ⟨ρ,hn⟩=>⟨.node fun _=>ρ,.wmark (d:=d) xW hs (.inl rfl) (fun w st sm hw=>h w (.mk hw)) hn⟩⟩
theorem Quiet.sema (K:Hp):Quiet P false (WgA b ty) fun g=>g.status=.running/\∃ρ,OthW P c b ty ρ g (.sema K):=
 ⟨fun hs h ⟨hr,ρ,hn⟩=>⟨hs,.node fun _=>ρ,.qstep xW hs (.inl rfl) (fun w st sm hw=>h w (.mk hw)) hr hn⟩⟩
theorem Quiet.woke (K:Hp):Quiet P false (WgA b ty) fun g=>∃ρ,OthW P c b ty ρ g (.woke K):=
 ⟨fun hs h ⟨ρ,hn⟩=>⟨.node fun _=>ρ,.ostep xW hs (fun w st sm hw=>h w (.mk hw)) hn⟩⟩
theorem Quiet.shut (K:Hp) (d:Nat):Quiet P false (WgA b ty) fun g=>∃ρ,OthW P c b ty ρ g (.shut K d):=
 ⟨fun hs h ⟨ρ,hn⟩=>⟨.node fun _=>ρ,.smark (d:=d) xW hs (.inl rfl) (fun w st sm hw=>h w (.mk hw)) hn⟩⟩
theorem Quiet.sent (K:Hp):Quiet P false (WgA b ty) fun g=>∃ρ,OthW P c b ty ρ g (.sent K):=
 ⟨fun hs h ⟨ρ,hn⟩=>⟨.node fun _=>ρ,.tquiet xW hs (fun w st sm hw=>h w (.mk hw)) hn⟩⟩
theorem Quiet.late (K:Hp):Quiet P false (WgA b ty) fun g=>∃ρ,OthW P c b ty ρ g (.late K):=
 ⟨fun hs h ⟨ρ,hn⟩=>⟨.node fun _=>ρ,.lquiet xW hs (fun w st sm hw=>h w (.mk hw)) hn⟩⟩
theorem Quiet.fan {T:Goroutine->Hp->Prop} {n d:Nat} {L:List Value} {D:Nat->Prop} {H:Hp}:Quiet P true (WgA b ty) fun g=>FanW P T (.busy c b ty n d L false D) g H:=
 ⟨fun hs h hn=>.mark (d:=d) hs (.inl rfl) (fun w st sm _ hb=>h w (.mk hb)) hn⟩
theorem Quiet.quits (d:Nat):Quiet P false (fun _=>True) fun g=>∃n,QuitsD P n d g:=
 ⟨fun hs h ⟨n,hn⟩=>⟨n+1,.ctl hs (fun w=>h w trivial) hn⟩⟩
theorem Dz4 {g g':Goroutine} {d:Nat} {es:Array Event} (hs:g.status=.running) (hm:es=#[]∨es=#[mkE .disable]∨es=#[mkE .enable])
  (h:∀w st sm,w.heap[b]?=some (wgO ty st sm)->stepG P false g w=.go g' w es) (hn:∃ρ,OthW P c b ty ρ g' (.tail (deafBehind d es))):∃ρ,OthW P c b ty ρ g (.tail d):=by
 obtain ⟨ρ,hn⟩:=hn
 exact ⟨.node fun _=>ρ,.tail xW hs hm h hn⟩
open Classical in
theorem Dj6 {g:Goroutine} (S:Nat->Nat->Goroutine->Prop) (hs:g.status=.running)
  (h:∀w v wt,v<100->wt<=1->w.heap[b]?=some (wgO ty ((v+1)*KW+wt) 0)->∃g',stepG P false g w=.go g' (World.lay w b (wgO ty (v*KW+wt) 0)) #[rdE (stW b),wrE (stW b)]/\S v wt g')
  (h1:∀g',S 0 1 g'->∃ρ,OthW P c b ty ρ g' (.rel 2)) (h2:∀v wt g',v<100->wt<=1->¬(v=0/\wt=1)->S v wt g'->∃n,QuitsD P n 1 g'):∃ρ,OthW P c b ty ρ g (.tail 1):=by
 refine ⟨.node fun x=>if x.2.2=1 then (if hx:∃ρ,OthW P c b ty ρ x.1 (.rel 2) then hx.choose else .zero) else (if hx:∃ρ,OthW P c b ty ρ x.1 (.off 1) then hx.choose else .zero),.add S hs h (fun g' hg=>?_) fun v wt g' hv hwt hne hg=>?_⟩
 ·simp only [if_true]
  rw [dif_pos (h1 g' hg)]
  exact (h1 g' hg).choose_spec
 ·have hk:¬2*v+wt=1:=by omega
  have:∃ρ,OthW P c b ty ρ g' (.off 1):=by
   obtain ⟨n,hn⟩:=h2 v wt g' hv hwt hne hg
   exact OthW.of_quits hn
  simp only [if_neg hk]
  rw [dif_pos this]
  exact this.choose_spec
theorem Cyw {g g':Goroutine} (hs:g.status=.running) (h:∀w,w.heap[b]?=some (wgO ty 1 0)->stepG P false g w=.go g' w #[rdE (stW b)]) (hn:∃ρ,OthW P c b ty ρ g' (.rel 1)):∃ρ,OthW P c b ty ρ g (.rel 2):=by
 obtain ⟨ρ,hn⟩:=hn
 exact ⟨.node fun _=>ρ,.rload xW hs h hn⟩
theorem Cks {g g':Goroutine} (hs:g.status=.running) (h:∀w,w.heap[b]?=some (wgO ty 1 0)->stepG P false g w=.go g' (World.lay w b (wgO ty 0 0)) #[wrE (stW b)]) (hn:∃ρ,OthW P c b ty ρ g' (.rel 0)):∃ρ,OthW P c b ty ρ g (.rel 1):=by
 obtain ⟨ρ,hn⟩:=hn
 exact ⟨.node fun _=>ρ,.rstore xW hs h hn⟩
theorem Dz3 {g g':Goroutine} (hs:g.status=.running) (hw:mayWake P g=true) (h:∀w,w.heap[b]?=some (wgO ty 0 0)->stepG P false g w=.go g' (World.lay w b (wgO ty 0 1)) (semEvents (smW b))) (hr:g'.status=.running) (hn:∃n,QuitsD P n 1 g'):∃ρ,OthW P c b ty ρ g (.rel 0):=by
 obtain ⟨n,hn⟩:=hn
 obtain ⟨ρ,hn⟩:=OthW.of_quits (c:=c) (b:=b) (ty:=ty) hn
 exact ⟨.node fun _=>ρ,.rrel xW hs hw h hr hn⟩
theorem Cyz {g g':Goroutine} {K:Hp} {d m:Nat} {es:Array Event} (hs:g.status=.running) (hm:es=#[]∨es=#[mkE .disable])
  (h:∀w st sm,w.heap[b]?=some (wgO ty st sm)->stepG P false g w=.go g' w es) (hn:∃ρ,OthW P c b ty ρ g' (.wait K (deafBehind d es) m)):∃ρ,OthW P c b ty ρ g (.wait K d m):=by
 obtain ⟨ρ,hn⟩:=hn
 exact ⟨.node fun _=>ρ,.wmark xW hs hm h hn⟩
open Classical in
theorem Cyu {g:Goroutine} {K:Hp} {m:Nat} (S:Nat->Goroutine->Prop) (hs:g.status=.running)
  (h:∀w v,v<=m->v<100->w.heap[b]?=some (wgO ty (v*KW) 0)->∃g',stepG P false g w=.go g' w #[rdE (stW b)]/\S v g')
  (h0:∀g',S 0 g'->∃ρ,OthW P c b ty ρ g' (.shut K 1)) (h1:∀v g',v<=m->v<100->v≠0->S v g'->∃ρ,OthW P c b ty ρ g' (.wait K 1 v)):∃ρ,OthW P c b ty ρ g (.wait K 1 m):=by
 refine ⟨.node fun x=>if x.2.2=0 then (if hx:∃ρ,OthW P c b ty ρ x.1 (.shut K 1) then hx.choose else .zero) else (if hx:∃ρ,OthW P c b ty ρ x.1 (.wait K 1 x.2.2) then hx.choose else .zero),.load S hs h (fun g' hg=>?_) fun v g' hv hv' hne hg=>?_⟩
 ·simp only [if_true]
  rw [dif_pos (h0 g' hg)]
  exact (h0 g' hg).choose_spec
 ·simp only [if_neg hne]
  rw [dif_pos (h1 v g' hv hv' hne hg)]
  exact (h1 v g' hv hv' hne hg).choose_spec
open Classical in
theorem Dj9 {g:Goroutine} {K:Hp} {m:Nat} (S:Nat->Goroutine->Prop) (hs:g.status=.running) (hm0:m≠0)
  (h:∀w,m<100->w.heap[b]?=some (wgO ty (m*KW) 0)->∃g',stepG P false g w=.go g' (World.lay w b (wgO ty (m*KW+1) 0)) #[rdE (stW b),wrE (stW b)]/\S m g')
  (h':∀w v,v<m->m<100->w.heap[b]?=some (wgO ty (v*KW) 0)->∃g',stepG P false g w=.go g' w #[rdE (stW b)]/\S v g')
  (h0:∀g',S m g'->∃ρ,OthW P c b ty ρ g' (.sema K)) (h1:∀v g',v<m->m<100->S v g'->∃ρ,OthW P c b ty ρ g' (.wait K 1 v)):∃ρ,OthW P c b ty ρ g (.wait K 1 m):=by
 refine ⟨.node fun x=>if x.2.2=m then (if hx:∃ρ,OthW P c b ty ρ x.1 (.sema K) then hx.choose else .zero) else (if hx:∃ρ,OthW P c b ty ρ x.1 (.wait K 1 x.2.2) then hx.choose else .zero),.cas S hs hm0 h h' (fun g' hg=>?_) fun v g' hv hv' hg=>?_⟩
 ·simp only [if_true]
  rw [dif_pos (h0 g' hg)]
  exact (h0 g' hg).choose_spec
 ·simp only [if_neg (show ¬v=m by omega)]
  rw [dif_pos (h1 v g' hv hv' hg)]
  exact (h1 v g' hv hv' hg).choose_spec
theorem Cyv {g g':Goroutine} {K:Hp} {es:Array Event} (hs:g.status=.running) (hm:es=#[]∨es=#[mkE (.write (smW b))])
  (h:∀w st sm,w.heap[b]?=some (wgO ty st sm)->stepG P false g w=.go g' w es) (hn:g'.status=.running/\∃ρ,OthW P c b ty ρ g' (.sema K)):g.status=.running/\∃ρ,OthW P c b ty ρ g (.sema K):=by
 obtain ⟨hr,ρ,hn⟩:=hn
 exact ⟨hs,.node fun _=>ρ,.qstep xW hs hm h hr hn⟩
theorem Dj5 {g g':Goroutine} {K:Hp} (hr:g.status=.running) (ho:g.offers=none)
  (hb:∀w st,w.heap[b]?=some (wgO ty st 0)->stepG P false g w=.go { g with status:=.blocked } w #[]) (ha:∀w,w.heap[b]?=some (wgO ty 0 1)->stepG P false g w=.go g' (World.lay w b (wgO ty 0 0)) (semEvents (smW b)))
  (hn:∃ρ,OthW P c b ty ρ g' (.woke K)):g.status=.running/\∃ρ,OthW P c b ty ρ g (.sema K):=by
 obtain ⟨ρ,hn⟩:=hn
 exact ⟨hr,.node fun _=>ρ,.acq xW hr ho hb ha hn (.inl rfl)⟩
theorem Cyt {g g':Goroutine} {K:Hp} (hs:g.status=.running) (h:∀w,w.heap[b]?=some (wgO ty 0 0)->stepG P false g w=.go g' w #[rdE (stW b)]) (hn:∃ρ,OthW P c b ty ρ g' (.shut K 1)):∃ρ,OthW P c b ty ρ g (.woke K):=by
 obtain ⟨ρ,hn⟩:=hn
 exact ⟨.node fun _=>ρ,.oload xW hs h hn⟩
theorem Cxi {g g':Goroutine} {K:Hp} {d:Nat} {es:Array Event} (hs:g.status=.running) (hm:es=#[]∨es=#[mkE .enable])
  (h:∀w st sm,w.heap[b]?=some (wgO ty st sm)->stepG P false g w=.go g' w es) (hn:∃ρ,OthW P c b ty ρ g' (.shut K (deafBehind d es))):∃ρ,OthW P c b ty ρ g (.shut K d):=by
 obtain ⟨ρ,hn⟩:=hn
 exact ⟨.node fun _=>ρ,.smark xW hs hm h hn⟩
theorem Dz5 {g g':Goroutine} {K:Hp} (hs:g.status=.running) (h:∀w st sm,w.heap[b]?=some (wgO ty st sm)->stepG P false g w=.go g' w #[mkE (.releaseMerge (stW b))]) (hn:∃ρ,OthW P c b ty ρ g' (.tail 0)):∃ρ,OthW P c b ty ρ g (.sent K):=by
 obtain ⟨ρ,hn⟩:=hn
 exact ⟨.node fun _=>ρ,.trel xW hs h hn⟩
theorem Cku {g g':Goroutine} {K:Hp} (hs:g.status=.running) (h:∀w st sm,w.heap[b]?=some (wgO ty st sm)->stepG P false g w=.go g' w #[mkE (.acquire (stW b))]) (hn:∃ρ,OthW P c b ty ρ g' (.late K)):∃ρ,OthW P c b ty ρ g (.shut K 0):=by
 obtain ⟨ρ,hn⟩:=hn
 exact ⟨.node fun _=>ρ,.sacq xW hs h hn⟩
theorem Cyq {g g':Goroutine} {K:Hp} (hs:g.status=.running) (hw:mayWake P g=true)
  (h:∀w r,Sat K w->w.heap[c]?=some (.chan 0 #[] false r r false)->stepG P false g w=.go g' (World.lay w c (.chan 0 #[] true r r false)) (clE c)) (hr:g'.status=.running) (hn:∃n,QuitsIn P n g'):∃ρ,OthW P c b ty ρ g (.late K):=by
 obtain ⟨n,hn⟩:=hn
 obtain ⟨ρ,hn⟩:=OthW.of_gone (c:=c) (b:=b) (ty:=ty) hn
 exact ⟨.node fun _=>ρ,.close xW hs hw h hr hn⟩
section
variable {bb:Frame} {a:Act} {kk:List Item} {cs:List Frame} {f:FuncId} {fn:Func} {ops:Array Oper} {i:Nat} {rest:List Nat} {o:Oper} {ats:Array TypeId} {x y z:Operand} {ars:Array Operand}
theorem Cxt {w:World} {st sm:Nat} (h:w.heap[b]?=some (wgO ty st sm)) (n:Nat):w.setCell (stW b) (.int .u64 n)=World.lay w b (wgO ty n sm):=by
 simp only [World.setCell,stW,World.lay,modify_eq_set _ _ _ _ h,wgO];rfl
theorem Dq7 {w:World} {st sm:Nat} (h:w.heap[b]?=some (wgO ty st sm)) (n:Nat):w.setCell (smW b) (.int .u32 n)=World.lay w b (wgO ty st n):=by
 simp only [World.setCell,smW,World.lay,modify_eq_set _ _ _ _ h,wgO];rfl
theorem Djp (ho:ops[i]?=some o) (hw:Region.wanted o (yielded ops a.tmps)=true) (hk:bb.kind≠.early) (hop:o.op=.call { callee:=.value (.func f),args:=#[x,y],argTypes:=ats })
  (hf:P.funcs[f]?=some fn) (hname:(fn.name == "runtime.NumGoroutine")=false) (hb:fn.body.isNone=true) (hn:Extern.findNext fn=none)
  (he:Extern.find fn=some (Extern.Atomic.update (Op.intArith .add) .u64 true)) (hx:a.eval x=.pointer (some (stW b))) (hy:a.eval y=.int .u64 18446744069414584320)
  (h1:∃ρ,OthW P c b ty ρ (G (bb.at (a.put o.dst (.int .u64 1)) (.inRegion ops rest::kk)) cs) (.rel 2))
  (h2:∀v wt:Nat,v<100->wt<=1->¬(v=0/\wt=1)->∃n,QuitsD P n 1 (G (bb.at (a.put o.dst (.int .u64 ((v*KW+wt:Nat):Int))) (.inRegion ops rest::kk)) cs)) :
  ∃ρ,OthW P c b ty ρ (G (bb.at a (.inRegion ops (i::rest)::kk)) cs) (.tail 1):=by
 refine Dj6 (fun v wt g'=>g'=G (bb.at (a.put o.dst (.int .u64 ((v*KW+wt:Nat):Int))) (.inRegion ops rest::kk)) cs) rfl (fun w v wt hv hwt hb'=>⟨_,?_,rfl⟩) ?_ ?_
 ·have e:IntKind.u64.wrap ((((v+1)*KW+wt:Nat):Int)+18446744069414584320)=((v*KW+wt:Nat):Int):=by rw [IntKind.wrap_u64];simp only [KW];omega
  rw [stepG_add_atomic ho hw hk hop hf hname hb hn .u64 he hx hy (Akz hb') (Ayo hb' _),e,Cxt hb']
  rfl
 ·rintro _ rfl
  simpa using h1
 ·rintro v wt _ hv hwt hne rfl
  exact h2 v wt hv hwt hne
theorem Cq5 (ho:ops[i]?=some o) (hw:Region.wanted o (yielded ops a.tmps)=true) (hk:bb.kind≠.early) (hop:o.op=.call { callee:=.value (.func f),args:=#[x],argTypes:=ats })
  (hf:P.funcs[f]?=some fn) (hname:(fn.name == "runtime.NumGoroutine")=false) (hb:fn.body.isNone=true) (hn:Extern.findNext fn=none)
  (he:Extern.find fn=some (Extern.Atomic.loadT (.int .u64))) (hx:a.eval x=.pointer (some (stW b))) {st sm:Nat} (w:World) (hb':w.heap[b]?=some (wgO ty st sm)) (m:Bool) :
  stepG P m (G (bb.at a (.inRegion ops (i::rest)::kk)) cs) w=.go (G (bb.at (a.put o.dst (.int .u64 st)) (.inRegion ops rest::kk)) cs) w #[rdE (stW b)]:=
 stepG_load_atomic ho hw hk hop hf hname hb hn .u64 he hx (Akz hb')
theorem Cwv (ho:ops[i]?=some o) (hw:Region.wanted o (yielded ops a.tmps)=true) (hk:bb.kind≠.early) (hop:o.op=.call { callee:=.value (.func f),args:=#[x,y],argTypes:=ats })
  (hf:P.funcs[f]?=some fn) (hname:(fn.name == "runtime.NumGoroutine")=false) (hb:fn.body.isNone=true) (hn:Extern.findNext fn=none)
  (he:Extern.find fn=some Extern.Atomic.storeT) (hx:a.eval x=.pointer (some (stW b))) (hy:a.eval y=.int .u64 0) (hq:∃ρ,OthW P c b ty ρ (G (bb.at (a.put o.dst (.tuple #[])) (.inRegion ops rest::kk)) cs) (.rel 0)) :
  ∃ρ,OthW P c b ty ρ (G (bb.at a (.inRegion ops (i::rest)::kk)) cs) (.rel 1):=
 Cks rfl (fun w hb'=>by
  rw [stepG_store_atomic ho hw hk hop hf hname hb hn he hx hy (Akz hb') (Ayo hb' _)]
  have:=Cxt hb' 0
  rw [show ((0:Nat):Int)=0 from rfl] at this
  rw [this];rfl) hq
theorem Bka (ho:ops[i]?=some o) (hw:Region.wanted o (yielded ops a.tmps)=true) (hk:bb.kind≠.early) (hop:o.op=.call { callee:=.value (.func f),args:=ars,argTypes:=ats })
  (hf:P.funcs[f]?=some fn) (hname:(fn.name == "runtime.NumGoroutine")=false) (hb:fn.body.isNone=true) (hn:Extern.findNext fn=none)
  (he:Extern.find fn=some Extern.Sync.semrelease) (hx:(ars.map a.eval)[0]?=some (.pointer (some (smW b)))) (hq:∃n,QuitsD P n 1 (G (bb.at (a.put o.dst (.tuple #[])) (.inRegion ops rest::kk)) cs)) :
  ∃ρ,OthW P c b ty ρ (G (bb.at a (.inRegion ops (i::rest)::kk)) cs) (.rel 0):=
 Dz3 rfl (Go.ConcR.Gen.mayWake_entry ho hop hf hb) (fun w hb'=>by
  have e:IntKind.u32.wrap (((0:Nat):Int)+1)=((1:Nat):Int):=by rw [IntKind.wrap_u32];omega
  rw [stepG_semrelease ho hw hk hop hf hname hb hn he hx (Bxs hb') (Ayo hb' _),e,Dq7 hb']) rfl hq
end
def PhW.wide (K':Hp):PhW->PhW
 | .work _ v=>.work K' v
 | .wait _ d m=>.wait K' d m
 | .sema _=>.sema K'
 | .woke _=>.woke K'
 | .shut _ d=>.shut K' d
 | .sent _=>.sent K'
 | .late _=>.late K'
 | p=>p
theorem OthW.more {ρ:Rw} {g:Goroutine} {p:PhW} (h:OthW P c b ty ρ g p):∀K':Hp,(∀K,p.mem=some K->K.le K')->OthW P c b ty ρ g (p.wide K'):=by
 induction h with
 | fin h=>exact fun K' _=>.fin h
 | slip x hs hm h hn _=>exact fun K' _=>.slip x hs hm h hn
 | step S hs h ht hS _=>exact fun K' hl=>.step S hs (fun w hw=>by
  obtain ⟨g',w',es,H',he,hm,hT⟩:=h w (hw.mono (hl _ rfl))
  exact ⟨g',w',es,H',he,hm.more (hl _ rfl),hT⟩) ht hS
 | send x y hs h hp hn ihp ihn=>exact fun K' hl=>.send x y hs (fun w hw=>h w (hw.mono (hl _ rfl))) (ihp K' hl) (ihn K' hl)
 | park x hn ih=>exact fun K' hl=>.park x (ih K' hl)
 | tstep S hs h ht _=>exact fun K' hl=>.tstep S hs (fun w hw=>by
  obtain ⟨g',w',es,H',he,hm,hT⟩:=h w (hw.mono (hl _ rfl))
  exact ⟨g',w',es,H',he,hm.more (hl _ rfl),hT⟩) ht
 | tquiet x hs h hn ih=>exact fun K' hl=>.tquiet x hs h (ih K' hl)
 | trel x hs h hn _=>exact fun K' _=>.trel x hs h hn
 | tail x hs hm h hn _=>exact fun K' _=>.tail x hs hm h hn
 | add S hs h h1 h2 _ _=>exact fun K' _=>.add S hs h h1 h2
 | rstep x hs h hn _=>exact fun K' _=>.rstep x hs h hn
 | rload x hs h hn _=>exact fun K' _=>.rload x hs h hn
 | rstore x hs h hn _=>exact fun K' _=>.rstore x hs h hn
 | rrel x hs hw h hr hn _=>exact fun K' _=>.rrel x hs hw h hr hn
 | wstep S hs h ht _=>exact fun K' hl=>.wstep S hs (fun w hw=>by
  obtain ⟨g',w',es,H',he,hm,hT⟩:=h w (hw.mono (hl _ rfl))
  exact ⟨g',w',es,H',he,hm.more (hl _ rfl),hT⟩) ht
 | wmark x hs hm h hn ih=>exact fun K' hl=>.wmark x hs hm h (ih K' hl)
 | load S hs h h0 h1 ih0 ih1=>exact fun K' hl=>.load S hs h (fun g' hg=>ih0 g' hg K' hl) (fun v g' a1 a2 a3 hg=>ih1 v g' a1 a2 a3 hg K' hl)
 | cas S hs hm0 h h' h0 h1 ih0 ih1=>exact fun K' hl=>.cas S hs hm0 h h' (fun g' hg=>ih0 g' hg K' hl) (fun v g' a1 a2 hg=>ih1 v g' a1 a2 hg K' hl)
 | qstep x hs hm h hr hn ih=>exact fun K' hl=>.qstep x hs hm h hr (ih K' hl)
 | acq x hr ho hb ha hn hg ih=>exact fun K' hl=>.acq x hr ho hb ha (ih K' hl) hg
 | ostep x hs h hn ih=>exact fun K' hl=>.ostep x hs h (ih K' hl)
 | oload x hs h hn ih=>exact fun K' hl=>.oload x hs h (ih K' hl)
 | sacq x hs h hn ih=>exact fun K' hl=>.sacq x hs h (ih K' hl)
 | lquiet x hs h hn ih=>exact fun K' hl=>.lquiet x hs h (ih K' hl)
 | lstep S hs h ht _=>exact fun K' hl=>.lstep S hs (fun w hw=>by
  obtain ⟨g',w',es,H',he,hm,hT⟩:=h w (hw.mono (hl _ rfl))
  exact ⟨g',w',es,H',he,hm.more (hl _ rfl),hT⟩) ht
 | smark x hs hm h hn ih=>exact fun K' hl=>.smark x hs hm h (ih K' hl)
 | close x hs hw h hr hn _=>exact fun K' hl=>.close x hs hw (fun w r hw=>h w r (hw.mono (hl _ rfl))) hr hn
 | gfin h=>exact fun K' _=>.gfin h
 | gslip x hs h hn _=>exact fun K' _=>.gslip x hs h hn
def Bxv (P:Program) (c b:Nat) (ty:TypeId) (v:Value) (g:Goroutine) (K:Hp):Prop:=
 g.status=.running/\∃g₁ z,(∀w,Sat K w->stepG P false g w=.comm g₁ #[scase c v z] true .send w #[])/\∃ρ,OthW P c b ty ρ (Go.Conc.served g₁ undef) (.sent K)
theorem WPG.running {md:Md} {S:Goroutine->Hp->Prop} {g:Goroutine} {H:Hp} (hS:∀g H,S g H->g.status=.running) (hp:∀g H T,¬md.ph g H T) (h:WPG P md S g H):g.status=.running:=by
 cases h with
 | stop h _=>exact hS _ _ h
 | step T hs h _=>exact hs
 | phase T h=>exact (hp _ _ _ h).elim
open Classical in
theorem WPG.othW {v:Value} {g:Goroutine} {K:Hp} (h:WPG P (.own false) (Bxv P c b ty v) g K):∃ρ,OthW P c b ty ρ g (.work K v):=by
 have hrun:∀g K,WPG P (.own false) (Bxv P c b ty v) g K->g.status=.running:=fun g K h=>h.running (fun _ _ h=>h.1) (fun _ _ _ h=>h)
 induction h with
 | stop h hl=>
  obtain ⟨hs,g₁,z,h1,ρ,h2⟩:=h
  have h2':=h2.more _ fun K' e=>by cases e;exact hl
  exact ⟨.node fun x=>if x.2.2=0 then .node fun _=>ρ else ρ,.send (g₁,Hid0,0) (g₁,Hid0,1) hs (fun w hw=>h1 w (hw.mono hl)) (.park (g₁,Hid0,0) h2') h2'⟩
 | step T hs h ht ih=>exact ⟨.node fun x=>if hx:T x.1 x.2.1 then (ih x.1 x.2.1 hx).choose else .zero,.step T hs h (fun g' K' ht=>by
   simp only [dif_pos ht]
   exact (ih g' K' ht).choose_spec) fun g' K' h'=>hrun _ _ (ht _ _ h')⟩
 | phase T h=>exact h.elim
open Classical in
theorem WPG.waitW {g:Goroutine} {K:Hp} {d m:Nat} (h:WPG P (.own false) (fun g' K'=>∃ρ,OthW P c b ty ρ g' (.wait K' d m)) g K):∃ρ,OthW P c b ty ρ g (.wait K d m):=by
 induction h with
 | stop h hl=>
  obtain ⟨ρ,h⟩:=h
  exact ⟨ρ,h.more _ fun K' e=>by cases e;exact hl⟩
 | step T hs h ht ih=>exact ⟨.node fun x=>if hx:T x.1 x.2.1 then (ih x.1 x.2.1 hx).choose else .zero,.wstep T hs h (fun g' K' ht=>by
   simp only [dif_pos ht]
   exact (ih g' K' ht).choose_spec)⟩
 | phase T h=>exact h.elim
open Classical in
theorem WPG.lateW {g:Goroutine} {K:Hp} (h:WPG P (.own false) (fun g' K'=>∃ρ,OthW P c b ty ρ g' (.late K')) g K):∃ρ,OthW P c b ty ρ g (.late K):=by
 induction h with
 | stop h hl=>
  obtain ⟨ρ,h⟩:=h
  exact ⟨ρ,h.more _ fun K' e=>by cases e;exact hl⟩
 | step T hs h ht ih=>exact ⟨.node fun x=>if hx:T x.1 x.2.1 then (ih x.1 x.2.1 hx).choose else .zero,.lstep T hs h (fun g' K' ht=>by
   simp only [dif_pos ht]
   exact (ih g' K' ht).choose_spec)⟩
 | phase T h=>exact h.elim
open Classical in
end
structure Hq (q:Prop):Prop where
 out:q
theorem Hq.un {q:Prop} (h:Hq q):q:=h.out
theorem qR {p q:Prop} (g:q) (h:Hq q->p:=by
 intro g
 repeat (first | refine hJ.seq ?_ | refine hJ.skip ?_ | refine hJ.block ?_ | refine hJ.inBlock ?_ | refine hJ.loop ?_ | refine hJ.inLoop ?_ | refine hJ.region_end ?_ | refine hJ.condT rfl ?_ | refine hJ.condF rfl ?_ | refine hJ.exit rfl ?_ | refine hJ.ret ?_ | refine hJ.ends ?_ | (refine hJ.region ?_;simp only [List.size_toArray,List.length_cons,List.length_nil,Nat.reduceAdd,Nat.zero_add,List.range,List.range.loop]) | (refine hJ.unwanted rfl rfl ?_;walk_nrm) | (refine hJ.value (v:=?_) rfl rfl (by k_ne) (fun w hA=>⟨?_,?_⟩) ?_;rotate_left;(focus ((try obtain ⟨st,sm,hw,h0,h1⟩:=hA);go_simp;(try w_num);(try exact rfl);done));(focus ((try obtain ⟨st,sm,hw,h0,h1⟩:=hA);simp [go_sem, *,-g]));walk_nrm))
 exact Hq.out g):Hq p:=⟨h ⟨g⟩⟩
end Go.X
end
section
namespace Go.X
open Go
open Go.Conc Go.RowKit Go.Conc.Lib Go.ConcR.Gen Go.ConcN.Gen
open Go.ConcR (KK)
variable {L:WgLink}
section
variable {P:Program} {c Wg:Nat} {b₀:Frame} {a₀:Act} {ops₀:Array Oper} {i₀:Nat} {rest₀:List Nat} {k₀:List Item} {cs:List Frame} {qt:Nat}
set_option maxHeartbeats 4000000 in
theorem Dxe (H:WgLib P L) (K:Hp) (hT:QuitsD P qt 0 (G (b₀.at (a₀.put ((ops₀[i₀]?).bind (·.dst)) (.tuple #[])) (.inRegion ops₀ rest₀::k₀)) cs)) :
  ∃ρ,OthW P c Wg L.tWg ρ (G ((base L.add).at ⟨#[.pointer (some ⟨Wg,0,none⟩),.int .i64 (-1)]++Array.replicate 115 undef,[]⟩ [.code (body_add L)]) (b₀.at a₀ (.inRegion ops₀ (i₀::rest₀)::k₀)::cs)) (.sent K):=by
 lib_facts
 walk_nrm
 simp only [body_add,addFn,Option.getD_some]
 (obtain ⟨J,hJe⟩:∃J:Goroutine->Prop,J=(fun g=>∃ρ,OthW P c Wg L.tWg ρ g (.sent K)):=⟨_,rfl⟩;have hJ:Quiet P false (WgA Wg L.tWg) J:=(by rw [hJe];exact Quiet.sent K);refine (congrFun hJe _).mp ?_)
 (refine @Hq.un _ ?_;refine qR ?_)
 (refine hJ.value (v:=?_) rfl rfl (by k_ne) (fun w hA=>⟨?_,?_⟩) ?_;rotate_left;(focus (obtain ⟨st,sm,hw,h0,h1⟩:=hA;have hcv:=run_convert_to_unsafe (P:=P) H.underlying_tWgP H.underlying_tUP H.room_tWg h0;go_simp;(try (exact rfl));done));(focus (obtain ⟨st,sm,hw,h0,h1⟩:=hA;have hce:=fun es=>events_convert_to_unsafe (P:=P) H.underlying_tWgP H.underlying_tUP H.room_tWg h0 es;simp [go_sem,hce, *]));walk_nrm)
 (refine (congrFun hJe _).mpr ?_;clear hJe hJ J)
 refine Dz5 rfl (fun w st sm _=>stepG_markAt .releaseMerge (by simp) rfl rfl (by k_ne) rfl H.f_relMerge (x_relMerge_n L) (x_relMerge_b L) (x_relMerge_x L) (x_relMerge_f L) (by simp [Act.eval,stW])) ?_
 walk_nrm
 refine (show ∃ρ,OthW P c Wg L.tWg ρ _ (.tail 0) from ?_)
 (obtain ⟨J,hJe⟩:∃J:Goroutine->Prop,J=(fun g=>∃ρ,OthW P c Wg L.tWg ρ g (.tail 0)):=⟨_,rfl⟩;have hJ:Quiet P false (WgA Wg L.tWg) J:=(by rw [hJe];exact Quiet.tail 0);refine (congrFun hJe _).mp ?_)
 (refine @Hq.un _ ?_;refine qR ?_)
 (refine (congrFun hJe _).mpr ?_;clear hJe hJ J)
 refine Dz4 rfl (.inr (.inl rfl)) (fun w st sm _=>stepG_mark0 .disable (by simp) rfl rfl (by k_ne) rfl H.f_disable (x_disable_n L) (x_disable_b L) (x_disable_x L) (x_disable_f L)) ?_
 walk_nrm
 refine (show ∃ρ,OthW P c Wg L.tWg ρ _ (.tail 1) from ?_)
 (obtain ⟨J,hJe⟩:∃J:Goroutine->Prop,J=(fun g=>∃ρ,OthW P c Wg L.tWg ρ g (.tail 1)):=⟨_,rfl⟩;have hJ:Quiet P false (WgA Wg L.tWg) J:=(by rw [hJe];exact Quiet.tail 1);refine (congrFun hJe _).mp ?_)
 (refine @Hq.un _ ?_;refine qR ?_)
 (refine hJ.defer rfl rfl (by k_ne) rfl ?_;walk_nrm)
 (refine @Hq.un _ ?_;refine qR ?_)
 (refine hJ.entry (.bool false) rfl rfl (by k_ne) rfl H.f_inBubble (x_inBubble_n L) (x_inBubble_b L) (x_inBubble_x L) (x_inBubble_f L) ?_;walk_nrm)
 (refine @Hq.un _ ?_;refine qR ?_)
 (refine hJ.enter rfl rfl (by k_ne) rfl H.f_uAdd (nm_uAdd L) rfl ?_;walk_nrmf uAddFn)
 (refine @Hq.un _ ?_;refine qR ?_)
 (refine (congrFun hJe _).mpr ?_;clear hJe hJ J)
 refine Djp rfl rfl (by k_ne) rfl H.f_addU64 (x_addU64_n L) (x_addU64_b L) (x_addU64_x L) (x_addU64_f L) rfl rfl ?_ ?_
 ·walk_nrm
  (obtain ⟨J,hJe⟩:∃J:Goroutine->Prop,J=(fun g=>∃ρ,OthW P c Wg L.tWg ρ g (.rel 2)):=⟨_,rfl⟩;have hJ:Quiet P false (WgA Wg L.tWg) J:=(by rw [hJe];exact Quiet.rel 2);refine (congrFun hJe _).mp ?_)
  (refine @Hq.un _ ?_;refine qR ?_)
  (first | (refine hJ.leave1 rfl rfl H.f_uAdd rfl ?_;walk_nrm) | (refine hJ.leave0 rfl rfl H.f_uAdd rfl ?_;walk_nrm))
  (refine @Hq.un _ ?_;refine qR ?_)
  (refine hJ.enter rfl rfl (by k_ne) rfl H.f_uLoad (nm_uLoad L) rfl ?_;walk_nrmf uLoadFn)
  (refine @Hq.un _ ?_;refine qR ?_)
  (refine (congrFun hJe _).mpr ?_;clear hJe hJ J)
  refine Cyw rfl (fun w hb'=>Cq5 rfl rfl (by k_ne) rfl H.f_loadU64 (x_loadU64_n L) (x_loadU64_b L) (x_loadU64_x L) (x_loadU64_f L) rfl w hb' false) ?_
  walk_nrm
  refine (show ∃ρ,OthW P c Wg L.tWg ρ _ (.rel 1) from ?_)
  (obtain ⟨J,hJe⟩:∃J:Goroutine->Prop,J=(fun g=>∃ρ,OthW P c Wg L.tWg ρ g (.rel 1)):=⟨_,rfl⟩;have hJ:Quiet P false (WgA Wg L.tWg) J:=(by rw [hJe];exact Quiet.rel 1);refine (congrFun hJe _).mp ?_)
  (refine @Hq.un _ ?_;refine qR ?_)
  (first | (refine hJ.leave1 rfl rfl H.f_uLoad rfl ?_;walk_nrm) | (refine hJ.leave0 rfl rfl H.f_uLoad rfl ?_;walk_nrm))
  (refine @Hq.un _ ?_;refine qR ?_)
  (refine hJ.enter rfl rfl (by k_ne) rfl H.f_uStore (nm_uStore L) rfl ?_;walk_nrmf uStoreFn)
  (refine @Hq.un _ ?_;refine qR ?_)
  (refine (congrFun hJe _).mpr ?_;clear hJe hJ J)
  refine Cwv rfl rfl (by k_ne) rfl H.f_storeU64 (x_storeU64_n L) (x_storeU64_b L) (x_storeU64_x L) (x_storeU64_f L) rfl rfl ?_
  walk_nrm
  (obtain ⟨J,hJe⟩:∃J:Goroutine->Prop,J=(fun g=>∃ρ,OthW P c Wg L.tWg ρ g (.rel 0)):=⟨_,rfl⟩;have hJ:Quiet P false (WgA Wg L.tWg) J:=(by rw [hJe];exact Quiet.rel 0);refine (congrFun hJe _).mp ?_)
  (refine @Hq.un _ ?_;refine qR ?_)
  (first | (refine hJ.leave1 rfl rfl H.f_uStore rfl ?_;walk_nrm) | (refine hJ.leave0 rfl rfl H.f_uStore rfl ?_;walk_nrm))
  (refine @Hq.un _ ?_;refine qR ?_)
  (refine (congrFun hJe _).mpr ?_;clear hJe hJ J)
  refine Bka rfl rfl (by k_ne) rfl H.f_semrelease (x_semrelease_n L) (x_semrelease_b L) (x_semrelease_x L) (x_semrelease_f L) (by simp [Act.eval,smW]) ?_
  walk_nrm
  (obtain ⟨J,hJe⟩:∃J:Goroutine->Prop,J=(fun g=>∃n,QuitsD P n 1 g):=⟨_,rfl⟩;have hJ:Quiet P false (fun _=>True) J:=(by rw [hJe];exact Quiet.quits 1);refine (congrFun hJe _).mp ?_)
  (refine @Hq.un _ ?_;refine qR ?_)
  (refine (congrFun hJe _).mpr ?_;clear hJe hJ J)
  refine ⟨qt+2,?_⟩
  q_enable
  q_leave0 H.f_add
  exact hT
 ·intro v wt hv hwt hne
  rcases Nat.eq_zero_or_pos v with rfl | hvp
  ·obtain rfl:wt=0:=by omega
   rw [show ((0*KW+0:Nat):Int)=0 by simp]
   walk_nrm
   (obtain ⟨J,hJe⟩:∃J:Goroutine->Prop,J=(fun g=>∃n,QuitsD P n 1 g):=⟨_,rfl⟩;have hJ:Quiet P false (fun _=>True) J:=(by rw [hJe];exact Quiet.quits 1);refine (congrFun hJe _).mp ?_)
   (refine @Hq.un _ ?_;refine qR ?_)
   (first | (refine hJ.leave1 rfl rfl H.f_uAdd rfl ?_;walk_nrm) | (refine hJ.leave0 rfl rfl H.f_uAdd rfl ?_;walk_nrm))
   (refine @Hq.un _ ?_;refine qR ?_)
   (refine (congrFun hJe _).mpr ?_;clear hJe hJ J)
   refine ⟨qt+2,?_⟩
   q_enable
   q_leave0 H.f_add
   exact hT
  ·obtain ⟨V,hV⟩:∃V:Int,V=(v:Int):=⟨_,rfl⟩
   obtain ⟨S,hS⟩:∃S:Int,S=((v*KW+wt:Nat):Int):=⟨_,rfl⟩
   have eK:((v*KW+wt:Nat):Int)=(v:Int)*4294967296+(wt:Int):=by unfold KW;omega
   have a1:S/4294967296=V:=by rw [hS,eK,hV];omega
   have a2:IntKind.u64.wrap S=S:=by rw [IntKind.wrap_u64,hS,eK];omega
   have b1:bits .and .u64 S 2147483648=0:=by rw [hS,eK];exact Go.ConcN.st_flag v wt (by omega) (by omega)
   have b2:bits .and .u64 S 2147483647=(wt:Int):=by rw [hS,eK];exact Go.ConcN.st_waiters v wt (by omega) (by omega)
   have c1:IntKind.i32.wrap V=V:=by rw [IntKind.wrap_i32];omega
   have q3:decide (V<0)=false:=decide_eq_false (by omega)
   have q4:decide (0<V)=true:=decide_eq_true (by omega)
   rw [<-hS]
   clear hS eK hV
   walk_nrm
   obtain rfl | rfl:wt=0∨wt=1:=by omega
   ·replace b2:bits .and .u64 S 2147483647=0:=b2
    (obtain ⟨J,hJe⟩:∃J:Goroutine->Prop,J=(fun g=>∃n,QuitsD P n 1 g):=⟨_,rfl⟩;have hJ:Quiet P false (fun _=>True) J:=(by rw [hJe];exact Quiet.quits 1);refine (congrFun hJe _).mp ?_)
    (refine @Hq.un _ ?_;refine qR ?_)
    (first | (refine hJ.leave1 rfl rfl H.f_uAdd rfl ?_;walk_nrm) | (refine hJ.leave0 rfl rfl H.f_uAdd rfl ?_;walk_nrm))
    (refine @Hq.un _ ?_;refine qR ?_)
    (refine (congrFun hJe _).mpr ?_;clear hJe hJ J)
    refine ⟨qt+2,?_⟩
    q_enable
    q_leave0 H.f_add
    exact hT
   ·replace b2:bits .and .u64 S 2147483647=1:=b2
    (obtain ⟨J,hJe⟩:∃J:Goroutine->Prop,J=(fun g=>∃n,QuitsD P n 1 g):=⟨_,rfl⟩;have hJ:Quiet P false (fun _=>True) J:=(by rw [hJe];exact Quiet.quits 1);refine (congrFun hJe _).mp ?_)
    (refine @Hq.un _ ?_;refine qR ?_)
    (first | (refine hJ.leave1 rfl rfl H.f_uAdd rfl ?_;walk_nrm) | (refine hJ.leave0 rfl rfl H.f_uAdd rfl ?_;walk_nrm))
    (refine @Hq.un _ ?_;refine qR ?_)
    (refine (congrFun hJe _).mpr ?_;clear hJe hJ J)
    refine ⟨qt+2,?_⟩
    q_enable
    q_leave0 H.f_add
    exact hT
end
end Go.X
end
section
namespace Go.X
open Go
open Go.Conc Go.RowKit Go.Conc.Lib Go.ConcR.Gen Go.ConcN.Gen
open Go.ConcR (KK)
theorem Quiet.enter2 {P:Program} {m:Bool} {A:World->Prop} {J:Goroutine->Prop} {b:Frame} {a:Act} {k:List Item} {cs:List Frame} {ops:Array Oper} {i:Nat} {rest:List Nat} {o:Oper} {f:FuncId} {fn:Func} {ats:Array TypeId} {as':Array Operand}
  (hJ:Quiet P m A J) {c:Code} (ho:ops[i]?=some o) (hw:Region.wanted o (yielded ops a.tmps)=true) (hk:b.kind≠.early) (hop:o.op=.call { callee:=.value (.func f),args:=as',argTypes:=ats })
  (hf:P.funcs[f]?=some fn) (hname:(fn.name == "runtime.NumGoroutine")=false) (hb:fn.body=some c) (vals:Array Value) (n:Nat) (hv:as'.map a.eval=vals) (hn':fn.ntmps-vals.size=n)
  (hn:J (G ((base f).at { tmps:=vals++Array.replicate n undef,defers:=[] } [.code c]) (b.at a (.inRegion ops (i::rest)::k)::cs))):J (G (b.at a (.inRegion ops (i::rest)::k)) cs):=by
 subst hv hn'
 exact hJ.enter ho hw hk hop hf hname hb hn
variable {L:WgLink}
theorem Ayw:(addFn L).body=some (body_add L):=rfl
set_option maxHeartbeats 4000000 in
theorem Dve {P:Program} (H:WgLib P L) (K:Hp) {c Wg:Nat} {fr:Frame} {cs:List Frame} {qt:Nat} (hcm:fr.mode=.returning) (hT:QuitsD P qt 0 (G fr cs)) :
  ∃ρ,OthW P c Wg L.tWg ρ (G ((baseD L.done).at ⟨#[.pointer (some ⟨Wg,0,none⟩),undef,undef,undef],[]⟩ [.code (body_done L)]) (fr::cs)) (.sent K):=by
 lib_facts
 simp only [body_done,doneFn,Option.getD_some]
 (obtain ⟨J,hJe⟩:∃J:Goroutine->Prop,J=(fun g=>∃ρ,OthW P c Wg L.tWg ρ g (.sent K)):=⟨_,rfl⟩;have hJ:Quiet P false (WgA Wg L.tWg) J:=(by rw [hJe];exact Quiet.sent K);refine (congrFun hJe _).mp ?_)
 refine hJ.region ?_
 simp only [List.size_toArray,List.length_cons,List.length_nil,Nat.reduceAdd,Nat.zero_add,List.range,List.range.loop]
 (refine hJ.value (v:=?_) rfl rfl (by k_ne) (fun w hA=>⟨?_,?_⟩) ?_;rotate_left;(focus ((try obtain ⟨st,sm,hw,h0,h1⟩:=hA);go_simp;(try w_num);(try exact rfl);done));(focus ((try obtain ⟨st,sm,hw,h0,h1⟩:=hA);simp [go_sem, *]));walk_nrm)
 refine hJ.enter2 rfl rfl (by k_ne) rfl H.f_add (nm_add L) Ayw #[.pointer (some ⟨Wg,0,none⟩),.int .i64 (-1)] 115 (by simp [Act.eval]) rfl ?_
 (refine (congrFun hJe _).mpr ?_;clear hJe hJ J)
 refine Dxe (qt:=qt+3) H K ?_
 q_c stepG_region_end
 q_c stepG_end
 exact QuitsD.leaveD rfl rfl H.f_done rfl hcm hT
end Go.X
end
