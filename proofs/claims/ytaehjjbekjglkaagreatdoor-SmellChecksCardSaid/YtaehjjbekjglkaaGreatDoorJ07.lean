/- Texts WWait WPos. -/
import Derived.Test.YtaehjjbekjglkaaGreatDoorJ06
set_option linter.defProp false
set_option linter.unusedSimpArgs false
set_option linter.unusedVariables false
set_option maxRecDepth 100000
set_option maxHeartbeats 2000000
section
namespace Go.X
open Go
open Go.Conc Go.RowKit Go.Conc.Lib Go.ConcR.Gen Go.ConcN.Gen
open Go.ConcR (KK)
def Cjz (p:Prop):Prop:=p
section
variable {P:Program} {c b:Nat} {ty:TypeId} {bb:Frame} {a:Act} {kk:List Item} {cs:List Frame} {f:FuncId} {fn:Func} {ops:Array Oper} {i:Nat} {rest:List Nat} {o:Oper} {ats:Array TypeId} {x y z:Operand} {ars:Array Operand} {K:Hp} {m:Nat}
theorem Cww (ho:ops[i]?=some o) (hw:Region.wanted o (yielded ops a.tmps)=true) (hk:bb.kind≠.early) (hop:o.op=.call { callee:=.value (.func f),args:=#[x],argTypes:=ats })
  (hf:P.funcs[f]?=some fn) (hname:(fn.name == "runtime.NumGoroutine")=false) (hb:fn.body.isNone=true) (hn:Extern.findNext fn=none)
  (he:Extern.find fn=some (Extern.Atomic.loadT (.int .u64))) (hx:a.eval x=.pointer (some (stW b)))
  (h0:∃ρ,OthW P c b ty ρ (G (bb.at (a.put o.dst (.int .u64 0)) (.inRegion ops rest::kk)) cs) (.shut K 1))
  (h1:∀v:Nat,v<=m->v<100->v≠0->∃ρ,OthW P c b ty ρ (G (bb.at (a.put o.dst (.int .u64 ((v*KW:Nat):Int))) (.inRegion ops rest::kk)) cs) (.wait K 1 v)) :
  ∃ρ,OthW P c b ty ρ (G (bb.at a (.inRegion ops (i::rest)::kk)) cs) (.wait K 1 m):=by
 refine Cyu (fun v g'=>g'=G (bb.at (a.put o.dst (.int .u64 ((v*KW:Nat):Int))) (.inRegion ops rest::kk)) cs) rfl (fun w v hv hv' hb'=>⟨_,?_,rfl⟩) ?_ ?_
 ·exact stepG_load_atomic ho hw hk hop hf hname hb hn .u64 he hx (Akz hb')
 ·rintro _ rfl
  simpa using h0
 ·rintro v _ hv hv' hne rfl
  exact h1 v hv hv' hne
theorem Djq (ho:ops[i]?=some o) (hw:Region.wanted o (yielded ops a.tmps)=true) (hk:bb.kind≠.early) (hop:o.op=.call { callee:=.value (.func f),args:=#[x,y,z],argTypes:=ats })
  (hf:P.funcs[f]?=some fn) (hname:(fn.name == "runtime.NumGoroutine")=false) (hb:fn.body.isNone=true) (hn:Extern.findNext fn=none)
  (he:Extern.find fn=some (Extern.Atomic.casT (.int .u64))) (hx:a.eval x=.pointer (some (stW b))) (hy:a.eval y=.int .u64 ((m*KW:Nat):Int)) (hz:a.eval z=.int .u64 ((m*KW+1:Nat):Int)) (hm0:m≠0)
  (h0:∃ρ,OthW P c b ty ρ (G (bb.at (a.put o.dst (.bool true)) (.inRegion ops rest::kk)) cs) (.sema K))
  (h1:∀v:Nat,v<m->∃ρ,OthW P c b ty ρ (G (bb.at (a.put o.dst (.bool false)) (.inRegion ops rest::kk)) cs) (.wait K 1 v)) :
  ∃ρ,OthW P c b ty ρ (G (bb.at a (.inRegion ops (i::rest)::kk)) cs) (.wait K 1 m):=by
 refine Dj9 (fun v g'=>g'=G (bb.at (a.put o.dst (.bool (decide (v=m)))) (.inRegion ops rest::kk)) cs) rfl hm0 (fun w hm hb'=>⟨_,?_,rfl⟩) (fun w v hv hm hb'=>⟨_,?_,rfl⟩) ?_ ?_
 ·rw [stepG_cas_hit ho hw hk hop hf hname hb hn .u64 he hx hy hz (Akz hb') (Ayo hb' _),Cxt hb']
  simp
  exact ⟨rfl,rfl⟩
 ·rw [stepG_cas_miss ho hw hk hop hf hname hb hn .u64 he hx hy hz (Akz hb') (Ayo hb' _) (by simp only [KW];omega)]
  have:decide (v=m)=false:=decide_eq_false (by omega)
  rw [this]
  rfl
 ·rintro _ rfl
  simpa using h0
 ·rintro v _ hv hm rfl
  have:decide (v=m)=false:=decide_eq_false (by omega)
  rw [this]
  exact h1 v hv
theorem Djo (ho:ops[i]?=some o) (hw:Region.wanted o (yielded ops a.tmps)=true) (hk:bb.kind≠.early) (hop:o.op=.call { callee:=.value (.func f),args:=ars,argTypes:=ats })
  (hf:P.funcs[f]?=some fn) (hname:(fn.name == "runtime.NumGoroutine")=false) (hb:fn.body.isNone=true) (hn:Extern.findNext fn=none)
  (he:Extern.find fn=some Extern.Sync.semacquire) (hx:(ars.map a.eval)[0]?=some (.pointer (some (smW b)))) (hq:∃ρ,OthW P c b ty ρ (G (bb.at (a.put o.dst (.tuple #[])) (.inRegion ops rest::kk)) cs) (.woke K)) :
  (G (bb.at a (.inRegion ops (i::rest)::kk)) cs).status=.running/\∃ρ,OthW P c b ty ρ (G (bb.at a (.inRegion ops (i::rest)::kk)) cs) (.sema K):=by
 refine Dj5 rfl rfl (fun w st hb'=>stepG_semacquire_wait ho hw hop hf hname hb hn he hx (Bxs hb')) (fun w hb'=>?_) hq
 rw [stepG_semacquire ho hw hk hop hf hname hb hn he hx (Bxs hb') (by simp) (Ayo hb' _)]
 have e:(((1:Nat):Int)-1)=((0:Nat):Int):=rfl
 rw [e,Dq7 hb']
theorem Dje {g:Goroutine} (h:g.status=.running/\∃ρ,OthW P c b ty ρ g (.sema K)):∃ρ,OthW P c b ty ρ g (.sema K):=h.2
end
variable {L:WgLink}
section
variable {P:Program} {c Wg:Nat} {b₀:Frame} {a₀:Act} {ops₀:Array Oper} {i₀:Nat} {rest₀:List Nat} {k₀:List Item} {cs:List Frame} {K:Hp}
set_option maxHeartbeats 4000000 in
theorem Cjr (H:WgLib P L) (hT:∃ρ,OthW P c Wg L.tWg ρ (G (b₀.at (a₀.put ((ops₀[i₀]?).bind (·.dst)) (.tuple #[])) (.inRegion ops₀ rest₀::k₀)) cs) (.late K)) :
  ∀(m:Nat) (T:Array Value),T.size=84->T[0]?=some (.pointer (some ⟨Wg,0,none⟩)) ->
   ∃ρ,OthW P c Wg L.tWg ρ (G ((base L.wait).at ⟨T,[]⟩ [.code (L7 L),.inLoop (L7 L),.inBlock 0]) (b₀.at a₀ (.inRegion ops₀ (i₀::rest₀)::k₀)::cs)) (.wait K 1 m):=by
 intro m
 induction m using Nat.strongRecOn with
 | _ m ih=>
 lib_facts
 intro T hT84 t0
 obtain ⟨v0,v1,v2,v3,v4,v5,v6,v7,v8,v9,v10,v11,v12,v13,v14,v15,v16,v17,v18,v19,v20,v21,v22,v23,v24,v25,v26,v27,v28,v29,v30,v31,v32,v33,v34,v35,v36,v37,v38,v39,v40,v41,v42,v43,v44,v45,v46,v47,v48,v49,v50,v51,v52,v53,v54,v55,v56,v57,v58,v59,v60,v61,v62,v63,v64,v65,v66,v67,v68,v69,v70,v71,v72,v73,v74,v75,v76,v77,v78,v79,v80,v81,v82,v83,rfl⟩:=array84 T hT84
 simp only [List.getElem?_toArray,List.getElem?_cons_zero,Option.some.injEq] at t0
 subst t0
 clear hT84
 replace ih:Cjz _:=ih
 simp only [L7,body_wait,waitFn,Option.getD_some]
 (obtain ⟨J,hJe⟩:∃J:Goroutine->Prop,J=(fun g=>∃ρ,OthW P c Wg L.tWg ρ g (.wait K 1 m)):=⟨_,rfl⟩;have hJ:Quiet P false (WgA Wg L.tWg) J:=(by rw [hJe];exact Quiet.wait K 1 m);refine (congrFun hJe _).mp ?_)
 (refine @Hq.un _ ?_;refine qR ?_)
 (refine hJ.enter rfl rfl (by k_ne) rfl H.f_uLoad (nm_uLoad L) rfl ?_;walk_nrmf uLoadFn)
 (refine @Hq.un _ ?_;refine qR ?_)
 (refine (congrFun hJe _).mpr ?_;clear hJe hJ J)
 refine Cww rfl rfl (by k_ne) rfl H.f_loadU64 (x_loadU64_n L) (x_loadU64_b L) (x_loadU64_x L) (x_loadU64_f L) rfl ?_ ?_
 ·walk_nrm
  (obtain ⟨J,hJe⟩:∃J:Goroutine->Prop,J=(fun g=>∃ρ,OthW P c Wg L.tWg ρ g (.shut K 1)):=⟨_,rfl⟩;have hJ:Quiet P false (WgA Wg L.tWg) J:=(by rw [hJe];exact Quiet.shut K 1);refine (congrFun hJe _).mp ?_)
  (refine @Hq.un _ ?_;refine qR ?_)
  (first | (refine hJ.leave1 rfl rfl H.f_uLoad rfl ?_;walk_nrm) | (refine hJ.leave0 rfl rfl H.f_uLoad rfl ?_;walk_nrm))
  (refine @Hq.un _ ?_;refine qR ?_)
  (refine (congrFun hJe _).mpr ?_;clear hJe hJ J)
  refine Cxi rfl (.inr rfl) (fun w st sm _=>stepG_mark0 .enable (by simp) rfl rfl (by k_ne) rfl H.f_enable (x_enable_n L) (x_enable_b L) (x_enable_x L) (x_enable_f L)) ?_
  walk_nrm
  refine (show ∃ρ,OthW P c Wg L.tWg ρ _ (.shut K 0) from ?_)
  (obtain ⟨J,hJe⟩:∃J:Goroutine->Prop,J=(fun g=>∃ρ,OthW P c Wg L.tWg ρ g (.shut K 0)):=⟨_,rfl⟩;have hJ:Quiet P false (WgA Wg L.tWg) J:=(by rw [hJe];exact Quiet.shut K 0);refine (congrFun hJe _).mp ?_)
  (refine @Hq.un _ ?_;refine qR ?_)
  (refine hJ.value (v:=?_) rfl rfl (by k_ne) (fun w hA=>⟨?_,?_⟩) ?_;rotate_left;(focus (obtain ⟨st,sm,hw,h0,h1⟩:=hA;have hcv:=run_convert_to_unsafe (P:=P) H.underlying_tWgP H.underlying_tUP H.room_tWg h0;go_simp;(try (exact rfl));done));(focus (obtain ⟨st,sm,hw,h0,h1⟩:=hA;have hce:=fun es=>events_convert_to_unsafe (P:=P) H.underlying_tWgP H.underlying_tUP H.room_tWg h0 es;simp [go_sem,hce, *]));walk_nrm)
  (refine (congrFun hJe _).mpr ?_;clear hJe hJ J)
  refine Cku rfl (fun w st sm _=>stepG_markAt .acquire (by simp) rfl rfl (by k_ne) rfl H.f_acquire (x_acquire_n L) (x_acquire_b L) (x_acquire_x L) (x_acquire_f L) (by simp [Act.eval,stW])) ?_
  walk_nrm
  refine (show ∃ρ,OthW P c Wg L.tWg ρ _ (.late K) from ?_)
  (obtain ⟨J,hJe⟩:∃J:Goroutine->Prop,J=(fun g=>∃ρ,OthW P c Wg L.tWg ρ g (.late K)):=⟨_,rfl⟩;have hJ:Quiet P false (WgA Wg L.tWg) J:=(by rw [hJe];exact Quiet.late K);refine (congrFun hJe _).mp ?_)
  (refine @Hq.un _ ?_;refine qR ?_)
  refine hJ.leave0 rfl rfl H.f_wait rfl ?_
  (refine (congrFun hJe _).mpr ?_;clear hJe hJ J)
  exact hT
 ·intro v hv hv' hne
  obtain ⟨V,hV⟩:∃V:Int,V=(v:Int):=⟨_,rfl⟩
  obtain ⟨S,hS⟩:∃S:Int,S=((v*KW:Nat):Int):=⟨_,rfl⟩
  have eK:((v*KW:Nat):Int)=(v:Int)*4294967296:=by unfold KW;omega
  have a1:S/4294967296=V:=by rw [hS,eK,hV];omega
  have b1:bits .and .u64 S 2147483648=0:=by rw [hS,eK];have:=Go.ConcN.st_flag v 0 (by omega) (by omega);simpa using this
  have b2:bits .and .u64 S 2147483647=0:=by rw [hS,eK];have:=Go.ConcN.st_waiters v 0 (by omega) (by omega);simpa using this
  have c1:IntKind.i32.wrap V=V:=by rw [IntKind.wrap_i32];omega
  have w1:IntKind.u64.wrap (S+1)=S+1:=by rw [IntKind.wrap_u64,hS,eK];omega
  have q3:decide (V<0)=false:=decide_eq_false (by omega)
  have q4:decide (0<V)=true:=decide_eq_true (by omega)
  have q5:(V==0)=false:=by simp;omega
  have q6:decide (V=0)=false:=decide_eq_false (by omega)
  rw [<-hS]
  replace hS:Cjz _:=hS
  replace hne:Cjz _:=hne
  replace hv:Cjz _:=hv
  clear eK hV
  walk_nrm
  (obtain ⟨J,hJe⟩:∃J:Goroutine->Prop,J=(fun g=>∃ρ,OthW P c Wg L.tWg ρ g (.wait K 1 v)):=⟨_,rfl⟩;have hJ:Quiet P false (WgA Wg L.tWg) J:=(by rw [hJe];exact Quiet.wait K 1 v);refine (congrFun hJe _).mp ?_)
  (refine @Hq.un _ ?_;refine qR ?_)
  (first | (refine hJ.leave1 rfl rfl H.f_uLoad rfl ?_;walk_nrm) | (refine hJ.leave0 rfl rfl H.f_uLoad rfl ?_;walk_nrm))
  (refine @Hq.un _ ?_;refine qR ?_)
  (refine hJ.enter rfl rfl (by k_ne) rfl H.f_uCas (nm_uCas L) rfl ?_;walk_nrmf uCasFn)
  (refine @Hq.un _ ?_;refine qR ?_)
  (refine (congrFun hJe _).mpr ?_;clear hJe hJ J)
  refine Djq rfl rfl (by k_ne) rfl H.f_casU64 (x_casU64_n L) (x_casU64_b L) (x_casU64_x L) (x_casU64_f L) rfl ?_ ?_ hne ?_ ?_
  ·exact congrArg (Value.int .u64) hS
  ·exact congrArg (Value.int .u64) (by have h:S=((v*KW:Nat):Int):=hS;rw [h];omega)
  ·walk_nrm
   refine Dje ?_
   (obtain ⟨J,hJe⟩:∃J:Goroutine->Prop,J=(fun g=>g.status=.running/\∃ρ,OthW P c Wg L.tWg ρ g (.sema K)):=⟨_,rfl⟩;have hJ:Quiet P false (WgA Wg L.tWg) J:=(by rw [hJe];exact Quiet.sema K);refine (congrFun hJe _).mp ?_)
   (refine @Hq.un _ ?_;refine qR ?_)
   (first | (refine hJ.leave1 rfl rfl H.f_uCas rfl ?_;walk_nrm) | (refine hJ.leave0 rfl rfl H.f_uCas rfl ?_;walk_nrm))
   (refine @Hq.un _ ?_;refine qR ?_)
   (refine hJ.value (v:=?_) rfl rfl (by k_ne) (fun w hA=>⟨?_,?_⟩) ?_;rotate_left;(focus (obtain ⟨st,sm,hw,h0,h1⟩:=hA;have hcv:=run_convert_to_unsafe (P:=P) H.underlying_tPU32 H.underlying_tUP H.room_tU32 h1;go_simp;(try (exact rfl));done));(focus (obtain ⟨st,sm,hw,h0,h1⟩:=hA;have hce:=fun es=>events_convert_to_unsafe (P:=P) H.underlying_tPU32 H.underlying_tUP H.room_tU32 h1 es;simp [go_sem,hce, *]));walk_nrm)
   (refine (congrFun hJe _).mpr ?_;clear hJe hJ J)
   refine Cyv rfl (.inr rfl) (fun w st sm _=>stepG_markAt .write (by simp) rfl rfl (by k_ne) rfl H.f_raceWrite (x_raceWrite_n L) (x_raceWrite_b L) (x_raceWrite_x L) (x_raceWrite_f L) (ad:=smW Wg) (by simp [Act.eval,smW])) ?_
   walk_nrm
   (obtain ⟨J,hJe⟩:∃J:Goroutine->Prop,J=(fun g=>g.status=.running/\∃ρ,OthW P c Wg L.tWg ρ g (.sema K)):=⟨_,rfl⟩;have hJ:Quiet P false (WgA Wg L.tWg) J:=(by rw [hJe];exact Quiet.sema K);refine (congrFun hJe _).mp ?_)
   (refine @Hq.un _ ?_;refine qR ?_)
   (refine (congrFun hJe _).mpr ?_;clear hJe hJ J)
   refine Djo rfl rfl (by k_ne) rfl H.f_semacquire (x_semacquire_n L) (x_semacquire_b L) (x_semacquire_x L) (x_semacquire_f L) (by simp [Act.eval,smW]) ?_
   walk_nrm
   (obtain ⟨J,hJe⟩:∃J:Goroutine->Prop,J=(fun g=>∃ρ,OthW P c Wg L.tWg ρ g (.woke K)):=⟨_,rfl⟩;have hJ:Quiet P false (WgA Wg L.tWg) J:=(by rw [hJe];exact Quiet.woke K);refine (congrFun hJe _).mp ?_)
   (refine @Hq.un _ ?_;refine qR ?_)
   (refine hJ.enter rfl rfl (by k_ne) rfl H.f_uLoad (nm_uLoad L) rfl ?_;walk_nrmf uLoadFn)
   (refine @Hq.un _ ?_;refine qR ?_)
   (refine (congrFun hJe _).mpr ?_;clear hJe hJ J)
   refine Cyt rfl (fun w hb'=>Cq5 rfl rfl (by k_ne) rfl H.f_loadU64 (x_loadU64_n L) (x_loadU64_b L) (x_loadU64_x L) (x_loadU64_f L) rfl w hb' false) ?_
   walk_nrm
   (obtain ⟨J,hJe⟩:∃J:Goroutine->Prop,J=(fun g=>∃ρ,OthW P c Wg L.tWg ρ g (.shut K 1)):=⟨_,rfl⟩;have hJ:Quiet P false (WgA Wg L.tWg) J:=(by rw [hJe];exact Quiet.shut K 1);refine (congrFun hJe _).mp ?_)
   (refine @Hq.un _ ?_;refine qR ?_)
   (first | (refine hJ.leave1 rfl rfl H.f_uLoad rfl ?_;walk_nrm) | (refine hJ.leave0 rfl rfl H.f_uLoad rfl ?_;walk_nrm))
   (refine @Hq.un _ ?_;refine qR ?_)
   (refine (congrFun hJe _).mpr ?_;clear hJe hJ J)
   refine Cxi rfl (.inr rfl) (fun w st sm _=>stepG_mark0 .enable (by simp) rfl rfl (by k_ne) rfl H.f_enable (x_enable_n L) (x_enable_b L) (x_enable_x L) (x_enable_f L)) ?_
   walk_nrm
   refine (show ∃ρ,OthW P c Wg L.tWg ρ _ (.shut K 0) from ?_)
   (obtain ⟨J,hJe⟩:∃J:Goroutine->Prop,J=(fun g=>∃ρ,OthW P c Wg L.tWg ρ g (.shut K 0)):=⟨_,rfl⟩;have hJ:Quiet P false (WgA Wg L.tWg) J:=(by rw [hJe];exact Quiet.shut K 0);refine (congrFun hJe _).mp ?_)
   (refine @Hq.un _ ?_;refine qR ?_)
   (refine hJ.value (v:=?_) rfl rfl (by k_ne) (fun w hA=>⟨?_,?_⟩) ?_;rotate_left;(focus (obtain ⟨st,sm,hw,h0,h1⟩:=hA;have hcv:=run_convert_to_unsafe (P:=P) H.underlying_tWgP H.underlying_tUP H.room_tWg h0;go_simp;(try (exact rfl));done));(focus (obtain ⟨st,sm,hw,h0,h1⟩:=hA;have hce:=fun es=>events_convert_to_unsafe (P:=P) H.underlying_tWgP H.underlying_tUP H.room_tWg h0 es;simp [go_sem,hce, *]));walk_nrm)
   (refine (congrFun hJe _).mpr ?_;clear hJe hJ J)
   refine Cku rfl (fun w st sm _=>stepG_markAt .acquire (by simp) rfl rfl (by k_ne) rfl H.f_acquire (x_acquire_n L) (x_acquire_b L) (x_acquire_x L) (x_acquire_f L) (by simp [Act.eval,stW])) ?_
   walk_nrm
   refine (show ∃ρ,OthW P c Wg L.tWg ρ _ (.late K) from ?_)
   (obtain ⟨J,hJe⟩:∃J:Goroutine->Prop,J=(fun g=>∃ρ,OthW P c Wg L.tWg ρ g (.late K)):=⟨_,rfl⟩;have hJ:Quiet P false (WgA Wg L.tWg) J:=(by rw [hJe];exact Quiet.late K);refine (congrFun hJe _).mp ?_)
   (refine @Hq.un _ ?_;refine qR ?_)
   refine hJ.leave0 rfl rfl H.f_wait rfl ?_
   (refine (congrFun hJe _).mpr ?_;clear hJe hJ J)
   exact hT
  ·intro v' hlt
   walk_nrm
   (obtain ⟨J,hJe⟩:∃J:Goroutine->Prop,J=(fun g=>∃ρ,OthW P c Wg L.tWg ρ g (.wait K 1 v')):=⟨_,rfl⟩;have hJ:Quiet P false (WgA Wg L.tWg) J:=(by rw [hJe];exact Quiet.wait K 1 v');refine (congrFun hJe _).mp ?_)
   (refine @Hq.un _ ?_;refine qR ?_)
   (first | (refine hJ.leave1 rfl rfl H.f_uCas rfl ?_;walk_nrm) | (refine hJ.leave0 rfl rfl H.f_uCas rfl ?_;walk_nrm))
   refine hJ.region_end ?_
   refine hJ.condF rfl ?_
   refine hJ.skip ?_
   refine hJ.inBlock ?_
   refine hJ.inLoop ?_
   (refine (congrFun hJe _).mpr ?_;clear hJe hJ J)
   have ih':∀m',m'<m->_:=ih
   have hv2:v<=m:=hv
   exact ih' v' (by omega) _ (by simp) (by simp)
theorem waitW (H:WgLib P L) (hT:∃ρ,OthW P c Wg L.tWg ρ (G (b₀.at (a₀.put ((ops₀[i₀]?).bind (·.dst)) (.tuple #[])) (.inRegion ops₀ rest₀::k₀)) cs) (.late K)) (m:Nat) :
  ∃ρ,OthW P c Wg L.tWg ρ (G ((base L.wait).at ⟨#[.pointer (some ⟨Wg,0,none⟩)]++Array.replicate 83 undef,[]⟩ [.code (body_wait L)]) (b₀.at a₀ (.inRegion ops₀ (i₀::rest₀)::k₀)::cs)) (.wait K 0 m):=by
 have hR:=Cjr (K:=K) H hT m
 lib_facts
 walk_nrm
 simp only [L7,body_wait,waitFn,Option.getD_some] at hR ⊢
 replace hR:Cjz _:=hR
 (obtain ⟨J,hJe⟩:∃J:Goroutine->Prop,J=(fun g=>∃ρ,OthW P c Wg L.tWg ρ g (.wait K 0 m)):=⟨_,rfl⟩;have hJ:Quiet P false (WgA Wg L.tWg) J:=(by rw [hJe];exact Quiet.wait K 0 m);refine (congrFun hJe _).mp ?_)
 refine hJ.seq ?_
 refine hJ.condT rfl ?_
 (refine @Hq.un _ ?_;refine qR ?_)
 (refine (congrFun hJe _).mpr ?_;clear hJe hJ J)
 refine Cyz rfl (.inr rfl) (fun w st sm _=>stepG_mark0 .disable (by simp) rfl rfl (by k_ne) rfl H.f_disable (x_disable_n L) (x_disable_b L) (x_disable_x L) (x_disable_f L)) ?_
 walk_nrm
 refine (show ∃ρ,OthW P c Wg L.tWg ρ _ (.wait K 1 m) from ?_)
 (obtain ⟨J,hJe⟩:∃J:Goroutine->Prop,J=(fun g=>∃ρ,OthW P c Wg L.tWg ρ g (.wait K 1 m)):=⟨_,rfl⟩;have hJ:Quiet P false (WgA Wg L.tWg) J:=(by rw [hJe];exact Quiet.wait K 1 m);refine (congrFun hJe _).mp ?_)
 refine hJ.region_end ?_
 refine hJ.block ?_
 refine hJ.loop ?_
 (refine (congrFun hJe _).mpr ?_;clear hJe hJ J)
 have hR':=show ∀T:Array Value,_ from hR
 exact hR' _ (by simp) (by simp)
end
end Go.X
end
section
namespace Go.X
open Go
open Go.Conc Go.RowKit Go.Conc.Lib Go.ConcR.Gen Go.ConcN.Gen
open Go.ConcR (KK)
section
variable {P:Program} {c b:Nat} {ty:TypeId} {bb:Frame} {a:Act} {kk:List Item} {cs:List Frame} {f:FuncId} {fn:Func} {ops:Array Oper} {i:Nat} {rest:List Nat} {o:Oper} {ats:Array TypeId} {x y z:Operand} {ars:Array Operand}
 {T:Goroutine->Hp->Prop} {n d:Nat} {Lv:List Value} {D:Nat->Prop} {Hh:Hp}
theorem Cj3 (ho:ops[i]?=some o) (hw:Region.wanted o (yielded ops a.tmps)=true) (hk:bb.kind≠.early) (hop:o.op=.call { callee:=.value (.func f),args:=#[x,y],argTypes:=ats })
  (hf:P.funcs[f]?=some fn) (hname:(fn.name == "runtime.NumGoroutine")=false) (hb:fn.body.isNone=true) (hn:Extern.findNext fn=none)
  (he:Extern.find fn=some (Extern.Atomic.update (Op.intArith .add) .u64 true)) (hx:a.eval x=.pointer (some (stW b))) (hy:a.eval y=.int .u64 4294967296) (hn1:n<99)
  (hh:FanW P T (.busy c b ty (n+1) d Lv false D) (G (bb.at (a.put o.dst (.int .u64 (((n+1)*KW:Nat):Int))) (.inRegion ops rest::kk)) cs) Hh) :
  FanW P T (.busy c b ty n d Lv false D) (G (bb.at a (.inRegion ops (i::rest)::kk)) cs) Hh:=
 .add rfl hn1 (fun w _ hb'=>by
  have e:IntKind.u64.wrap (((n*KW:Nat):Int)+4294967296)=(((n+1)*KW:Nat):Int):=by rw [IntKind.wrap_u64];simp only [KW];omega
  rw [stepG_add_atomic ho hw hk hop hf hname hb hn .u64 he hx hy (Akz hb') (Ayo hb' _),e,Cxt hb']
  rfl) hh
end
variable {L:WgLink}
section
variable {P:Program} {c Wg:Nat} {b₀:Frame} {a₀:Act} {ops₀:Array Oper} {i₀:Nat} {rest₀:List Nat} {k₀:List Item} {cs:List Frame} {T:Goroutine->Hp->Prop} {n:Nat} {Lv:List Value} {D:Nat->Prop} {Hh:Hp}
set_option maxHeartbeats 4000000 in
theorem Dxf (H:WgLib P L) (hn:n<99) (hT:FanW P T (.busy c Wg L.tWg (n+1) 0 Lv false D) (G (b₀.at (a₀.put ((ops₀[i₀]?).bind (·.dst)) (.tuple #[])) (.inRegion ops₀ rest₀::k₀)) cs) Hh) :
  FanW P T (.busy c Wg L.tWg n 0 Lv false D) (G ((base L.add).at ⟨#[.pointer (some ⟨Wg,0,none⟩),.int .i64 1]++Array.replicate 115 undef,[]⟩ [.code (body_add L)]) (b₀.at a₀ (.inRegion ops₀ (i₀::rest₀)::k₀)::cs)) Hh:=by
 lib_facts
 walk_nrm
 simp only [body_add,addFn,Option.getD_some]
 (obtain ⟨J,hJe⟩:∃J:Goroutine->Prop,J=(fun g=>FanW P T (.busy c Wg L.tWg n 0 Lv false D) g Hh):=⟨_,rfl⟩;have hJ:Quiet P true (WgA Wg L.tWg) J:=(by rw [hJe];exact Quiet.fan (d:=0));refine (congrFun hJe _).mp ?_)
 (refine @Hq.un _ ?_;refine qR ?_)
 (refine (congrFun hJe _).mpr ?_;clear hJe hJ J)
 refine .mark rfl (.inr (.inl rfl)) (fun w st sm _ _=>stepG_mark0 .disable (by simp) rfl rfl (by k_ne) rfl H.f_disable (x_disable_n L) (x_disable_b L) (x_disable_x L) (x_disable_f L)) ?_
 walk_nrm
 refine (show FanW P T (.busy c Wg L.tWg n 1 Lv false D) _ Hh from ?_)
 (obtain ⟨J,hJe⟩:∃J:Goroutine->Prop,J=(fun g=>FanW P T (.busy c Wg L.tWg n 1 Lv false D) g Hh):=⟨_,rfl⟩;have hJ:Quiet P true (WgA Wg L.tWg) J:=(by rw [hJe];exact Quiet.fan (d:=1));refine (congrFun hJe _).mp ?_)
 (refine @Hq.un _ ?_;refine qR ?_)
 (refine hJ.defer rfl rfl (by k_ne) rfl ?_;walk_nrm)
 (refine @Hq.un _ ?_;refine qR ?_)
 (refine hJ.entry (.bool false) rfl rfl (by k_ne) rfl H.f_inBubble (x_inBubble_n L) (x_inBubble_b L) (x_inBubble_x L) (x_inBubble_f L) ?_;walk_nrm)
 (refine @Hq.un _ ?_;refine qR ?_)
 (refine hJ.enter rfl rfl (by k_ne) rfl H.f_uAdd (nm_uAdd L) rfl ?_;walk_nrmf uAddFn)
 (refine @Hq.un _ ?_;refine qR ?_)
 (refine (congrFun hJe _).mpr ?_;clear hJe hJ J)
 refine Cj3 rfl rfl (by k_ne) rfl H.f_addU64 (x_addU64_n L) (x_addU64_b L) (x_addU64_x L) (x_addU64_f L) rfl rfl hn ?_
 rcases Nat.eq_zero_or_pos n with rfl | hnp
 ·rw [show (((0+1)*KW:Nat):Int)=4294967296 from rfl]
  walk_nrm
  (obtain ⟨J,hJe⟩:∃J:Goroutine->Prop,J=(fun g=>FanW P T (.busy c Wg L.tWg (0+1) 1 Lv false D) g Hh):=⟨_,rfl⟩;have hJ:Quiet P true (WgA Wg L.tWg) J:=(by rw [hJe];exact Quiet.fan (d:=1));refine (congrFun hJe _).mp ?_)
  (refine @Hq.un _ ?_;refine qR ?_)
  (first | (refine hJ.leave1 rfl rfl H.f_uAdd rfl ?_;walk_nrm) | (refine hJ.leave0 rfl rfl H.f_uAdd rfl ?_;walk_nrm))
  (refine @Hq.un _ ?_;refine qR ?_)
  (refine hJ.value (v:=?_) rfl rfl (by k_ne) (fun w hA=>⟨?_,?_⟩) ?_;rotate_left;(focus (obtain ⟨st,sm,hw,h0,h1⟩:=hA;have hcv:=run_convert_to_unsafe (P:=P) H.underlying_tPU32 H.underlying_tUP H.room_tU32 h1;go_simp;(try (exact rfl));done));(focus (obtain ⟨st,sm,hw,h0,h1⟩:=hA;have hce:=fun es=>events_convert_to_unsafe (P:=P) H.underlying_tPU32 H.underlying_tUP H.room_tU32 h1 es;simp [go_sem,hce, *]));walk_nrm)
  (refine (congrFun hJe _).mpr ?_;clear hJe hJ J)
  refine .mark rfl (.inr (.inr (.inr rfl))) (fun w st sm _ _=>stepG_markAt .read (by simp) rfl rfl (by k_ne) rfl H.f_raceRead (x_raceRead_n L) (x_raceRead_b L) (x_raceRead_x L) (x_raceRead_f L) (ad:=smW Wg) (by simp [Act.eval,smW])) ?_
  walk_nrm
  refine (show FanW P T (.busy c Wg L.tWg (0+1) 1 Lv false D) _ Hh from ?_)
  (obtain ⟨J,hJe⟩:∃J:Goroutine->Prop,J=(fun g=>FanW P T (.busy c Wg L.tWg (0+1) 1 Lv false D) g Hh):=⟨_,rfl⟩;have hJ:Quiet P true (WgA Wg L.tWg) J:=(by rw [hJe];exact Quiet.fan (d:=1));refine (congrFun hJe _).mp ?_)
  (refine @Hq.un _ ?_;refine qR ?_)
  (refine (congrFun hJe _).mpr ?_;clear hJe hJ J)
  refine .mark rfl (.inr (.inr (.inl rfl))) (fun w st sm _ _=>stepG_unwind_entry (v:=.tuple #[]) (evs:=#[mkE .enable]) rfl H.f_enable (x_enable_n L) (x_enable_b L) (x_enable_x L) (x_enable_f L) (by simp [Extern.Race.none_]) (by simp [mkE]) (by simp [mkE])) ?_
  refine (show FanW P T (.busy c Wg L.tWg (0+1) 0 Lv false D) _ Hh from ?_)
  (obtain ⟨J,hJe⟩:∃J:Goroutine->Prop,J=(fun g=>FanW P T (.busy c Wg L.tWg (0+1) 0 Lv false D) g Hh):=⟨_,rfl⟩;have hJ:Quiet P true (WgA Wg L.tWg) J:=(by rw [hJe];exact Quiet.fan (d:=0));refine (congrFun hJe _).mp ?_)
  refine hJ.leave0 rfl rfl H.f_add rfl ?_
  (refine (congrFun hJe _).mpr ?_;clear hJe hJ J)
  exact hT
 ·obtain ⟨V,hV⟩:∃V:Int,V=(n:Int)+1:=⟨_,rfl⟩
  obtain ⟨S,hS⟩:∃S:Int,S=(((n+1)*KW:Nat):Int):=⟨_,rfl⟩
  have eK:(((n+1)*KW:Nat):Int)=V*4294967296:=by rw [hV];unfold KW;omega
  have a1:S/4294967296=V:=by rw [hS,eK];omega
  have a2:IntKind.u64.wrap S=S:=by rw [IntKind.wrap_u64,hS,eK];omega
  have b1:bits .and .u64 S 2147483648=0:=by rw [hS,eK,hV];have:=Go.ConcN.st_flag (n+1) 0 (by omega) (by omega);simpa using this
  have b2:bits .and .u64 S 2147483647=0:=by rw [hS,eK,hV];have:=Go.ConcN.st_waiters (n+1) 0 (by omega) (by omega);simpa using this
  have c1:IntKind.i32.wrap V=V:=by rw [IntKind.wrap_i32];omega
  have q1:(V==1)=false:=by simp;omega
  have q2:decide (V=1)=false:=decide_eq_false (by omega)
  have q3:decide (V<0)=false:=decide_eq_false (by omega)
  have q4:decide (0<V)=true:=decide_eq_true (by omega)
  have q5:(V==0)=false:=by simp;omega
  have q6:decide (V=0)=false:=decide_eq_false (by omega)
  rw [<-hS]
  clear hS eK hV
  walk_nrm
  (obtain ⟨J,hJe⟩:∃J:Goroutine->Prop,J=(fun g=>FanW P T (.busy c Wg L.tWg (n+1) 1 Lv false D) g Hh):=⟨_,rfl⟩;have hJ:Quiet P true (WgA Wg L.tWg) J:=(by rw [hJe];exact Quiet.fan (d:=1));refine (congrFun hJe _).mp ?_)
  (refine @Hq.un _ ?_;refine qR ?_)
  (first | (refine hJ.leave1 rfl rfl H.f_uAdd rfl ?_;walk_nrm) | (refine hJ.leave0 rfl rfl H.f_uAdd rfl ?_;walk_nrm))
  (refine @Hq.un _ ?_;refine qR ?_)
  (refine (congrFun hJe _).mpr ?_;clear hJe hJ J)
  refine .mark rfl (.inr (.inr (.inl rfl))) (fun w st sm _ _=>stepG_unwind_entry (v:=.tuple #[]) (evs:=#[mkE .enable]) rfl H.f_enable (x_enable_n L) (x_enable_b L) (x_enable_x L) (x_enable_f L) (by simp [Extern.Race.none_]) (by simp [mkE]) (by simp [mkE])) ?_
  refine (show FanW P T (.busy c Wg L.tWg (n+1) 0 Lv false D) _ Hh from ?_)
  (obtain ⟨J,hJe⟩:∃J:Goroutine->Prop,J=(fun g=>FanW P T (.busy c Wg L.tWg (n+1) 0 Lv false D) g Hh):=⟨_,rfl⟩;have hJ:Quiet P true (WgA Wg L.tWg) J:=(by rw [hJe];exact Quiet.fan (d:=0));refine (congrFun hJe _).mp ?_)
  refine hJ.leave0 rfl rfl H.f_add rfl ?_
  (refine (congrFun hJe _).mpr ?_;clear hJe hJ J)
  exact hT
end
end Go.X
end
