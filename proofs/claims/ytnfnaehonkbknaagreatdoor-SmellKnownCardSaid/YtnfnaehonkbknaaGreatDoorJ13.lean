/- Texts WWork WLaw WLink Ext SmF SmG SmB SmA SmM. -/
import Derived.Test.YtnfnaehonkbknaaGreatDoorJ12
import Derived.Test.YtnfnaehonkbknaaGreatDoorChecked
import Derived.Conc.WgLib
set_option linter.defProp false
set_option linter.unusedSimpArgs false
set_option linter.unusedVariables false
set_option maxRecDepth 100000
set_option maxHeartbeats 2000000
section
namespace Go.X
open Go
open Go.Conc Go.RowKit Go.Conc.Lib Go.ConcR.Gen Go.ConcN.Gen
open Go.ConcR (KK)
section
variable {P : Program} {md : Md} {Stop : Goroutine -> Hp -> Prop} {a : Act} {H : Hp} {b : Frame} {k : List Item} {cs : List Frame}
theorem WPG.code {x : Code} (hk : b.kind ≠ .early) (hl : b.roundOf = none) (h : wpX P md none x (only fun a' H' => WPG P md Stop (G (fat b a' k) cs) H') a H) : WPG P md Stop (G (fat b a (.code x :: k)) cs) H :=
 h b k cs Stop hk hl fun e a' H' q => by cases e <;> first | exact q | exact q.elim
theorem WPG.seqX {x y : Code} (hk : b.kind ≠ .early) (hl : b.roundOf = none) (h : wpX P md none x (only fun a' H' => WPG P md Stop (G (fat b a' (.code y :: k)) cs) H') a H) : WPG P md Stop (G (fat b a (.code (.seq x y) :: k)) cs) H :=
 .ctl (g' := G (fat b a (.code x :: .code y :: k)) cs) rfl (fun w => by simp [G, stepG, stepG.exec, fat]) (WPG.code hk hl h)
theorem WPG.regionX {id : Nat} {ops : Array Oper} (h : WPG P md Stop (G (fat b a (.inRegion ops (List.range ops.size) :: k)) cs) H) : WPG P md Stop (G (fat b a (.code (.region id ops false) :: k)) cs) H :=
 .ctl (g' := G (fat b a (.inRegion ops (List.range ops.size) :: k)) cs) rfl (fun w => by simp [G, stepG, stepG.exec, fat]) h
theorem WPG.endX {ops : Array Oper} (h : WPG P md Stop (G (fat b a k) cs) H) : WPG P md Stop (G (fat b a (.inRegion ops [] :: k)) cs) H :=
 .ctl (g' := G (fat b a k) cs) rfl (fun w => by simp [G, stepG, stepG.exec, fat]) h
theorem Ckm {b : Frame} {a : Act} {todo : List Item} (hl : b.roundOf = none) : fat b a todo = b.at a todo := by
 cases b
 simp only at hl
 subst hl
 rfl
end
theorem Quiet.wpg {P : Program} {Stop : Goroutine -> Hp -> Prop} {H : Hp} : Quiet P false (fun _ => True) fun g => WPG P (.own false) Stop g H :=
 ⟨fun hs h hn => .ctl hs (fun w => h w trivial) hn⟩
variable {L : WgLink}
theorem Dk0 {P : Program} (HL : WgLib P L) {K : Hp} {f : FuncId} {fn : Func} {ops : Array Oper} {i : Nat} {o : Oper} {a : Act} {c Wg : Nat} {v z : Value} (ho : ops[i]? = some o) (hw : Region.wanted o (yielded ops a.tmps) = true)
  (hr : ∀ w, (execOp a.eval o).runT P w #[] = (.ok (.comm #[scase c v z] true .send) w, #[])) (hd : a.defers = [dcall L.done #[.pointer (some ⟨Wg, 0, none⟩)]]) (hf : P.funcs[f]? = some fn) (hres : fn.results = #[]) :
  Bxc P c Wg L.tWg v (G (fat (baseD f) a [.inRegion ops [i]]) [Akp P]) K := by
 refine ⟨rfl, _, z, fun w _ => Awe (main := .own false) ho hw (by simp [baseD]) rfl (hr w), ?_⟩
 have hs : Go.Conc.served (G (fat (baseD f) a [.inRegion ops [i]]) [Akp P]) undef = G (fat (baseD f) (a.put o.dst undef) [.inRegion ops []]) [Akp P] := by
  have hfin : (fat (baseD f) a [.inRegion ops [i]]).finish undef = fat (baseD f) (a.put o.dst undef) [.inRegion ops []] := by rw [Axx, ho]; rfl
  simp [Go.Conc.served, G, hfin]
 rw [hs, Ckm rfl]
 have hd' : (a.put o.dst undef).defers = [dcall L.done #[.pointer (some ⟨Wg, 0, none⟩)]] := by rw [<- hd]; cases o.dst <;> rfl
 generalize a.put o.dst undef = a' at *
 have hJ := Quiet.sent (P := P) (c := c) (b := Wg) (ty := L.tWg) K
 refine hJ.region_end (hJ.ends (hJ.unwind_enter hd' HL.f_done (Go.ConcR.Gen.nm_done L) (c := body_done L) rfl ?_))
 obtain ⟨qt, hq⟩ : ∃ n, QuitsD P n 0 (G { (baseD f).at ⟨a'.tmps, []⟩ [] with mode := .returning } [Akp P]) := by
  refine (Quiet.quits 0).ctl (g' := G (Akp P) []) rfl (fun w => ?_) ((Quiet.quits 0).ctl (g' := { G (Akp P) [] with status := .finished }) rfl (fun w => ?_) ⟨0, rfl, rfl⟩)
  ·simp [G, stepG, unwind, doReturn, Frame.at, baseD, hf, results, hres, Akp, goexitEntry, GStep.after, seen_none]
  ·simp [G, stepG, unwind, Akp, goexitEntry, Frame.catches]
   rfl
 exact Dko HL K (qt := qt) rfl hq
theorem Cz3 {P : Program} {f : FuncId} {fn : Func} {a : Act} (hf : P.funcs[f]? = some fn) (hres : fn.results = #[]) (had : a.defers = []) : QuitsIn P 3 (G (fat (baseD f) a []) [Akp P]) := by
 refine .inr ⟨rfl, G { fat (baseD f) a [] with mode := .returning } [Akp P], fun w => by simp [G, stepG, stepG.exec, fat, baseD]; rfl, ?_⟩
 refine .inr ⟨rfl, G (Akp P) [], fun w => ?_, ?_⟩
 ·simp [G, stepG, unwind, doReturn, fat, baseD, had, hf, results, hres, Akp, goexitEntry, GStep.after, seen_none]
 ·refine .inr ⟨rfl, { G (Akp P) [] with status := .finished }, fun w => ?_, rfl⟩
  simp [G, stepG, unwind, Akp, goexitEntry, Frame.catches]
  rfl
theorem Cy9 (P : Program) (fn : FuncId) (c : Nat) : seen P fn (clE c) = clE c := by
 rw [seen_def]
 simp [seenStep, clE]
theorem closeW {P : Program} {K : Hp} {f : FuncId} {fn : Func} {ops : Array Oper} {i : Nat} {o : Oper} {a : Act} {c Wg : Nat} {tWg : TypeId} {x : Operand} {ats : Array TypeId} (ho : ops[i]? = some o) (hw : Region.wanted o (yielded ops a.tmps) = true)
  (hop : o.op = .call { callee := .builtin .close, args := #[x], argTypes := ats }) (hx : a.eval x = .chan (some c)) (hd : a.defers = []) (hf : P.funcs[f]? = some fn) (hres : fn.results = #[]) :
  ∃ ρ, OthW P c Wg tWg ρ (G (fat (baseD f) a [.inRegion ops [i]]) [Akp P]) (.late K) := by
 obtain ⟨d, op, ty, pos, af, g⟩ := o
 simp only at hop
 subst hop
 refine Cw1 (g' := G (fat (baseD f) (a.put d (.tuple #[])) [.inRegion ops []]) [Akp P]) rfl ?_ (fun w r hs hc => ?_) rfl ?_
 ·simp [mayWake, G, fat, ho]
 ·have h1 := run_close_open (P := P) ats ty hc
  have h2 := events_close_open (P := P) (es := #[]) ats ty hc
  have hrun : (execOp a.eval ⟨d, .call { callee := .builtin .close, args := #[x], argTypes := ats }, ty, pos, af, g⟩).runT P w #[] = (.ok (.value (.tuple #[])) (World.lay w c (.chan 0 #[] true r r false)), clE c) := by
   simp [execOp, resolve, invoke, hx, builtin, h1, h2, World.lay, clE]
  have hfin : (fat (baseD f) a [.inRegion ops [i]]).finish (.tuple #[]) = fat (baseD f) (a.put d (.tuple #[])) [.inRegion ops []] := by rw [Axx, ho]; rfl
  have hk' : ((baseD f).kind == CallKind.early) = false := rfl
  refine (stepG_op (main := .own false) (b := baseD f) (k := []) (cs := [Akp P]) (rest := []) ho hw (.inl rfl)).trans ?_
  simp only [stepG.apply, hrun]
  rw [<- hfin]
  simp [G, fat, hk', GStep.after, Cy9]
 ·have hd' : (a.put d (.tuple #[])).defers = [] := by rw [<- hd]; cases d <;> rfl
  exact ⟨_, Cz4 (g' := G (fat (baseD f) (a.put d (.tuple #[])) []) [Akp P]) rfl (fun w => by simp [G, stepG, stepG.exec, fat]) (Cz3 hf hres hd')⟩
end Go.X
end
section
namespace Go.X
open Go
open Go.Conc
theorem FnX.goodW {P : Program} {f : FuncId} {fn : Func} {args : Array Value} {W : World} {v₀ : Value} (h : FnX P (.wg P) f args (Aw3 W) fun e _ => e = .returned v₀) (hf : P.funcs[f]? = some fn)
  (hr : ∀ tmps w v w', (results fn tmps).run P w = .ok v w' -> w' = w) (hi : P.inits.idxOf? f = none) :
  Ends P (fun v w => v = v₀ /\ Base W w) (solo (G (Frame.enter P f args .normal) []) W) #[] := by
 rw [solo_eq_crowd]
 have hW0 := h [] (fun g H => ∃ fr, g = G fr [] /\ fr.fn = f /\ Leaving P fr H fun e _ => e = .returned v₀) fun fr H' hfn hl => .stop ⟨fr, rfl, hfn, hl⟩ (Hp.le_refl _)
 have hI : WI P W .idle (Aw3 W) #[G (Frame.enter P f args .normal) []] W #[] [] 0 (fun _ => .off 0) (fun _ => False) := by
  refine ⟨⟨fun x K hx => ?_, fun x y K K' hxy hx hy => ?_, fun x K hx b p o hb i a ha => (by simp [touchAt, Trace.act?] at ha), past_nil.clean, fun i a b ha => (by simp [touchAt, Trace.act?] at ha)⟩, rfl, fun i x hx => (by simp at hx), fun _ _ => rfl, rfl, fun i a ha => (by simp [touchAt, Trace.act?] at ha), fun i op a h => (by simp at h), fun y hy => hy.elim, ⟨rfl, rfl, Nat.le_refl _, fun _ _ => rfl⟩, fun x K b o hx hb => ?_, fun _ _ => rfl, rfl, fun _ i x K _ hq => (by cases hq), fun i x K st _ hq => (by cases hq), fun i => ⟨0, rfl⟩⟩
  ·by_cases hx0 : x = 0
   ·subst hx0; cases hx
    exact fun b p o hb => (Aw4 hb).2
   ·simp [hpW, hx0, PhW.mem] at hx
  ·by_cases hx0 : x = 0
   ·by_cases hy0 : y = 0
    ·exact absurd (hx0.trans hy0.symm) hxy
    ·simp [hpW, hy0, PhW.mem] at hy
   ·simp [hpW, hx0, PhW.mem] at hx
  ·by_cases hx0 : x = 0
   ·subst hx0; cases hx
    exact absurd (Aw4 hb).1 (by simp)
   ·simp [hpW, hx0, PhW.mem] at hx
 refine FanW.ends (W := W) ?_ hW0.fanW _ _ _ _ _ _ _ _ hI rfl
 rintro g H ⟨fr, rfl, hfn, hl⟩
 refine ⟨rfl, fun w hsat hB => ?_⟩
 rcases hl with ⟨hm, hd, hk, fn', hf', hres⟩ | ⟨ch, _, _, _, _, hres⟩
 ·obtain rfl : fn' = fn := Option.some.inj (hf'.symm.trans (by rw [hfn]; exact hf))
  obtain ⟨es, w', H', hmv, r, hrun, hd'⟩ := Akh _ w hsat hres
  have hr0 : (results fn' fr.tmps).runT P w #[] = (r, es) := by rw [hrun #[]]; simp
  rcases hd' with ⟨v, rfl, hv⟩ | ⟨v, _, hv⟩
  ·have hrun' : (results fn' fr.tmps).run P w = .ok v w' := by
    have := congrArg Prod.fst hr0
    simpa using this
   have := hr _ _ _ _ hrun'
   subst this
   have hv' : v = v₀ := by injection hv
   subst hv'
   refine ⟨v, seen P fr.fn es, ?_, ?_, rfl, hB⟩
   ·have hi' : P.inits.idxOf? fr.fn = none := by rw [hfn]; exact hi
    simp [G, stepG, unwind, doReturn, hm, hd, hk, hf', hr0, hi', GStep.after, -Sem.runT_eq]
   ·have hq := hmv.seen (P := P) fr.fn
    exact ⟨hsat, hq.size, fun _ _ _ => rfl, fun b p o' hb => .inl ⟨o', hb, fun _ => rfl⟩, rfl, rfl, rfl, hq.evs, hq.low⟩
  ·exact hv.elim
 ·cases hres
end Go.X
end
section
namespace Go.Proofs.YtnfnaehonkbknaaGreatDoor
open Go Go.Proofs.Tryz
def lk : Go.Conc.Lib.WgLink := { add := 75, done := 77, wait := 80, relMerge := 85, disable := 86, enable := 87, inBubble := 88, associate := 89, fatal := 90, uOr := 91, uAdd := 92, raceRead := 93, uLoad := 94, uStore := 95, disassociate := 96, semrelease := 97, acquire := 100, isAssociated := 101, uCas := 102, raceWrite := 103, semacquire := 104, orU64 := 108, addU64 := 109, loadU64 := 110, storeU64 := 111, casU64 := 116, tWgP := 161, tUP := 149, tAssoc := 163, tWg := 143, tAU := 140, tU64 := 78, tUint := 129, tU32 := 141, tPU32 := 167, tPAU := 194, tPU64 := 196, tNoCopy := 136, tANoCopy := 137, tAlign64 := 138 }
theorem wgLib : Go.Conc.Lib.WgLib Tryz.prog lk :=
 ⟨func75, func77, func80, func85, func86, func87, func88, func89, func90, func91, func92, func93, func94, func95, func96, func97, func100, func101, func102, func103, func104, func108, func109, func110, func111, func116, underlying161, Tryz.runUnderlying161, sizeOf161, Tryz.isAgg161, zeroValue161, underlying149, Tryz.runUnderlying149, sizeOf149, Tryz.isAgg149, zeroValue149, underlying163, Tryz.runUnderlying163, sizeOf163, Tryz.isAgg163, zeroValue163, underlying143, Tryz.runUnderlying143, sizeOf143, Tryz.isAgg143, zeroValue143, underlying140, Tryz.runUnderlying140, sizeOf140, Tryz.isAgg140, zeroValue140, underlying78, Tryz.runUnderlying78, sizeOf78, Tryz.isAgg78, zeroValue78, underlying129, Tryz.runUnderlying129, sizeOf129, Tryz.isAgg129, zeroValue129, underlying141, Tryz.runUnderlying141, sizeOf141, Tryz.isAgg141, zeroValue141, underlying167, Tryz.runUnderlying167, sizeOf167, Tryz.isAgg167, zeroValue167, underlying194, Tryz.runUnderlying194, sizeOf194, Tryz.isAgg194, zeroValue194, underlying196, Tryz.runUnderlying196, sizeOf196, Tryz.isAgg196, zeroValue196, underlying0, Tryz.runUnderlying0, sizeOf0, Tryz.isAgg0, zeroValue0, underlying3, Tryz.runUnderlying3, sizeOf3, Tryz.isAgg3, zeroValue3, underlying4, Tryz.runUnderlying4, sizeOf4, Tryz.isAgg4, zeroValue4, underlying9, Tryz.runUnderlying9, sizeOf9, Tryz.isAgg9, zeroValue9, underlying20, Tryz.runUnderlying20, sizeOf20, Tryz.isAgg20, zeroValue20, underlying21, Tryz.runUnderlying21, sizeOf21, Tryz.isAgg21, zeroValue21, by kernel_rfl, by kernel_rfl⟩
end Go.Proofs.YtnfnaehonkbknaaGreatDoor
end
section
namespace Go.X
open Go
section
variable {P : Program} {H : Hp}
theorem Dkr {f : FuncId} : (Mark.extern f = .noRoom ∨ ∃ g, Mark.extern f = .extern g) = True := eq_true (.inr ⟨f, rfl⟩)
theorem Dqf {m : Mark} (K : Unit -> Hp -> Prop) (E : Value -> Hp -> Prop) : wpS P (mark m) H K E = ((m = .noRoom ∨ ∃ g, m = .extern g) /\ K () H) := rfl
theorem Azm {f : FuncId} {fn : Func} {e : Array Value -> Sem Value} (hf : P.funcs[f]? = some fn) (hn : (fn.name == "runtime.NumGoroutine") = false) (hb : fn.body.isNone = true) (hx : Extern.findNext fn = none) (he : Extern.find fn = some e) (args : Array Value) (K : Next -> Hp -> Prop) (E : Value -> Hp -> Prop) :
  wpS P (callFunc f args) H K E = wpS P (e args) H (fun v H' => K (.value v) H') E := by
 unfold callFunc
 rw [Aqa]
 change wpS P (match P.funcs[f]? with | none => _ | some fn => _) H K E = _
 rw [hf]
 simp only [hn, hb, Bool.false_eq_true, if_false, if_true, hx, he]
 rw [Aqa, Dqf, Dkr]
 simp only [true_and]
 rw [Aqa]
 rfl
end
end Go.X
namespace Go.Proofs.YtnfnaehonkbknaaGreatDoor
open Go Go.X Go.Extern Go.Proofs.Tryz
theorem x_method (z : Sem Value) (f : TypeId -> Addr -> Nat -> Nat -> Sem Value) (v : Value) : ReflectliteValue.method z f #[v] = (do match <- ReflectliteValue.parts v with | none => z | some (t, a, fl) => f t a fl (fl % 32)) := rfl
theorem meth_Kind (h : Value) (H : Hp) (K : Next -> Hp -> Prop) (E : Value -> Hp -> Prop) : Bzq Tryz.prog (.iface 181 (.agg #[h])) "Kind" #[] H K E = wpS Tryz.prog (callFunc 131 #[h]) H K E := by kernel_rfl
theorem meth_Elem (h : Value) (H : Hp) (K : Next -> Hp -> Prop) (E : Value -> Hp -> Prop) : Bzq Tryz.prog (.iface 181 (.agg #[h])) "Elem" #[] H K E = wpS Tryz.prog (callFunc 142 #[.agg #[h]]) H K E := by kernel_rfl
theorem meth_Implements (h x : Value) (H : Hp) (K : Next -> Hp -> Prop) (E : Value -> Hp -> Prop) : Bzq Tryz.prog (.iface 181 (.agg #[h])) "Implements" #[x] H K E = wpS Tryz.prog (callFunc 143 #[.agg #[h], x]) H K E := by kernel_rfl
theorem meth_AssignableTo (h x : Value) (H : Hp) (K : Next -> Hp -> Prop) (E : Value -> Hp -> Prop) : Bzq Tryz.prog (.iface 181 (.agg #[h])) "AssignableTo" #[x] H K E = wpS Tryz.prog (callFunc 140 #[.agg #[h], x]) H K E := by kernel_rfl
theorem cf_ValueOf (args : Array Value) (H : Hp) (K : Next -> Hp -> Prop) (E : Value -> Hp -> Prop) : wpS Tryz.prog (callFunc 81 args) H K E = wpS Tryz.prog ((fun args : Array Value => ReflectliteValue.unpack (args.getD 0 (.tuple #[]))) args) H (fun v H' => K (.value v) H') E := Azm (e := fun args : Array Value => ReflectliteValue.unpack (args.getD 0 (.tuple #[]))) func81 (by kernel_rfl) (by kernel_rfl) (by kernel_rfl) (by kernel_rfl) args K E
theorem cf_Type (args : Array Value) (H : Hp) (K : Next -> Hp -> Prop) (E : Value -> Hp -> Prop) : wpS Tryz.prog (callFunc 82 args) H K E = wpS Tryz.prog ((ReflectliteValue.methodAny (ReflectliteValue.valueError "reflectlite.Value.Type" 0) (fun t _ _ _ => ReflectliteType.toType t)) args) H (fun v H' => K (.value v) H') E := Azm (e := ReflectliteValue.methodAny (ReflectliteValue.valueError "reflectlite.Value.Type" 0) (fun t _ _ _ => ReflectliteType.toType t)) func82 (by kernel_rfl) (by kernel_rfl) (by kernel_rfl) (by kernel_rfl) args K E
theorem cf_IsNil (args : Array Value) (H : Hp) (K : Next -> Hp -> Prop) (E : Value -> Hp -> Prop) : wpS Tryz.prog (callFunc 83 args) H K E = wpS Tryz.prog ((ReflectliteValue.method (ReflectliteValue.valueError "reflectlite.Value.IsNil" 0) ReflectliteValue.isNil) args) H (fun v H' => K (.value v) H') E := Azm (e := ReflectliteValue.method (ReflectliteValue.valueError "reflectlite.Value.IsNil" 0) ReflectliteValue.isNil) func83 (by kernel_rfl) (by kernel_rfl) (by kernel_rfl) (by kernel_rfl) args K E
theorem cf_Kind (args : Array Value) (H : Hp) (K : Next -> Hp -> Prop) (E : Value -> Hp -> Prop) : wpS Tryz.prog (callFunc 131 args) H K E = wpS Tryz.prog ((ReflectliteType.abiMethod fun t => do pure (.int .u8 (<- Rtype.kind t))) args) H (fun v H' => K (.value v) H') E := Azm (e := ReflectliteType.abiMethod fun t => do pure (.int .u8 (<- Rtype.kind t))) func131 (by kernel_rfl) (by kernel_rfl) (by kernel_rfl) (by kernel_rfl) args K E
theorem cf_TElem (args : Array Value) (H : Hp) (K : Next -> Hp -> Prop) (E : Value -> Hp -> Prop) : wpS Tryz.prog (callFunc 142 args) H K E = wpS Tryz.prog ((ReflectliteType.method ReflectliteType.elem) args) H (fun v H' => K (.value v) H') E := Azm (e := ReflectliteType.method ReflectliteType.elem) func142 (by kernel_rfl) (by kernel_rfl) (by kernel_rfl) (by kernel_rfl) args K E
theorem cf_Implements (args : Array Value) (H : Hp) (K : Next -> Hp -> Prop) (E : Value -> Hp -> Prop) : wpS Tryz.prog (callFunc 143 args) H K E = wpS Tryz.prog ((ReflectliteType.relation "Implements" ReflectliteType.implements_) args) H (fun v H' => K (.value v) H') E := Azm (e := ReflectliteType.relation "Implements" ReflectliteType.implements_) func143 (by kernel_rfl) (by kernel_rfl) (by kernel_rfl) (by kernel_rfl) args K E
theorem cf_TypeOf (args : Array Value) (H : Hp) (K : Next -> Hp -> Prop) (E : Value -> Hp -> Prop) : wpS Tryz.prog (callFunc 105 args) H K E = wpS Tryz.prog ((ReflectliteType.typeOf) args) H (fun v H' => K (.value v) H') E := Azm (e := ReflectliteType.typeOf) func105 (by kernel_rfl) (by kernel_rfl) (by kernel_rfl) (by kernel_rfl) args K E
theorem cf_AssignableTo (args : Array Value) (H : Hp) (K : Next -> Hp -> Prop) (E : Value -> Hp -> Prop) : wpS Tryz.prog (callFunc 140 args) H K E = wpS Tryz.prog ((ReflectliteType.relation "AssignableTo" ReflectliteType.assignableTo) args) H (fun v H' => K (.value v) H') E := Azm (e := ReflectliteType.relation "AssignableTo" ReflectliteType.assignableTo) func140 (by kernel_rfl) (by kernel_rfl) (by kernel_rfl) (by kernel_rfl) args K E
theorem cf_VElem (args : Array Value) (H : Hp) (K : Next -> Hp -> Prop) (E : Value -> Hp -> Prop) : wpS Tryz.prog (callFunc 106 args) H K E = wpS Tryz.prog ((ReflectliteValue.method (ReflectliteValue.valueError "reflectlite.Value.Elem" 0) ReflectliteValue.elem) args) H (fun v H' => K (.value v) H') E := Azm (e := ReflectliteValue.method (ReflectliteValue.valueError "reflectlite.Value.Elem" 0) ReflectliteValue.elem) func106 (by kernel_rfl) (by kernel_rfl) (by kernel_rfl) (by kernel_rfl) args K E
theorem cf_Set (args : Array Value) (H : Hp) (K : Next -> Hp -> Prop) (E : Value -> Hp -> Prop) : wpS Tryz.prog (callFunc 107 args) H K E = wpS Tryz.prog ((ReflectliteValue.set) args) H (fun v H' => K (.value v) H') E := Azm (e := ReflectliteValue.set) func107 (by kernel_rfl) (by kernel_rfl) (by kernel_rfl) (by kernel_rfl) args K E
theorem Ck6 {P : Program} {t : TypeId} {d : TypeDesc} (hu : P.underlying t = some d) (hd : aggB d = false) (a : Addr) (H : Hp) (K : Value -> Hp -> Prop) (E : Value -> Hp -> Prop) : wpS P (loadVar t a) H K E = ∃ v, H.cell a = some v /\ K v H := by
 unfold loadVar
 rw [Aqa, Akf hu, hd]
 simp only [Bool.false_eq_true, if_false]
 show (Mode.plain = .plain /\ ∃ v, H.cell a = some v /\ K v H) = _
 simp
theorem x_setE (v x : Value) : ReflectliteValue.set #[v, x] = (do
 let (some (dst, a, fl), some (src, b, _)) := (<- ReflectliteValue.parts v, <- ReflectliteValue.parts x)
  | unsupported (.noEntry "extern/(internal/reflectlite.Value).Set.zeroValue")
 if fl / ReflectliteValue.flagAddr % 2 == 0 then unsupported (.noEntry "extern/(internal/reflectlite.Value).Set.unaddressable")
 let val <- loadVar src b
 if <- Rtype.directlyAssignable dst src then storeVar dst a val
 else if <- Rtype.implements dst src then
  if (<- Rtype.kind src) == 20 then
   match val with
   | .nilIface => unsupported (.noEntry "extern/reflectlite: a nil value of one interface type handed on as a value of another")
   | _ => storeVar dst a val
  else storeVar dst a (.iface src val)
 else panicString ("reflectlite.Set: value of type " ++ (<- Rtype.spelt src) ++ " is not assignable to type " ++ (<- Rtype.spelt dst))
 pure (.tuple #[])) := rfl
end Go.Proofs.YtnfnaehonkbknaaGreatDoor
end
section
namespace Go.Proofs.YtnfnaehonkbknaaGreatDoor
open Go Go.X
structure Bd where
 lo : Int
 hi : Int
 some : Bool
def bd0 : Bd := ⟨0, 0, false⟩
def Ax0 (b : Bd) (x : Int) : Bd := if b.some then ⟨min b.lo x, max b.hi x, true⟩ else ⟨x, x, true⟩
structure Dr where
 a : Int
 b : Int
 mn : Int
 mx : Int
structure Ns where
 pl : Int
 hr : Int
 sm : Bool
structure Sm where
 places : Int
 doors : List Dr
 hampers : List Int
 noses : List Ns
structure DrOk (places : Int) (d : Dr) : Prop where
 a0 : 0 <= d.a
 a1 : d.a < places
 b0 : 0 <= d.b
 b1 : d.b < places
 ne : d.a ≠ d.b
 m0 : 1 <= d.mn
 m1 : d.mn <= d.mx
 m2 : d.mx <= 4
structure NsOk (places : Int) (n : Ns) : Prop where
 p0 : 0 <= n.pl
 p1 : n.pl < places
 h0 : 0 <= n.hr
 h1 : n.hr <= 12
structure SmOk (s : Sm) : Prop where
 p0 : 1 <= s.places
 p1 : s.places <= 6
 dl : s.doors.length <= 6
 dk : ∀ d ∈ s.doors, DrOk s.places d
 h0 : 1 <= s.hampers.length
 h1 : s.hampers.length <= 3
 hk : ∀ h ∈ s.hampers, 0 <= h /\ h < s.places
 hd : s.hampers.Nodup
 nl : s.noses.length <= 4
 nk : ∀ n ∈ s.noses, NsOk s.places n
def gI (c : List Int) (p : Int) : Int := c.getD p.toNat 0
def Akc (c : List Int) (d : Dr) (t : Int) : List Int :=
 (c.set d.a.toNat (min (gI c d.a) (gI c d.b + t))).set d.b.toNat
  (min (gI (c.set d.a.toNat (min (gI c d.a) (gI c d.b + t))) d.b) (gI (c.set d.a.toNat (min (gI c d.a) (gI c d.b + t))) d.a + t))
def Az6 : List Dr -> List Int -> List Int -> List Int
 | d :: ds, t :: ts, c => Az6 ds ts (Akc c d t)
 | _, _, c => c
def Ave (ds : List Dr) (ts : List Int) : Nat -> List Int -> List Int
 | 0, c => c
 | n + 1, c => if Az6 ds ts c = c then c else Ave ds ts n (Az6 ds ts c)
def Byk (p : Int) : List Int := (List.replicate 6 (99 : Int)).set p.toNat 0
def Axf (ds : List Dr) (p : Int) (ts : List Int) : List Int := Ave ds ts 600 (Byk p)
def hrsF (d : Dr) : List Int := ((List.range 5).map fun (n : Nat) => (n : Int)).filter fun n => decide (d.mn <= n /\ n <= d.mx)
def Ax9 : List Dr -> List (List Int)
 | [] => [[]]
 | d :: ds => (hrsF d).flatMap fun n => (Ax9 ds).map (n :: ·)
def pad6 (l : List Int) : List Int := l ++ List.replicate (6 - l.length) 0
def begN : List Ns -> List Int -> Int -> Int -> Option (Int × Int)
 | [], _, lo, hi => some (lo, hi)
 | n :: ns, c, lo, hi =>
  if (n.sm = true /\ gI c n.pl = 99) ∨ (if n.sm then min hi (n.hr - gI c n.pl) else hi) < (if n.sm then lo else max lo (n.hr - gI c n.pl + 1)) then none
  else begN ns c (if n.sm then lo else max lo (n.hr - gI c n.pl + 1)) (if n.sm then min hi (n.hr - gI c n.pl) else hi)
def fitB (ns : List Ns) (c : List Int) (b : Int) : Bool :=
 match begN ns c 0 12 with
 | none => false
 | some (lo, hi) => decide (lo <= b /\ b <= hi)
structure Hint where
 bs : List Bd
 first : List Int
 some : Bool
def Bvp : Hint := ⟨List.replicate 6 bd0, List.replicate 6 0, false⟩
def Ax5 (places b : Int) (x : Hint) (tc : List Int × List Int) : Hint :=
 ⟨x.bs.mapIdx fun p w => if (p : Int) < places then Ax0 w (min 99 (b + gI tc.2 p)) else w, if x.some then x.first else tc.1, true⟩
def trL (s : Sm) (p : Int) : List (List Int × List Int) := (Ax9 s.doors).map fun t => (pad6 t, Axf s.doors p (pad6 t))
def Bqv (s : Sm) (L : List (List Int × List Int)) (b : Int) : Hint := (L.filter fun tc => fitB s.noses tc.2 b).foldl (Ax5 s.places b) Bvp
def byL (s : Sm) (L : List (List Int × List Int)) : List Hint := (List.range 13).map fun (b : Nat) => Bqv s L b
structure Trail where
 ham : Int
 hs : List Hint
def Azk (s : Sm) (i : Nat) : Trail := ⟨i, byL s (trL s (s.hampers.getD i 0))⟩
def Axd (s : Sm) : List Trail := (List.range s.hampers.length).map (Azk s)
def Ayo (t : Trail) : List (Int × Int × Hint) := ((t.hs.zipIdx).filter fun x => x.1.some).map fun x => (t.ham, (x.2 : Int), x.1)
def Azj (l : List Trail) : List (Int × Int × Hint) := l.flatMap Ayo
theorem Dzt (c : List Int) (i : Nat) (v : Int) : (c.set i v).length = c.length := List.length_set
theorem Bje (c : List Int) (d : Dr) (t : Int) : (Akc c d t).length = c.length := by simp [Akc]
theorem Awb : ∀ (ds : List Dr) (ts c : List Int), (Az6 ds ts c).length = c.length
 | [], _, c => by cases ‹List Int› <;> rfl
 | _ :: _, [], c => rfl
 | d :: ds, t :: ts, c => by rw [Az6, Awb ds ts, Bje]
theorem Bx3 (ds : List Dr) (ts : List Int) : ∀ (n : Nat) (c : List Int), (Ave ds ts n c).length = c.length
 | 0, _ => rfl
 | n + 1, c => by
  unfold Ave
  split
  ·rfl
  ·rw [Bx3 ds ts n, Awb]
theorem Avd (ds : List Dr) (p : Int) (ts : List Int) : (Axf ds p ts).length = 6 := by simp [Axf, Bx3, Byk]
theorem Ckq {c : List Int} {p : Int} (h0 : 0 <= p) (h1 : p < c.length) : c[p.toNat]? = some (gI c p) := by
 unfold gI
 rw [List.getD, List.getElem?_eq_getElem (by omega)]
 rfl
theorem Bxn {c : List Int} {p q v : Int} (hp0 : 0 <= p) (hp : p < c.length) (hq : 0 <= q) : gI (c.set p.toNat v) q = if p = q then v else gI c q := by
 unfold gI
 rw [List.getD, List.getElem?_set]
 by_cases h : p = q
 ·subst h
  rw [if_pos rfl, if_pos rfl, if_pos (by omega)]
  rfl
 ·rw [if_neg (by omega), if_neg h]
  rfl
def Edg : List Dr -> List Int -> Int -> Int -> Int -> Prop
 | d :: ds, t :: ts, a, b, n => (n = t /\ ((a = d.a /\ b = d.b) ∨ (a = d.b /\ b = d.a))) ∨ Edg ds ts a b n
 | _, _, _, _, _ => False
inductive Walk (E : Int -> Int -> Int -> Prop) (p : Int) : Int -> Int -> Prop
 | here : Walk E p p 0
 | step {a b n t : Int} : Walk E p a n -> E a b t -> Walk E p b (n + t)
theorem Edg.symm : ∀ {ds : List Dr} {ts : List Int} {a b n : Int}, Edg ds ts a b n -> Edg ds ts b a n
 | d :: ds, t :: ts, a, b, n, h => by
  rcases h with ⟨h, h1 | h1⟩ | h
  ·exact .inl ⟨h, .inr ⟨h1.2, h1.1⟩⟩
  ·exact .inl ⟨h, .inl ⟨h1.2, h1.1⟩⟩
  ·exact .inr h.symm
theorem Edg.ix : ∀ {ds : List Dr} {ts : List Int} {a b n : Int}, Edg ds ts a b n -> ∃ (i : Nat) (d : Dr), ds[i]? = some d /\ ts[i]? = some n /\ ((a = d.a /\ b = d.b) ∨ (a = d.b /\ b = d.a))
 | d :: ds, t :: ts, a, b, n, h => by
  rcases h with ⟨rfl, h⟩ | h
  ·exact ⟨0, d, rfl, rfl, h⟩
  ·obtain ⟨i, d', h1, h2, h3⟩ := h.ix
   exact ⟨i + 1, d', h1, h2, h3⟩
theorem Edg.of : ∀ {ds : List Dr} {ts : List Int} {i : Nat} {d : Dr} {n : Int}, ds[i]? = some d -> ts[i]? = some n -> Edg ds ts d.a d.b n
 | d' :: ds, t :: ts, 0, d, n, h1, h2 => by
  simp at h1 h2
  subst h1 h2
  exact .inl ⟨rfl, .inl ⟨rfl, rfl⟩⟩
 | d' :: ds, t :: ts, i + 1, d, n, h1, h2 => .inr (Edg.of (i := i) h1 h2)
 | [], _, _, _, _, h1, _ => by simp at h1
 | _ :: _, [], _, _, _, _, h2 => by simp at h2
def TsOk (ds : List Dr) (ts : List Int) : Prop := ∀ a b n, Edg ds ts a b n -> 1 <= n /\ n <= 4
def Bxd (pl : Int) (ds : List Dr) : Prop := ∀ d ∈ ds, DrOk pl d
theorem Edg.place {pl : Int} {ds : List Dr} (hd : Bxd pl ds) {ts : List Int} {a b n : Int} (h : Edg ds ts a b n) : (0 <= a /\ a < pl) /\ (0 <= b /\ b < pl) := by
 obtain ⟨i, d, h1, _, h3⟩ := h.ix
 have hk := hd d (List.mem_of_getElem? h1)
 have := hk.a0; have := hk.a1; have := hk.b0; have := hk.b1
 rcases h3 with ⟨rfl, rfl⟩ | ⟨rfl, rfl⟩ <;> omega
structure Ajz (E : Int -> Int -> Int -> Prop) (pl p : Int) (c : List Int) : Prop where
 len : c.length = 6
 at0 : gI c p = 0
 att : ∀ q, 0 <= q -> q < 6 -> gI c q = 99 ∨ (gI c q < 99 /\ Walk E p q (gI c q))
 pos : ∀ q, 0 <= q -> q < 6 -> 0 <= gI c q
theorem Ajz.start (E : Int -> Int -> Int -> Prop) {pl p : Int} (h0 : 0 <= p) (h1 : p < 6) : Ajz E pl p (Byk p) := by
 have hl : ∀ q, 0 <= q -> q < 6 -> gI (List.replicate 6 (99 : Int)) q = 99 := fun q h0 h1 => by
  unfold gI
  rw [List.getD, List.getElem?_replicate, if_pos (by omega)]
  rfl
 have hg : ∀ q, 0 <= q -> q < 6 -> gI (Byk p) q = if p = q then 0 else 99 := fun q hq0 hq1 => by
  unfold Byk
  rw [Bxn h0 (by simp; omega) hq0, hl q hq0 hq1]
 refine ⟨by simp [Byk], by rw [hg p h0 h1, if_pos rfl], fun q hq0 hq1 => ?_, fun q hq0 hq1 => ?_⟩
 ·rw [hg q hq0 hq1]
  split
  ·rename_i h; subst h; exact .inr ⟨by omega, .here⟩
  ·exact .inl rfl
 ·rw [hg q hq0 hq1]; split <;> omega
theorem Bxm {pl : Int} {d : Dr} (hd : DrOk pl d) (hp : pl <= 6) {c : List Int} (hl : c.length = 6) (t : Int) {q : Int} (hq0 : 0 <= q) (hq1 : q < 6) :
  gI (Akc c d t) q = if d.b = q then min (gI c d.b) (min (gI c d.a) (gI c d.b + t) + t) else if d.a = q then min (gI c d.a) (gI c d.b + t) else gI c q := by
 have := hd.a0; have := hd.a1; have := hd.b0; have := hd.b1; have hne := hd.ne
 unfold Akc
 have ga : ∀ x, gI (c.set d.a.toNat x) d.a = x := fun x => by rw [Bxn hd.a0 (by omega) hd.a0, if_pos rfl]
 have gb : ∀ x, gI (c.set d.a.toNat x) d.b = gI c d.b := fun x => by rw [Bxn hd.a0 (by omega) hd.b0, if_neg hne]
 rw [Bxn hd.b0 (by rw [Dzt]; omega) hq0, ga, gb]
 split
 ·rfl
 ·rw [Bxn hd.a0 (by omega) hq0]
theorem Ajz.one {E : Int -> Int -> Int -> Prop} {pl p : Int} {c : List Int} (h : Ajz E pl p c) {d : Dr} {t : Int} (hd : DrOk pl d) (hp : pl <= 6) (hE : E d.a d.b t) (hE' : E d.b d.a t) (ht : 1 <= t) (h0 : 0 <= p) (h1 : p < 6) : Ajz E pl p (Akc c d t) /\ (∀ q, 0 <= q -> q < 6 -> gI (Akc c d t) q <= gI c q) := by
 have := hd.a0; have := hd.a1; have := hd.b0; have := hd.b1; have hne := hd.ne
 have hg := fun q hq0 hq1 => Bxm hd hp h.len t (q := q) hq0 hq1
 have pa := h.pos d.a hd.a0 (by omega)
 have pb := h.pos d.b hd.b0 (by omega)
 have p0 := h.at0
 have ha : gI c d.a <= 99 := by rcases h.att d.a hd.a0 (by omega) with h | h <;> omega
 have hb : gI c d.b <= 99 := by rcases h.att d.b hd.b0 (by omega) with h | h <;> omega
 have na : min (gI c d.a) (gI c d.b + t) = 99 ∨ (min (gI c d.a) (gI c d.b + t) < 99 /\ Walk E p d.a (min (gI c d.a) (gI c d.b + t))) := by
  by_cases hlt : gI c d.b + t < gI c d.a
  ·rw [show min (gI c d.a) (gI c d.b + t) = gI c d.b + t by omega]
   rcases h.att d.b hd.b0 (by omega) with h | ⟨h, hw⟩
   ·omega
   ·exact .inr ⟨by omega, hw.step hE'⟩
  ·rw [show min (gI c d.a) (gI c d.b + t) = gI c d.a by omega]
   exact h.att d.a hd.a0 (by omega)
 have nb : min (gI c d.b) (min (gI c d.a) (gI c d.b + t) + t) = 99 ∨ (min (gI c d.b) (min (gI c d.a) (gI c d.b + t) + t) < 99 /\ Walk E p d.b (min (gI c d.b) (min (gI c d.a) (gI c d.b + t) + t))) := by
  generalize min (gI c d.a) (gI c d.b + t) = x at *
  by_cases hlt : x + t < gI c d.b
  ·rw [show min (gI c d.b) (x + t) = x + t by omega]
   rcases na with h | ⟨h, hw⟩
   ·omega
   ·exact .inr ⟨by omega, hw.step hE⟩
  ·rw [show min (gI c d.b) (x + t) = gI c d.b by omega]
   exact h.att d.b hd.b0 (by omega)
 refine ⟨⟨by rw [Bje]; exact h.len, ?_, fun q hq0 hq1 => ?_, fun q hq0 hq1 => ?_⟩, fun q hq0 hq1 => ?_⟩
 ·rw [hg p h0 h1]
  split
  ·rename_i e; subst e; omega
  ·split
   ·rename_i e; subst e; omega
   ·exact p0
 ·rw [hg q hq0 hq1]
  split
  ·rename_i e; subst e; exact nb
  ·split
   ·rename_i e; subst e; exact na
   ·exact h.att q hq0 hq1
 ·rw [hg q hq0 hq1]
  split
  ·omega
  ·split
   ·omega
   ·exact h.pos q hq0 hq1
 ·rw [hg q hq0 hq1]
  split
  ·rename_i e; subst e; omega
  ·split
   ·rename_i e; subst e; omega
   ·omega
theorem Ajz.all {E : Int -> Int -> Int -> Prop} {pl p : Int} (hp : pl <= 6) (h0 : 0 <= p) (h1 : p < 6) (hs : ∀ a b t, E a b t -> E b a t) (ht : ∀ a b t, E a b t -> 1 <= t) : ∀ (ds : List Dr) (ts : List Int), Bxd pl ds -> (∀ a b n, Edg ds ts a b n -> E a b n) -> ∀ {c : List Int}, Ajz E pl p c ->
  Ajz E pl p (Az6 ds ts c) /\ (∀ q, 0 <= q -> q < 6 -> gI (Az6 ds ts c) q <= gI c q)
 | [], _, _, _, c, h => ⟨by unfold Az6; exact h, fun q _ _ => by unfold Az6; exact Int.le_refl _⟩
 | _ :: _, [], _, _, c, h => ⟨h, fun q _ _ => Int.le_refl _⟩
 | d :: ds, t :: ts, hd, hE, c, h => by
  have he : E d.a d.b t := hE _ _ _ (.inl ⟨rfl, .inl ⟨rfl, rfl⟩⟩)
  obtain ⟨g1, g2⟩ := h.one (hd d List.mem_cons_self) hp he (hs _ _ _ he) (ht _ _ _ he) h0 h1
  obtain ⟨g3, g4⟩ := Ajz.all hp h0 h1 hs ht ds ts (fun x hx => hd x (List.mem_cons_of_mem _ hx)) (fun a b n hn => hE a b n (.inr hn)) g1
  exact ⟨g3, fun q a b => Int.le_trans (g4 q a b) (g2 q a b)⟩
theorem Bjf {pl p : Int} {E : Int -> Int -> Int -> Prop} (hp : pl <= 6) (h0 : 0 <= p) (h1 : p < 6) (hs : ∀ a b t, E a b t -> E b a t) (ht : ∀ a b t, E a b t -> 1 <= t) : ∀ (ds : List Dr) (ts : List Int), Bxd pl ds -> (∀ a b n, Edg ds ts a b n -> E a b n) -> ∀ {c : List Int}, Ajz E pl p c ->
  (∀ q, 0 <= q -> q < 6 -> gI (Az6 ds ts c) q = gI c q) -> ∀ a b n, Edg ds ts a b n -> gI c b <= gI c a + n
 | [], _, _, _, c, _, _, a, b, n, hh => by simp [Edg] at hh
 | _ :: _, [], _, _, c, _, _, a, b, n, hh => by simp [Edg] at hh
 | d :: ds, t :: ts, hd, hE, c, h, hf, a, b, n, hn => by
  have hdk := hd d List.mem_cons_self
  have := hdk.a0; have := hdk.a1; have := hdk.b0; have := hdk.b1; have hne := hdk.ne
  have he : E d.a d.b t := hE _ _ _ (.inl ⟨rfl, .inl ⟨rfl, rfl⟩⟩)
  obtain ⟨g1, g2⟩ := h.one hdk hp he (hs _ _ _ he) (ht _ _ _ he) h0 h1
  obtain ⟨g3, g4⟩ := Ajz.all hp h0 h1 hs ht ds ts (fun x hx => hd x (List.mem_cons_of_mem _ hx)) (fun a b n hn => hE a b n (.inr hn)) g1
  have heq : ∀ q, 0 <= q -> q < 6 -> gI (Akc c d t) q = gI c q := fun q hq0 hq1 => by
   have e1 : gI (Az6 ds ts (Akc c d t)) q = gI c q := hf q hq0 hq1
   have e2 := g4 q hq0 hq1
   have e3 := g2 q hq0 hq1
   omega
  have ea := heq d.a hdk.a0 (by omega)
  have eb := heq d.b hdk.b0 (by omega)
  rw [Bxm hdk hp h.len t hdk.a0 (by omega), if_neg (fun e => hne e.symm), if_pos rfl] at ea
  rw [Bxm hdk hp h.len t hdk.b0 (by omega), if_pos rfl] at eb
  rcases hn with ⟨rfl, ⟨rfl, rfl⟩ | ⟨rfl, rfl⟩⟩ | hn
  ·omega
  ·omega
  ·have := Bjf hp h0 h1 hs ht ds ts (fun x hx => hd x (List.mem_cons_of_mem _ hx)) (fun a b n hn => hE a b n (.inr hn)) g1 (fun q hq0 hq1 => by
    have e1 : gI (Az6 ds ts (Akc c d t)) q = gI c q := hf q hq0 hq1
    rw [e1, heq q hq0 hq1]) a b n hn
   obtain ⟨ha, hb⟩ := hn.place (fun x hx => hd x (List.mem_cons_of_mem _ hx))
   rw [heq a ha.1 (by omega), heq b hb.1 (by omega)] at this
   exact this
def sum6 (c : List Int) : Int := gI c 0 + gI c 1 + gI c 2 + gI c 3 + gI c 4 + gI c 5
theorem Dzu {c c' : List Int} (h : c.length = 6) (h' : c'.length = 6) (he : ∀ q, 0 <= q -> q < 6 -> gI c q = gI c' q) : c = c' := by
 apply List.ext_getElem?
 intro i
 by_cases hi : i < 6
 ·have := he i (by omega) (by omega)
  have g1 := Ckq (c := c) (p := (i : Int)) (by omega) (by omega)
  have g2 := Ckq (c := c') (p := (i : Int)) (by omega) (by omega)
  simp only [Int.toNat_natCast] at g1 g2
  rw [g1, g2, this]
 ·rw [List.getElem?_eq_none (by omega), List.getElem?_eq_none (by omega)]
theorem Cvx {c c' : List Int} (h : c.length = 6) (h' : c'.length = 6) (hle : ∀ q, 0 <= q -> q < 6 -> gI c' q <= gI c q) (hne : c' ≠ c) : sum6 c' < sum6 c := by
 by_cases hs : sum6 c' < sum6 c
 ·exact hs
 ·refine absurd (Dzu h' h fun q hq0 hq1 => ?_) hne
  have a0 := hle 0 (by omega) (by omega)
  have a1 := hle 1 (by omega) (by omega)
  have a2 := hle 2 (by omega) (by omega)
  have a3 := hle 3 (by omega) (by omega)
  have a4 := hle 4 (by omega) (by omega)
  have a5 := hle 5 (by omega) (by omega)
  unfold sum6 at hs
  rcases (by omega : q = 0 ∨ q = 1 ∨ q = 2 ∨ q = 3 ∨ q = 4 ∨ q = 5) with rfl | rfl | rfl | rfl | rfl | rfl <;> omega
structure Cjl (E : Int -> Int -> Int -> Prop) (p : Int) (c : List Int) : Prop where
 len : c.length = 6
 at0 : gI c p = 0
 att : ∀ q, 0 <= q -> q < 6 -> gI c q = 99 ∨ (gI c q < 99 /\ Walk E p q (gI c q))
 pos : ∀ q, 0 <= q -> q < 6 -> 0 <= gI c q
 rel : ∀ a b n, E a b n -> gI c b <= gI c a + n
theorem Bjj {pl p : Int} {ds : List Dr} {ts : List Int} (hp : pl <= 6) (h0 : 0 <= p) (h1 : p < 6) (hd : Bxd pl ds) (ht : TsOk ds ts) : ∀ (n : Nat) (c : List Int), Ajz (Edg ds ts) pl p c -> sum6 c < n -> Cjl (Edg ds ts) p (Ave ds ts n c)
 | 0, c, h, hs => by
  have p0 := h.pos 0 (by omega) (by omega)
  have p1 := h.pos 1 (by omega) (by omega)
  have p2 := h.pos 2 (by omega) (by omega)
  have p3 := h.pos 3 (by omega) (by omega)
  have p4 := h.pos 4 (by omega) (by omega)
  have p5 := h.pos 5 (by omega) (by omega)
  unfold sum6 at hs
  omega
 | n + 1, c, h, hs => by
  obtain ⟨g1, g2⟩ := Ajz.all hp h0 h1 (fun _ _ _ h => h.symm) (fun _ _ _ h => (ht _ _ _ h).1) ds ts hd (fun _ _ _ h => h) h
  unfold Ave
  split
  ·rename_i he
   exact ⟨h.len, h.at0, h.att, h.pos, Bjf hp h0 h1 (fun _ _ _ h => h.symm) (fun _ _ _ h => (ht _ _ _ h).1) ds ts hd (fun _ _ _ h => h) h (fun q _ _ => by rw [he])⟩
  ·rename_i hne
   have := Cvx h.len g1.len g2 hne
   exact Bjj hp h0 h1 hd ht n _ g1 (by omega)
theorem Bji {pl p : Int} {ds : List Dr} {ts : List Int} (hp : pl <= 6) (h0 : 0 <= p) (h1 : p < 6) (hd : Bxd pl ds) (ht : TsOk ds ts) : Cjl (Edg ds ts) p (Axf ds p ts) := by
 refine Bjj hp h0 h1 hd ht 600 _ (Ajz.start _ h0 h1) ?_
 have h := Ajz.start (Edg ds ts) (pl := pl) h0 h1
 have hle : ∀ q, 0 <= q -> q < 6 -> gI (Byk p) q <= 99 := fun q a b => by rcases h.att q a b with h | h <;> omega
 have p0 := hle 0 (by omega) (by omega)
 have p1 := hle 1 (by omega) (by omega)
 have p2 := hle 2 (by omega) (by omega)
 have p3 := hle 3 (by omega) (by omega)
 have p4 := hle 4 (by omega) (by omega)
 have p5 := hle 5 (by omega) (by omega)
 unfold sum6
 omega
theorem Cjt {c : List Int} : ∀ (ns : List Ns) {lo hi l h : Int}, begN ns c lo hi = some (l, h) -> lo <= l /\ h <= hi
 | [], lo, hi, l, h, he => by
  simp [begN] at he
  omega
 | n :: ns, lo, hi, l, h, he => by
  unfold begN at he
  by_cases hc : (n.sm = true /\ gI c n.pl = 99) ∨ (if n.sm then min hi (n.hr - gI c n.pl) else hi) < (if n.sm then lo else max lo (n.hr - gI c n.pl + 1))
  ·rw [if_pos hc] at he; cases he
  ·rw [if_neg hc] at he
   have := Cjt ns he
   constructor
   ·refine Int.le_trans ?_ this.1
    split <;> omega
   ·refine Int.le_trans this.2 ?_
    split <;> omega
theorem Av2 (w : Bd) (x : Int) : (Ax0 w x).some = true := by
 unfold Ax0; split <;> rfl
theorem Bxf : ∀ (V : List Int) (w : Bd), w.some = true -> (V.foldl Ax0 w).some = true
 | [], _, h => h
 | x :: V, w, _ => Bxf V _ (Av2 w x)
theorem Bk8 : ∀ (V : List Int) (w : Bd), w.some = true -> (V.foldl Ax0 w).lo <= w.lo /\ w.hi <= (V.foldl Ax0 w).hi /\ (∀ x ∈ V, (V.foldl Ax0 w).lo <= x /\ x <= (V.foldl Ax0 w).hi) /\
  ((V.foldl Ax0 w).lo = w.lo ∨ (V.foldl Ax0 w).lo ∈ V) /\ ((V.foldl Ax0 w).hi = w.hi ∨ (V.foldl Ax0 w).hi ∈ V)
 | [], w, _ => ⟨Int.le_refl _, Int.le_refl _, fun x h => by simp at h, .inl rfl, .inl rfl⟩
 | x :: V, w, h => by
  have hw : Ax0 w x = ⟨min w.lo x, max w.hi x, true⟩ := by unfold Ax0; rw [if_pos h]
  obtain ⟨h1, h2, h3, h4, h5⟩ := Bk8 V (Ax0 w x) (Av2 w x)
  rw [List.foldl_cons]
  generalize V.foldl Ax0 (Ax0 w x) = r at *
  rw [hw] at h1 h2 h4 h5
  simp only at h1 h2 h4 h5
  refine ⟨by omega, by omega, fun y hy => ?_, ?_, ?_⟩
  ·rcases List.mem_cons.1 hy with rfl | hy
   ·exact ⟨by omega, by omega⟩
   ·exact h3 y hy
  ·rcases h4 with h4 | h4
   ·rcases (by omega : r.lo = w.lo ∨ r.lo = x) with h | h
    ·exact .inl h
    ·exact .inr (by rw [h]; exact List.mem_cons_self)
   ·exact .inr (List.mem_cons_of_mem _ h4)
  ·rcases h5 with h5 | h5
   ·rcases (by omega : r.hi = w.hi ∨ r.hi = x) with h | h
    ·exact .inl h
    ·exact .inr (by rw [h]; exact List.mem_cons_self)
   ·exact .inr (List.mem_cons_of_mem _ h5)
structure IsBd (V : List Int) (w : Bd) : Prop where
 some : w.some = true
 all : ∀ x ∈ V, w.lo <= x /\ x <= w.hi
 lo : w.lo ∈ V
 hi : w.hi ∈ V
theorem Bvq {V : List Int} (h : V ≠ []) : IsBd V (V.foldl Ax0 bd0) := by
 cases V with
 | nil => exact absurd rfl h
 | cons x V =>
  rw [List.foldl_cons]
  have hw : Ax0 bd0 x = ⟨x, x, true⟩ := rfl
  obtain ⟨h1, h2, h3, h4, h5⟩ := Bk8 V (Ax0 bd0 x) (Av2 _ x)
  have h6 := Bxf V (Ax0 bd0 x) (Av2 _ x)
  generalize V.foldl Ax0 (Ax0 bd0 x) = r at *
  rw [hw] at h1 h2 h4 h5
  simp only at h1 h2 h4 h5
  refine ⟨h6, fun y hy => ?_, ?_, ?_⟩
  ·rcases List.mem_cons.1 hy with rfl | hy
   ·omega
   ·exact h3 y hy
  ·rcases h4 with h4 | h4
   ·rw [h4]; exact List.mem_cons_self
   ·exact List.mem_cons_of_mem _ h4
  ·rcases h5 with h5 | h5
   ·rw [h5]; exact List.mem_cons_self
   ·exact List.mem_cons_of_mem _ h5
theorem Bxq (pl b : Int) : ∀ (L : List (List Int × List Int)) (x : Hint), (L.foldl (Ax5 pl b) x).some = (x.some || !L.isEmpty) /\
  (L.foldl (Ax5 pl b) x).first = (if x.some then x.first else (L.head?.map (·.1)).getD x.first) /\ (L.foldl (Ax5 pl b) x).bs.length = x.bs.length /\
  ∀ (p : Nat) (w : Bd), x.bs[p]? = some w -> (L.foldl (Ax5 pl b) x).bs[p]? = some (if (p : Int) < pl then (L.map fun tc => min 99 (b + gI tc.2 p)).foldl Ax0 w else w)
 | [], x => ⟨by simp, by simp, rfl, fun p w h => by simp [h]⟩
 | tc :: L, x => by
  obtain ⟨h1, h2, h3, h4⟩ := Bxq pl b L (Ax5 pl b x tc)
  rw [List.foldl_cons]
  refine ⟨?_, ?_, ?_, fun p w hw => ?_⟩
  ·rw [h1]; simp [Ax5]
  ·rw [h2]; simp [Ax5]
  ·rw [h3]; simp [Ax5]
  ·have := h4 p (if (p : Int) < pl then Ax0 w (min 99 (b + gI tc.2 p)) else w) (by simp [Ax5, hw])
   rw [this]
   by_cases hp : (p : Int) < pl
   ·simp [hp]
   ·simp [hp]
def fitL (s : Sm) (L : List (List Int × List Int)) (b : Int) : List (List Int × List Int) := L.filter fun tc => fitB s.noses tc.2 b
theorem Bz2 (s : Sm) (L : List (List Int × List Int)) (b : Int) : (Bqv s L b).some = !(fitL s L b).isEmpty := by
 have h : (Bqv s L b).some = _ := (Bxq s.places b (fitL s L b) Bvp).1
 rw [h]
 rfl
theorem Cym (s : Sm) (L : List (List Int × List Int)) (b : Int) {p : Nat} (h6 : p < 6) (hp : (p : Int) < s.places) : (Bqv s L b).bs[p]? = some (((fitL s L b).map fun tc => min 99 (b + gI tc.2 p)).foldl Ax0 bd0) := by
 have := (Bxq s.places b (fitL s L b) Bvp).2.2.2 p bd0 (by show (List.replicate 6 bd0)[p]? = _; rw [List.getElem?_replicate, if_pos h6])
 rw [if_pos hp] at this
 exact this
theorem Cxh {d : Dr} (h : 0 <= d.mn) (h' : d.mx <= 4) {n : Int} : n ∈ hrsF d ↔ d.mn <= n /\ n <= d.mx := by
 unfold hrsF
 rw [List.mem_filter]
 simp only [List.mem_map, List.mem_range, decide_eq_true_eq]
 constructor
 ·exact fun h => h.2
 ·intro hn
  exact ⟨⟨n.toNat, by omega, by omega⟩, hn⟩
theorem Ay5 : ∀ {ds : List Dr} {t : List Int}, t ∈ Ax9 ds -> t.length = ds.length
 | [], t, h => by
  simp [Ax9] at h
  simp [h]
 | d :: ds, t, h => by
  simp only [Ax9, List.mem_flatMap, List.mem_map] at h
  obtain ⟨n, _, t', h2, rfl⟩ := h
  simp [Ay5 h2]
theorem Awf {pl : Int} : ∀ {ds : List Dr} (hd : Bxd pl ds) {t : List Int}, t ∈ Ax9 ds ↔ t.length = ds.length /\ ∀ (i : Nat) (d : Dr) (n : Int), ds[i]? = some d -> t[i]? = some n -> d.mn <= n /\ n <= d.mx
 | [], _, t => by
  simp [Ax9]
 | d :: ds, hd, t => by
  have hk := hd d List.mem_cons_self
  have := hk.m0
  have := hk.m2
  simp only [Ax9, List.mem_flatMap, List.mem_map]
  cases t with
  | nil => simp
  | cons n t =>
   have ih := Awf (fun x hx => hd x (List.mem_cons_of_mem _ hx)) (t := t)
   constructor
   ·rintro ⟨m, hm, t', ht', he⟩
    obtain ⟨rfl, rfl⟩ := List.cons.inj he
    obtain ⟨h1, h2⟩ := ih.1 ht'
    refine ⟨by simp [h1], fun i d' n' hd' hn' => ?_⟩
    cases i with
    | zero =>
     simp at hd' hn'
     subst hd' hn'
     exact (Cxh (by omega) (by omega)).1 hm
    | succ i => exact h2 i d' n' (by simpa using hd') (by simpa using hn')
   ·rintro ⟨h1, h2⟩
    exact ⟨n, (Cxh (by omega) (by omega)).2 (h2 0 d n rfl rfl), t, ih.2 ⟨by simpa using h1, fun i d' n' hd' hn' => h2 (i + 1) d' n' (by simpa using hd') (by simpa using hn')⟩, rfl⟩
theorem Dqo {ds : List Dr} {t : List Int} (hl : t.length = ds.length) (u : List Int) {a b n : Int} : Edg ds (t ++ u) a b n ↔ Edg ds t a b n := by
 induction ds generalizing t with
 | nil => simp [Edg]
 | cons d ds ih =>
  cases t with
  | nil => simp at hl
  | cons x t => simp only [List.cons_append, Edg, ih (by simpa using hl)]
theorem Ayq {pl : Int} {ds : List Dr} (hd : Bxd pl ds) {t : List Int} (ht : t ∈ Ax9 ds) : TsOk ds (pad6 t) := by
 intro a b n h
 obtain ⟨hl, hk⟩ := (Awf hd).1 ht
 rw [pad6, Dqo hl] at h
 obtain ⟨i, d, h1, h2, _⟩ := h.ix
 have := hk i d n h1 h2
 have hx := hd d (List.mem_of_getElem? h1)
 have := hx.m0
 have := hx.m2
 omega
end Go.Proofs.YtnfnaehonkbknaaGreatDoor
end
section
namespace Go.Proofs.YtnfnaehonkbknaaGreatDoor
open Go Go.X Go.Proofs.Tryz
def Ajg := aN @Dv0 (aN @Dwd (aN @Dvy (aN @Dyi (aN @Dvz (aN @Dvb (aN @Dwc (aN @Bxt @Byq)))))))
def Cv8 := aN @Dyd (aN @Dw8 (aN @Dwc @Bxt))
def Bjm := aN @Bw6 @Ax1
theorem Axc (main : Md) (H : Hp) (n lo hi : Int) :
  FnX Tryz.prog main 59 #[.int .i64 n, .int .i64 lo, .int .i64 hi] H fun e H' => e = .returned (.bool (decide (n < lo) || decide (hi < n))) /\ H' = H := by
 refine Aql func59 rfl ntmps59 (by simp) ?_
 by_cases h : n < lo
 ·(refine @unH _ (zA trivial ?_); (try clear hK K); intro K hK hc)
  (refine @unH _ ?_; refine z9 results59 ?_)
  exact ⟨by simp [h], trivial⟩
 ·(refine @unH _ (zA trivial ?_); (try clear hK K); intro K hK hc)
  (refine @unH _ ?_; refine z9 results59 ?_)
  exact ⟨by simp [h], trivial⟩
theorem Ckv : ∀ m : Fin 64, ∀ n : Fin 8, (bitv (fun x a b => a &&& b) IntKind.u8 ((m.val : Int).fdiv (2 ^ min (n.val : Int).toNat IntKind.u8.bits)) 1 == 1) = m.val.testBit (n.val : Int).toNat := by decide +kernel
theorem Bx1 (main : Md) (H : Hp) (m : Nat) (n : Int) (hm : m < 64) (h0 : 0 <= n) (h1 : n < 8) :
  FnX Tryz.prog main 66 #[.int .u8 m, .int .i64 n] H fun e H' => e = .returned (.bool (m.testBit n.toNat)) /\ H' = H := by
 refine Aql func66 rfl ntmps66 (by simp) ?_
 (refine @unH _ (zA trivial ?_); (try clear hK K); intro K hK hc)
 (refine @unH _ ?_; refine z9 results66 ?_)
 obtain ⟨a, b, rfl, rfl⟩ : ∃ (a : Fin 64) (b : Fin 8), a.val = m /\ (b.val : Int) = n := ⟨⟨m, hm⟩, ⟨n.toNat, by omega⟩, rfl, by simp; omega⟩
 exact ⟨by rw [Ckv a b], trivial⟩
theorem Ay0 (main : Md) (H : Hp) (m : Nat) (n : Int) (hm : m < 64) (h0 : 0 <= n) (h1 : n < 6) :
  FnX Tryz.prog main 63 #[.int .u8 m, .int .i64 n] H fun e H' => e = .returned (.int .u8 (Akq m n.toNat)) /\ H' = H := by
 refine Aql func63 rfl ntmps63 (by simp) ?_
 (refine @unH _ (zA trivial ?_); (try clear hK K); intro K hK hc)
 (refine @unH _ ?_; refine z9 results63 ?_)
 obtain ⟨a, b, rfl, rfl⟩ := Ckw hm h0 h1
 exact ⟨by rw [(Bwh a b).1], trivial⟩
theorem Dql (m : Nat) (hm : m < 64) : Ayi m 8 = Byt m := by
 unfold Byt
 have h : ∀ m : Fin 64, m.val.testBit 6 = false /\ m.val.testBit 7 = false := by decide
 obtain ⟨h1, h2⟩ := h ⟨m, hm⟩
 simp only at h1 h2
 rw [Aji, Aji, h1, h2]
 simp
theorem Cz7 (main : Md) (H : Hp) (m : Nat) (hm : m < 64) :
  FnX Tryz.prog main 64 #[.int .u8 m] H fun e H' => ∃ v, e = .returned v /\ SlI H' v (Byt m) /\ H.le H' := by
 refine Aql func64 rfl ntmps64 (by simp) ?_
 (refine @unH _ (zA Bjm ?_); (try clear hK K); intro K hK hc)
 refine Axh (fun w a' H' => ∃ e j lv, w = 8 - j /\ j <= 8 /\ a' = act 17 e [] /\ e 0 = .int .u8 m /\ e 3 = lv /\ e 5 = .int .i64 (j : Nat) /\ RowX none H H' lv 3 (ints (Ayi m j))) (n := 8) ?_ ?_
 ·exact ⟨_, 0, _, by omega, by omega, rfl, rfl, rfl, rfl, RowX.nil⟩
 ·rintro w a' H' ⟨e, j, lv, rfl, hj, rfl, e0, e3, e5, hrow⟩
  by_cases hlt : j < 8
  ·have hlt' : (j : Int) < 8 := by omega
   (refine @unH _ (zA Bjm ?_); (try clear hK K); intro K hK hc)
   refine (Bx1 main H' m j hm (by omega) (by omega)).runs.mono ?_
   rintro _ _ ⟨rfl, rfl⟩
   by_cases hb : m.testBit j
   ·(refine @unH _ (zU (aN Bjm @Int.toNat_natCast) ?_); (try clear hK K); intro K hK hc)
    intro gb hgb
    refine Bjp hrow hgb (by have := Bz8 m j; omega) _ _ _ _ ?_
    intro v' H5 hr5 ho5
    (refine @unH _ (zU Bjm ?_); (try clear hK K); intro K hK hc)
    exact ⟨_, by omega, _, j + 1, v', rfl, by omega, rfl, e0, rfl, rfl, by rw [Aji, if_pos hb]; exact hr5⟩
   ·(refine @unH _ (zU (aN Bjm @Int.toNat_natCast) ?_); (try clear hK K); intro K hK hc)
    exact ⟨_, by omega, _, j + 1, lv, rfl, by omega, rfl, e0, e3, rfl, by rw [Aji, if_neg hb, List.append_nil]; exact hrow⟩
  ·obtain rfl : j = 8 := by omega
   (refine @unH _ (zA Bjm ?_); (try clear hK K); intro K hK hc)
   (refine @unH _ ?_; refine z9 results64 ?_)
   rw [Dql m hm] at hrow
   exact ⟨_, rfl, hrow.ints, hrow.1.toLe⟩
theorem Awq (main : Md) (H : Hp) (x y : Int) (b : Nat) (p : Bool) (fr : Nat × Nat) (hb : H b = some (p, .cells #[.int .i64 y] 3 fr)) :
  FnX Tryz.prog main 47 #[.int .i64 x, .slice (some ⟨b, 0, none⟩) 1 1] H fun e H' => e = .returned (.int .i64 (min x y)) /\ H' = H := by
 refine Aql func47 rfl ntmps47 (by simp) ?_
 (refine @unH _ (zA Cv8 ?_); (try clear hK K); intro K hK hc)
 refine Axh (fun w a' H' => ∃ e j, w = 1 - j /\ j <= 1 /\ a' = act 18 e [] /\ e 0 = .int .i64 (if j = 0 then x else min x y) /\ e 7 = .slice (some ⟨b, 0, none⟩) 1 1 /\ e 8 = .int .i64 1 /\ e 9 = .int .i64 (j : Nat) /\ H' = H) (n := 1) ?_ ?_
 ·exact ⟨_, 0, by omega, by omega, rfl, rfl, rfl, rfl, rfl, rfl⟩
 ·rintro w a' H' ⟨e, j, rfl, hj, rfl, e0, e7, e8, e9, rfl⟩
  rcases (by omega : j = 0 ∨ j = 1) with rfl | rfl
  ·simp only [if_true] at e0
   (refine @unH _ (zA Cv8 ?_); (try clear hK K); intro K hK hc)
   refine ⟨0, by omega, _, 1, rfl, by omega, rfl, ?_, e7, e8, rfl, trivial⟩
   show Value.int .i64 (if y < x then y else x) = Value.int .i64 (min x y)
   congr 1
   split <;> omega
  ·(refine @unH _ (zA Cv8 ?_); (try clear hK K); intro K hK hc)
   (refine @unH _ ?_; refine z9 results47 ?_)
   exact ⟨trivial, trivial⟩
structure BdC (c : Array Value) (o : Nat) (b : Bd) : Prop where
 lo : c[o]? = some (.int .i64 b.lo)
 hi : c[o + 1]? = some (.int .i64 b.hi)
 sm : c[o + 2]? = some (.bool b.some)
theorem BdC.size {c : Array Value} {o : Nat} {b : Bd} (h : BdC c o b) : o + 2 < c.size := (Array.getElem?_eq_some_iff.1 h.sm).1
def Bzk (c : Array Value) (o : Nat) (b : Bd) : Array Value := ((c.setIfInBounds o (.int .i64 b.lo)).setIfInBounds (o + 1) (.int .i64 b.hi)).setIfInBounds (o + 2) (.bool b.some)
theorem Ayn {c : Array Value} {i : Nat} {v : Value} : (c.setIfInBounds i v).size = c.size := by simp
theorem Aw6 {c : Array Value} {o : Nat} {b : Bd} (h : o + 2 < c.size) (i : Nat) : (Bzk c o b)[i]? = if i = o then some (.int .i64 b.lo) else if i = o + 1 then some (.int .i64 b.hi) else if i = o + 2 then some (.bool b.some) else c[i]? := by
 unfold Bzk
 simp only [Array.getElem?_setIfInBounds, Array.size_setIfInBounds]
 by_cases e0 : i = o
 ·subst e0
  rw [if_pos rfl, if_neg (by omega), if_neg (by omega), if_pos rfl, if_pos (by omega)]
 ·by_cases e1 : i = o + 1
  ·subst e1
   rw [if_neg e0, if_pos rfl, if_neg (by omega), if_pos rfl, if_pos (by omega)]
  ·by_cases e2 : i = o + 2
   ·subst e2
    rw [if_neg e0, if_neg e1, if_pos rfl, if_pos rfl, if_pos (by omega)]
   ·rw [if_neg e0, if_neg e1, if_neg e2, if_neg (by omega), if_neg (by omega), if_neg (by omega)]
theorem Cx4 (c : Array Value) (o : Nat) (b : Bd) : (Bzk c o b).size = c.size := by simp [Bzk]
theorem Bv0 (main : Md) (H : Hp) (bb o : Nat) (b : Bd) (x : Int) (c : Array Value) (e : TypeId) (vb : H bb = some (true, .cells c e (0, 0))) (hb : BdC c o b) :
  FnX Tryz.prog main 46 #[.pointer (some ⟨bb, o, none⟩), .int .i64 x] H fun e' H' => e' = .returned (.tuple #[]) /\ H' bb = some (true, .cells (Bzk c o (Ax0 b x)) e (0, 0)) /\ ∀ y, y ≠ bb -> H' y = H y := by
 have hsz := hb.size
 obtain ⟨b0, b1, b2⟩ := hb
 obtain ⟨lo, hi, sm⟩ := b
 simp only at b0 b1 b2
 cases sm with
 | false =>
  refine Aql func46 rfl ntmps46 (by simp) ?_
  (refine @unH _ (zA (aN Ajg @Ayn) ?_); (try clear hK K); intro K hK hc)
  obtain ⟨c1, hc1⟩ : ∃ c1 : Array Value, c1 = ((c.setIfInBounds o (.int .i64 x)).setIfInBounds (o + 1) (.int .i64 x)).setIfInBounds (o + 2) (.bool true) := ⟨_, rfl⟩
  have hs1 : c1.size = c.size := by rw [hc1]; simp
  have g0 : c1[o]? = some (.int .i64 x) := by rw [hc1]; simp [Array.getElem?_setIfInBounds, show o < c.size by omega]
  have g1 : c1[o + 1]? = some (.int .i64 x) := by rw [hc1]; simp [Array.getElem?_setIfInBounds, show o + 1 < c.size by omega]
  have hz1 : o < c1.size := by omega
  have hz2 : o + 1 < c1.size := by omega
  have hput : (c1.setIfInBounds o (.int .i64 (if x < x then x else x))).setIfInBounds (o + 1) (.int .i64 (if x < x then x else x)) = Bzk c o (Ax0 ⟨lo, hi, false⟩ x) := by
   apply Array.ext_getElem?
   intro i
   rw [Aw6 hsz, hc1]
   simp only [Array.getElem?_setIfInBounds, Array.size_setIfInBounds, Ax0, Bool.false_eq_true, if_false, if_true]
   by_cases e1 : i = o + 1
   ·subst e1
    simp only [show ¬ (o + 1 = o) by omega, show o + 1 < c.size by omega, ↓reduceIte]
    refine congrArg some (congrArg (Value.int .i64) ?_); (try dsimp only); (repeat' split) <;> omega
   ·by_cases e0 : i = o
    ·subst e0
     simp only [show ¬ (i + 1 = i) by omega, show i < c.size by omega, ↓reduceIte]
     refine congrArg some (congrArg (Value.int .i64) ?_); (try dsimp only); (repeat' split) <;> omega
    ·rw [if_neg (Ne.symm e1), if_neg (Ne.symm e0), if_neg e0, if_neg e1]
     by_cases e2 : i = o + 2
     ·subst e2
      rw [if_pos rfl, if_pos rfl, if_pos (by omega)]
     ·rw [if_neg (Ne.symm e2), if_neg (Ne.symm e1), if_neg (Ne.symm e0), if_neg e2]
  rw [<- hc1]
  generalize hG : Hp.set H bb (.cells c1 e (0, 0)) = H1
  have v1 : H1 bb = some (true, .cells c1 e (0, 0)) := by rw [<- hG, Axp]
  have ho : ∀ y, y ≠ bb -> H1 y = H y := fun y hy => by rw [<- hG, Aqv hy]
  clear hc1 vb b0 b1 b2 hG
  refine Azl (fun HX => HX bb = some (true, .cells c1 e (0, 0))) [16, 19] (.free 0 (.free 1 (.free 2 (.free 3 (.free 4 (.take 5 (.free 6 (.free 7 (.free 8 (.free 9 (.free 10 (.take 11 (.free 12 (.free 13 (.free 14 (.free 15 (.one 16 (.free 17 (.free 18 (.one 19 .nil)))))))))))))))))))) (by kernel_rfl) (by kernel_rfl) (by decide) (by kernel_rfl) ?_; intro K hK
  (iterate 5 (refine @unH _ ?_; refine zI Ajg ?_))
  (refine @unH _ ?_; refine zJ Ajg ?_)
  (iterate 5 (refine @unH _ ?_; refine zI Ajg ?_))
  (refine @unH _ ?_; refine zJ Ajg ?_)
  (iterate 4 (refine @unH _ ?_; refine zI Ajg ?_))
  refine Aqt ?_
  (refine @unH _ ?_; refine zX Ajg ?_)
  refine ⟨.inl (by decide), ?_⟩
  (iterate 2 (refine @unH _ ?_; refine zI Ajg ?_))
  refine Aqt ?_
  (refine @unH _ ?_; refine zX (aN Ajg @Ayn) ?_)
  refine ⟨.inl (by decide), ?_⟩
  refine Axk (hK _ _ ?_)
  clear hK K
  (try refine @unH _ (zQ ?_))
  (refine @unH _ ?_; refine zD results46 ?_)
  refine ⟨by trivial, ?_, fun y hy => (Aqv hy).trans (ho y hy)⟩
  rw [Axp, <- hput]
 | true =>
  refine Aql func46 rfl ntmps46 (by simp) ?_
  (refine @unH _ (zA (aN Ajg @Ayn) ?_); (try clear hK K); intro K hK hc)
  obtain ⟨c1, hc1⟩ : ∃ c1 : Array Value, c1 = c := ⟨_, rfl⟩
  have hs1 : c1.size = c.size := by rw [hc1]
  have g0 : c1[o]? = some (.int .i64 lo) := by rw [hc1]; exact b0
  have g1 : c1[o + 1]? = some (.int .i64 hi) := by rw [hc1]; exact b1
  have hz1 : o < c1.size := by omega
  have hz2 : o + 1 < c1.size := by omega
  have hput : (c1.setIfInBounds o (.int .i64 (if x < lo then x else lo))).setIfInBounds (o + 1) (.int .i64 (if hi < x then x else hi)) = Bzk c o (Ax0 ⟨lo, hi, true⟩ x) := by
   apply Array.ext_getElem?
   intro i
   rw [Aw6 hsz, hc1]
   simp only [Array.getElem?_setIfInBounds, Array.size_setIfInBounds, Ax0, Bool.false_eq_true, if_false, if_true]
   by_cases e1 : i = o + 1
   ·subst e1
    simp only [show ¬ (o + 1 = o) by omega, show o + 1 < c.size by omega, ↓reduceIte]
    refine congrArg some (congrArg (Value.int .i64) ?_); (try dsimp only); (repeat' split) <;> omega
   ·by_cases e0 : i = o
    ·subst e0
     simp only [show ¬ (i + 1 = i) by omega, show i < c.size by omega, ↓reduceIte]
     refine congrArg some (congrArg (Value.int .i64) ?_); (try dsimp only); (repeat' split) <;> omega
    ·rw [if_neg (Ne.symm e1), if_neg (Ne.symm e0), if_neg e0, if_neg e1]
     by_cases e2 : i = o + 2
     ·subst e2
      rw [if_pos rfl, b2]
     ·rw [if_neg e2]
  have v1 : H bb = some (true, .cells c1 e (0, 0)) := by rw [hc1]; exact vb
  clear hc1 vb b0 b1 b2
  refine Azl (fun HX => HX bb = some (true, .cells c1 e (0, 0))) [16, 19] (.free 0 (.free 1 (.free 2 (.free 3 (.free 4 (.take 5 (.free 6 (.free 7 (.free 8 (.free 9 (.free 10 (.take 11 (.free 12 (.free 13 (.free 14 (.free 15 (.one 16 (.free 17 (.free 18 (.one 19 .nil)))))))))))))))))))) (by kernel_rfl) (by kernel_rfl) (by decide) (by kernel_rfl) ?_; intro K hK
  (iterate 5 (refine @unH _ ?_; refine zI Ajg ?_))
  (refine @unH _ ?_; refine zJ Ajg ?_)
  (iterate 5 (refine @unH _ ?_; refine zI Ajg ?_))
  (refine @unH _ ?_; refine zJ Ajg ?_)
  (iterate 4 (refine @unH _ ?_; refine zI Ajg ?_))
  refine Aqt ?_
  (refine @unH _ ?_; refine zX Ajg ?_)
  refine ⟨.inl (by decide), ?_⟩
  (iterate 2 (refine @unH _ ?_; refine zI Ajg ?_))
  refine Aqt ?_
  (refine @unH _ ?_; refine zX (aN Ajg @Ayn) ?_)
  refine ⟨.inl (by decide), ?_⟩
  refine Axk (hK _ _ ?_)
  clear hK K
  (try refine @unH _ (zQ ?_))
  (refine @unH _ ?_; refine zD results46 ?_)
  refine ⟨by trivial, ?_, fun y hy => Aqv hy⟩
  rw [Axp, <- hput]
end Go.Proofs.YtnfnaehonkbknaaGreatDoor
end
section
namespace Go.X
open Go
def SlG (e : TypeId) (sz : Nat) (H : Hp) (v : Value) (rows : List (List Value)) : Prop :=
 ∃ a cap, v = .slice a rows.length cap /\ rows.length <= cap /\ ∀ (i : Nat) (r : List Value), rows[i]? = some r -> ∃ b o p c fr, a = some ⟨b, o, none⟩ /\ H b = some (p, .cells c e fr) /\ o + i * sz + sz <= c.size /\ r.length = sz /\ c.extract (o + i * sz) (o + i * sz + sz) = r.toArray
theorem SlG.move {e : TypeId} {sz : Nat} {H H' : Hp} {v : Value} {rows : List (List Value)} (h : SlG e sz H v rows) (hl : ∀ x p c fr, H x = some (p, .cells c e fr) -> ∃ p', H' x = some (p', .cells c e fr)) : SlG e sz H' v rows := by
 obtain ⟨a, cap, h1, h2, h3⟩ := h
 refine ⟨a, cap, h1, h2, fun i r hr => ?_⟩
 obtain ⟨b, o, p, c, fr, h4, h5, h6, h7, h8⟩ := h3 i r hr
 obtain ⟨p', h9⟩ := hl _ _ _ _ h5
 exact ⟨b, o, p', c, fr, h4, h9, h6, h7, h8⟩
theorem SlG.le {e : TypeId} {sz : Nat} {H H' : Hp} {v : Value} {rows : List (List Value)} (h : SlG e sz H v rows) (hl : H.le H') : SlG e sz H' v rows := h.move fun x p c fr hx => ⟨p, hl _ _ hx⟩
theorem SlG.get {e : TypeId} {sz : Nat} {H : Hp} {a : Option Addr} {n cap : Nat} {rows : List (List Value)} (h : SlG e sz H (.slice a n cap) rows) {i : Nat} {r : List Value} (hr : rows[i]? = some r) :
  ∃ b o p c fr, a = some ⟨b, o, none⟩ /\ H b = some (p, .cells c e fr) /\ o + i * sz + sz <= c.size /\ r.length = sz /\ c.extract (o + i * sz) (o + i * sz + sz) = r.toArray := by
 obtain ⟨a', cap', h1, h2, h3⟩ := h
 cases h1
 exact h3 i r hr
theorem SlG.len {e : TypeId} {sz : Nat} {H : Hp} {a : Option Addr} {n cap : Nat} {rows : List (List Value)} (h : SlG e sz H (.slice a n cap) rows) : n = rows.length /\ rows.length <= cap := by
 obtain ⟨a', cap', h1, h2, h3⟩ := h
 cases h1
 exact ⟨rfl, h2⟩
theorem SlG.isSlice {e : TypeId} {sz : Nat} {H : Hp} {v : Value} {rows : List (List Value)} (h : SlG e sz H v rows) : ∃ a n cap, v = .slice a n cap := by
 obtain ⟨a', cap', h1, h2, h3⟩ := h
 exact ⟨_, _, _, h1⟩
theorem Cq8 {c : Array Value} {o n : Nat} {r : List Value} (h : c.extract o (o + n) = r.toArray) (hs : o + n <= c.size) {k : Nat} {x : Value} (hx : r[k]? = some x) : c[o + k]? = some x := by
 have h1 : (c.extract o (o + n))[k]? = some x := by rw [h]; simpa using hx
 rw [Array.getElem?_extract] at h1
 split at h1
 ·exact h1
 ·cases h1
end Go.X
namespace Go.Proofs.YtnfnaehonkbknaaGreatDoor
open Go Go.X
def Ckc (d : Dr) : List Value := [.int .i64 d.a, .int .i64 d.b, .int .i64 d.mn, .int .i64 d.mx]
def Ck9 (n : Ns) : List Value := [.int .i64 n.pl, .int .i64 n.hr, .bool n.sm]
def SlD (H : Hp) (v : Value) (ds : List Dr) : Prop := SlG 66 4 H v (ds.map Ckc)
def SlN (H : Hp) (v : Value) (ns : List Ns) : Prop := SlG 46 3 H v (ns.map Ck9)
theorem SlD.move {H H' : Hp} {v : Value} {ds : List Dr} (h : SlD H v ds) (hl : ∀ x p c fr, H x = some (p, .cells c 66 fr) -> ∃ p', H' x = some (p', .cells c 66 fr)) : SlD H' v ds := SlG.move h hl
theorem SlN.move {H H' : Hp} {v : Value} {ns : List Ns} (h : SlN H v ns) (hl : ∀ x p c fr, H x = some (p, .cells c 46 fr) -> ∃ p', H' x = some (p', .cells c 46 fr)) : SlN H' v ns := SlG.move h hl
theorem SlD.le {H H' : Hp} {v : Value} {ds : List Dr} (h : SlD H v ds) (hl : H.le H') : SlD H' v ds := SlG.le h hl
theorem SlN.le {H H' : Hp} {v : Value} {ns : List Ns} (h : SlN H v ns) (hl : H.le H') : SlN H' v ns := SlG.le h hl
theorem SlD.isSlice {H : Hp} {v : Value} {ds : List Dr} (h : SlD H v ds) : ∃ a n cap, v = .slice a n cap := SlG.isSlice h
theorem SlN.isSlice {H : Hp} {v : Value} {ns : List Ns} (h : SlN H v ns) : ∃ a n cap, v = .slice a n cap := SlG.isSlice h
abbrev smV (pl : Int) (dv hv nv : Value) : Value := .agg #[.int .i64 pl, dv, hv, nv]
abbrev smO (pl : Int) (dv hv nv : Value) : Obj := .cells #[.int .i64 pl, dv, hv, nv] 26 (0, 0)
structure SmIn (H : Hp) (dv hv nv : Value) (s : Sm) : Prop where
 dd : SlD H dv s.doors
 hh : SlI H hv s.hampers
 nn : SlN H nv s.noses
theorem SmIn.le {H H' : Hp} {dv hv nv : Value} {s : Sm} (h : SmIn H dv hv nv s) (hl : H.le H') : SmIn H' dv hv nv s := ⟨h.dd.le hl, h.hh.le hl, h.nn.le hl⟩
theorem SlD.get {H : Hp} {a : Option Addr} {n cap : Nat} {ds : List Dr} (h : SlD H (.slice a n cap) ds) {i : Nat} {d : Dr} (hd : ds[i]? = some d) :
  ∃ b o p c fr, a = some ⟨b, o, none⟩ /\ H b = some (p, .cells c 66 fr) /\ o + i * 4 + 4 <= c.size /\ c.extract (o + i * 4) (o + i * 4 + 4) = #[.int .i64 d.a, .int .i64 d.b, .int .i64 d.mn, .int .i64 d.mx] := by
 obtain ⟨b, o, p, c, fr, h1, h2, h3, h4, h5⟩ := SlG.get h (i := i) (r := Ckc d) (by simp [hd])
 exact ⟨b, o, p, c, fr, h1, h2, h3, h5⟩
theorem SlN.get {H : Hp} {a : Option Addr} {n cap : Nat} {ns : List Ns} (h : SlN H (.slice a n cap) ns) {i : Nat} {d : Ns} (hd : ns[i]? = some d) :
  ∃ b o p c fr, a = some ⟨b, o, none⟩ /\ H b = some (p, .cells c 46 fr) /\ o + i * 3 + 3 <= c.size /\ c.extract (o + i * 3) (o + i * 3 + 3) = #[.int .i64 d.pl, .int .i64 d.hr, .bool d.sm] := by
 obtain ⟨b, o, p, c, fr, h1, h2, h3, h4, h5⟩ := SlG.get h (i := i) (r := Ck9 d) (by simp [hd])
 exact ⟨b, o, p, c, fr, h1, h2, h3, h5⟩
theorem SlD.len {H : Hp} {a : Option Addr} {n cap : Nat} {ds : List Dr} (h : SlD H (.slice a n cap) ds) : n = ds.length /\ ds.length <= cap := by
 have := SlG.len h
 simpa using this
theorem SlN.len {H : Hp} {a : Option Addr} {n cap : Nat} {ns : List Ns} (h : SlN H (.slice a n cap) ns) : n = ns.length /\ ns.length <= cap := by
 have := SlG.len h
 simpa using this
theorem SmIn.forms {H : Hp} {dv hv nv : Value} {s : Sm} (h : SmIn H dv hv nv s) : ∃ da dc ha hc na nc, dv = .slice da s.doors.length dc /\ hv = .slice ha s.hampers.length hc /\ nv = .slice na s.noses.length nc /\ s.doors.length <= dc /\ s.hampers.length <= hc /\ s.noses.length <= nc := by
 obtain ⟨a1, n1, c1, rfl⟩ := h.dd.isSlice
 obtain ⟨a2, c2, rfl, l2, _⟩ := id h.hh
 obtain ⟨a3, n3, c3, rfl⟩ := h.nn.isSlice
 obtain ⟨rfl, l1⟩ := h.dd.len
 obtain ⟨rfl, l3⟩ := h.nn.len
 refine ⟨a1, c1, a2, c2, a3, c3, ?_, rfl, ?_, ?_, l2, ?_⟩ <;> first | simp | simpa using l1 | simpa using l3
end Go.Proofs.YtnfnaehonkbknaaGreatDoor
end
