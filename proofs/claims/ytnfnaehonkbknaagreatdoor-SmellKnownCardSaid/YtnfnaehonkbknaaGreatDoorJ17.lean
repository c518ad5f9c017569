/- Texts SmFl SmW1 SmW SmW2 SmW3 SmH. -/
import Derived.Test.YtnfnaehonkbknaaGreatDoorJ16
set_option linter.defProp false
set_option linter.unusedSimpArgs false
set_option linter.unusedVariables false
set_option maxRecDepth 100000
set_option maxHeartbeats 2000000
section
namespace Go.X
open Go
open Go.Conc
section
variable {P : Program} {md : Md} {Stop : Goroutine -> Hp -> Prop} {ops : Array Oper} {s : Nat} {K : Act -> Hp -> Prop}
theorem Bvz {n : Nat} {ds : List Deferred} (val : Nat -> Value) (I : (Nat -> Value) -> Prop) (S : Hp -> Prop) (hed : Dji ops = true) (hds : dstB ops = true) (hla : lastB ops s = true) (hsz : s < ops.size)
  (hI : ∀ i o d e, i ≠ s -> ops[i]? = some o -> o.dst = some d -> I e -> I (upd e d (val i)))
  (hstep : ∀ i o, ops[i]? = some o -> i ≠ s -> ∀ e H, I e -> (∀ x ∈ o.after, Region.binds .any x = true -> ∀ o' d, ops[x.on]? = some o' -> o'.dst = some d -> e d = val x.on) -> S H ->
   Region.wanted o (yielded ops (act n e ds).tmps) = true /\ ∃ d, o.dst = some d /\ opX P md none o (act n e ds) H (fun a' H' => a' = act n (upd e d (val i)) ds /\ S H') fun _ _ _ => False)
  (hend : ∀ o, ops[s]? = some o -> ∀ e H, I e -> (∀ x ∈ o.after, Region.binds .any x = true -> ∀ o' d, ops[x.on]? = some o' -> o'.dst = some d -> e d = val x.on) -> S H -> K (act n e ds) H) :
  ∀ (fuel t : Nat) (listed : Array Bool) (e : Nat -> Value) (H : Hp), left ops listed <= fuel -> listed.size = ops.size -> Closed ops listed -> listed.getD s false = false -> I e ->
   (∀ i o d, ops[i]? = some o -> listed.getD i false = true -> o.dst = some d -> e d = val i) -> S H -> runU P md ops s K (Region.linearise.go .any ops fuel t listed []) (act n e ds) H := by
 have hdep : ∀ j, j < ops.size -> j ≠ s -> Dep ops s j := fun j hj hne => by
  have h1 := List.all_eq_true.1 hla j (List.mem_range.2 hj)
  simp only [Bool.or_eq_true, beq_iff_eq, hne, false_or] at h1
  exact (Akz _ _ (fun y hy => by
   by_cases hys : s = y
   ·exact .inl hys.symm
   ·rw [getD_set_ne false hys] at hy
    by_cases hlt : y < ops.size <;> simp [Array.getD, hlt] at hy) j h1).resolve_left hne
 have hdst : ∀ (i j : Nat) (oi oj : Oper) (d : Tmp), ops[i]? = some oi -> ops[j]? = some oj -> oi.dst = some d -> oj.dst = some d -> i = j := fun i j oi oj d hi hj hdi hdj => by
  have hil := (Array.getElem?_eq_some_iff.1 hi).1
  have hjl := (Array.getElem?_eq_some_iff.1 hj).1
  have h1 := List.all_eq_true.1 (List.all_eq_true.1 hds i (List.mem_range.2 hil)) j (List.mem_range.2 hjl)
  simp only [hi, hj, Option.bind_some, hdi, hdj, Option.isNone_some, Bool.or_false, bne_self_eq_false, beq_iff_eq] at h1
  exact h1
 have hon : ∀ (i : Nat) (o : Oper), ops[i]? = some o -> ∀ x ∈ o.after, Region.binds .any x = true -> x.on < i := fun i o hi x hx hb => by
  have h1 := List.all_eq_true.1 hed i (List.mem_range.2 (Array.getElem?_eq_some_iff.1 hi).1)
  rw [hi] at h1
  simp only [Array.all_eq_true_iff_forall_mem] at h1
  have h2 := h1 x hx
  simpa [hb] using h2
 intro fuel
 induction fuel with
 | zero =>
  intro t listed e H hfu hls hcl hun _ _ _
  have := Ayw (p := fun _ => false) (q := fun i => !listed.getD i false) (l := List.range ops.size) (by simp) s (List.mem_range.2 hsz) (by simp [hun]) rfl
  unfold left at hfu
  omega
 | succ fuel ih =>
  intro t listed e H hfu hls hcl hun hIe hval hS
  have hne : Region.ready .any ops listed ≠ [] := by
   have key : ∀ i, i < ops.size -> listed.getD i false = false -> ∃ j, j ∈ Region.ready .any ops listed := by
    intro i
    induction i using Nat.strongRecOn with
    | _ i ihi =>
     intro hi hli
     obtain ⟨o, ho⟩ : ∃ o, ops[i]? = some o := ⟨_, Array.getElem?_eq_getElem hi⟩
     by_cases hall : ∀ x ∈ o.after, Region.binds .any x = true -> listed.getD x.on false = true
     ·exact ⟨i, mem_ready.2 ⟨by simp [Array.getD, hls, hi] at hli ⊢; exact hli, o, ho, hall⟩⟩
     ·have : ∃ x ∈ o.after, Region.binds .any x = true /\ listed.getD x.on false = false := Classical.byContradiction fun hn => hall fun x hx hb => by
       cases hl : listed.getD x.on false with
       | true => rfl
       | false => exact absurd ⟨x, hx, hb, hl⟩ hn
      obtain ⟨x, hx, hb, hl⟩ := this
      have hlt := hon i o ho x hx hb
      exact ihi x.on hlt (by omega) hl
   obtain ⟨j, hj⟩ := key s hsz hun
   exact fun h => by rw [h] at hj; cases hj
  simp only [Region.linearise.go]
  change runU P md ops s K (match (Region.ready .any ops listed)[t % (Region.ready .any ops listed).length]? with
   | some i => Region.linearise.go .any ops fuel (t / (Region.ready .any ops listed).length) (listed.setIfInBounds i true) [i]
   | none => [].reverse) (act n e ds) H
  have hlen : t % (Region.ready .any ops listed).length < (Region.ready .any ops listed).length := Nat.mod_lt _ (List.length_pos_iff.2 hne)
  have hi := List.getElem?_eq_getElem hlen
  have hmem := List.mem_of_getElem? hi
  generalize (Region.ready .any ops listed)[t % (Region.ready .any ops listed).length] = i at hi hmem
  rw [hi]
  simp only []
  rw [linearise_go_acc, List.reverse_singleton, List.singleton_append]
  obtain ⟨hu, o, ho, hall⟩ := mem_ready.1 hmem
  have hil := (Array.getElem?_eq_some_iff.1 ho).1
  have hu' : listed.getD i false = false := by simpa [Array.getD, hls, hil] using hu
  have hdeps : ∀ x ∈ o.after, Region.binds .any x = true -> ∀ o' d, ops[x.on]? = some o' -> o'.dst = some d -> e d = val x.on := fun x hx hb o' d ho' hd => hval x.on o' d ho' (hall x hx hb) hd
  unfold runU
  by_cases his : i = s
  ·rw [if_pos his]
   subst his
   refine ⟨Djt ?_ _ _, hend o ho e H hIe hdeps hS⟩
   refine List.eq_nil_iff_forall_not_mem.2 fun j hj => ?_
   obtain ⟨hju, o', ho', _⟩ := mem_ready.1 hj
   have hjl := (Array.getElem?_eq_some_iff.1 ho').1
   by_cases hji : j = i
   ·subst hji
    simp [Array.getD, hls, hjl] at hju
   ·have h1 := (hdep j hjl hji).listed hcl hmem
    have h2 := getD_set_true (i := i) h1
    simp only [Array.getD, Array.size_setIfInBounds, hls, hjl, dite_true] at h2 hju
    rw [h2] at hju; cases hju
  ·rw [if_neg his]
   obtain ⟨hw, d, hd, hop⟩ := hstep i o ho his e H hIe hdeps hS
   refine ⟨o, ho, hw, Av9 hop ?_⟩
   rintro a' H' ⟨rfl, hS'⟩
   have hns : listed.getD s false = false := hun
   refine ih _ _ _ _ ?_ (by simpa using hls) (hcl.set hmem) (by rw [getD_set_ne false his]; exact hun) (hI i o d e his ho hd hIe) (fun j oj d' hj hlj hd' => ?_) hS'
   ·have := Cyr (ops := ops) hil hls hu'
    omega
   ·by_cases hji : j = i
    ·subst hji
     rw [ho] at hj; cases hj
     rw [hd] at hd'; cases hd'
     simp [upd]
    ·rw [getD_set_ne false (Ne.symm hji)] at hlj
     have hdd : d' ≠ d := fun he => hji (hdst j i oj o d' hj ho hd' (by rw [he]; exact hd))
     have := hval j oj d' hj hlj hd'
     simp [upd, hdd, this]
end
section
variable {P : Program} {md : Md} {Stop : Goroutine -> Hp -> Prop} {a : Act} {H : Hp}
theorem WPG.region_drawS {b : Frame} {k : List Item} {cs : List Frame} {id : Nat} {ops : Array Oper} (hm : P.follows .mixedOrders = true) (h : ∀ t, WPG P md Stop (G (fat b a (.inRegion ops (Region.linearise.go .any ops ops.size t (Array.replicate ops.size false) []) :: k)) cs) H) :
  WPG P md Stop (G (fat b a (.code (.region id ops true) :: k)) cs) H := by
 refine .step (fun g' H' => ∃ t, g' = G (fat b a (.inRegion ops (Region.schedule (P.follows .mixedOrders) ops t) :: k)) cs /\ H' = H) rfl (fun w hw => ?_) ?_
 ·refine ⟨_, { w with drawn := w.drawn + 1 }, #[], H, ?_, .draw hw _, w.tape w.drawn (.order b.fn id), rfl, rfl⟩
  simp [G, stepG, stepG.exec, fat, choose, Sem.run, Question.forced, Question.cut]
 ·rintro g' H' ⟨t, rfl, rfl⟩
  have := h t
  simp only [Region.schedule, hm, Bool.true_or, if_true]
  exact this
end
end Go.X
end
section
namespace Go.Proofs.YtnfnaehonkbknaaGreatDoor
open Go Go.X Go.Proofs.Tryz
def Bzj := aN @Dv7 (aN @Dwj (aN @Dwc @Dx4))
def Dz1 := (fun H => Aqi (H := H) underlying134 rfl)
open Go.Conc (G baseD rcase scase dcall)
theorem Bv1 (K : Hp) (c wg cb m : Nat) (vc : K cb = some (false, .cells #[.chan (some c)] 134 (0, 0))) :
  ∃ ρ, OthW Tryz.prog c wg lk.tWg ρ (Go.Conc.born Tryz.prog { target := .fn (.func 79) #[.pointer (some ⟨wg, 0, none⟩), .pointer (some ⟨cb, 0, none⟩)], args := #[] }) (.wait K 0 m) := by
 refine WPG.waitW ?_
 refine WPG.born (fun _ _ => Dx5 _) ?_
 rw [Awl _ func79 rfl, ntmps79]
 rw [show ((#[] : Array Value) ++ #[.pointer (some ⟨wg, 0, none⟩), .pointer (some ⟨cb, 0, none⟩)]) = [Value.pointer (some ⟨wg, 0, none⟩), .pointer (some ⟨cb, 0, none⟩)].toArray from rfl]
 rw [Aw9 (by simp), Ckm rfl]
 have hJ := Quiet.wpg (P := Tryz.prog) (Stop := fun g' K' => ∃ ρ, OthW Tryz.prog c wg lk.tWg ρ g' (.wait K' 0 m)) (H := K)
 refine hJ.seq (hJ.region ?_)
 refine hJ.enter2 (rest := []) rfl rfl (by simp [baseD]) rfl (wgLib.f_wait) (Go.ConcR.Gen.nm_wait lk) rfl #[.pointer (some ⟨wg, 0, none⟩)] 83 (by simp [Aq6, Bzn]) rfl ?_
 refine .stop ?_ (Hp.le_refl _)
 refine waitW wgLib ?_ m
 refine WPG.lateW ?_
 rw [<- Ckm rfl]
 refine (show WPG Tryz.prog (.own false) _ (G (fat (baseD 79) (act 4 (Bzn [.pointer (some ⟨wg, 0, none⟩), .pointer (some ⟨cb, 0, none⟩)]) []) _) _) K from ?_)
 refine WPG.endX (WPG.regionX (WPG.op (rest := [1]) rfl rfl (by simp [baseD]) rfl ?_))
 unfold opX
 change wpS _ (execOp _ ⟨some 3, .load _ (.tmp 1), _, _, _, _⟩) _ _ _
 (refine @unH _ ?_; refine z7 @Dz1 ?_)
 exact .stop (closeW rfl rfl rfl (by show ((act 4 _ []).put (some 3) _).eval _ = _; rw [Aq0 (by decide), Aq6 (by decide)]; rfl) rfl func79 results79) (Hp.le_refl _)
theorem Czi {P : Program} {H : Hp} (a : Act) (d : Option Tmp) (ty : TypeId) (pos : String) (af : Array Edge) (g : Option (Nat × Bool)) (K : Next -> Hp -> Prop) (E : Value -> Hp -> Prop) {f : FuncId} {args : Array Operand} {ats : Array TypeId} :
  wpS P (execOp a.eval ⟨d, .defer ⟨.value (.func f), args, ats⟩, ty, pos, af, g⟩) H K E = K (.defer { target := .fn (.func f) #[], args := args.map a.eval }) H := by
 rw [Cq6]
 simp [resolve, Deferred.ofValue, Aqd, Act.eval]
def trV (s : Sm) (i : Nat) : Value := .agg (Aq4 (Azk s i)).toArray
theorem Bwd (KM : Hp) (c wg cb vx px : Nat) (s : Sm) (dv hv nv : Value) (i : Nat) (p : Int)
  (vv : KM vx = some (false, smO s.places dv hv nv)) (vp : KM px = some (false, .cells #[.int .i64 i] 3 (0, 0))) (vc : KM cb = some (false, .cells #[.chan (some c)] 134 (0, 0)))
  (hs : SmIn KM dv hv nv s) (ok : SmOk s) (hi : s.hampers[i]? = some p) :
  WPG Tryz.prog (.own false) (Bxc Tryz.prog c wg lk.tWg (trV s i))
   (Go.Conc.born Tryz.prog { target := .fn (.func 76) #[.pointer (some ⟨wg, 0, none⟩), .pointer (some ⟨cb, 0, none⟩), .pointer (some ⟨vx, 0, none⟩), .pointer (some ⟨px, 0, none⟩)], args := #[] }) KM := by
 obtain ⟨da, dc, ha, kc, na, nc, rfl, rfl, rfl, l1, l2, l3⟩ := hs.forms
 have hfol := fun H' (hl : KM.le H') => Byj (.own false) H' s _ _ _ (hs.le hl) ok i p hi
 refine WPG.born (fun _ _ => Dx3 _) ?_
 rw [Awl _ func76 rfl, ntmps76]
 rw [show ((#[] : Array Value) ++ #[.pointer (some ⟨wg, 0, none⟩), .pointer (some ⟨cb, 0, none⟩), .pointer (some ⟨vx, 0, none⟩), .pointer (some ⟨px, 0, none⟩)]) = [Value.pointer (some ⟨wg, 0, none⟩), .pointer (some ⟨cb, 0, none⟩), .pointer (some ⟨vx, 0, none⟩), .pointer (some ⟨px, 0, none⟩)].toArray from rfl]
 rw [Aw9 (by simp)]
 refine WPG.seqX (by simp [baseD]) rfl ?_
 (refine @unH _ (zA (aN Bzj (aN @Czi @Bqn)) ?_); (try clear hK K); intro K hK hc)
 refine WPG.region_drawS (by kernel_rfl) fun t => ?_
 simp only [smO] at vv
 refine Bjg (s := 4) (K := fun a H => a.eval (.tmp 4) = .chan (some c) /\ a.eval (.tmp 7) = trV s i /\ a.defers = [dcall lk.done #[.pointer (some ⟨wg, 0, none⟩)]]) (by simp [baseD]) rfl ?_ _ _ _ (Bvz (P := Tryz.prog) (md := .own false) (s := 4) (n := 8) (ds := [dcall lk.done #[.pointer (some ⟨wg, 0, none⟩)]]) (fun j => match j with
   | 0 => .chan (some c) | 1 => smV s.places (.slice da s.doors.length dc) (.slice ha s.hampers.length kc) (.slice na s.noses.length nc) | 2 => .int .i64 i | _ => trV s i)
  (fun e => e 1 = .pointer (some ⟨cb, 0, none⟩) /\ e 2 = .pointer (some ⟨vx, 0, none⟩) /\ e 3 = .pointer (some ⟨px, 0, none⟩)) (fun H => KM.le H) (by kernel_rfl) (by kernel_rfl) (by kernel_rfl) (by decide) ?_ ?_ ?_ _ t _ _ _ ?_ ?_ ?_ ?_ ?_ ?_ ?_)
 ·rintro a H ⟨ha4, ha7, had⟩
  exact .stop (Dk0 wgLib rfl rfl (fun w => Cvm ha4 ha7 w) had func76 results76) (Hp.le_refl _)
 ·rintro j o d e hj ho hd ⟨e1, e2, e3⟩
  have hj5 : j < 5 := (Array.getElem?_eq_some_iff.1 ho).1
  obtain rfl | rfl | rfl | rfl : j = 0 ∨ j = 1 ∨ j = 2 ∨ j = 3 := by omega
  all_goals
   cases ho
   cases hd
   exact ⟨e1, e2, e3⟩
 ·rintro j o ho hj e H ⟨e1, e2, e3⟩ hdep hS
  have hj5 : j < 5 := (Array.getElem?_eq_some_iff.1 ho).1
  have vc' := hS _ _ vc
  have vv' := hS _ _ vv
  have vp' := hS _ _ vp
  obtain rfl | rfl | rfl | rfl : j = 0 ∨ j = 1 ∨ j = 2 ∨ j = 3 := by omega
  ·simp only [List.getElem?_toArray, List.getElem?_cons_succ, List.getElem?_cons_zero, Option.some.injEq] at ho
   subst ho
   clear hdep
   refine ⟨rfl, _, rfl, ?_⟩
   simp -implicitDefEqProofs (disch := first | omega | (simp only [qd] <;> omega)) only [xq, ↓xp, qc, Nat.reduceAdd, List.range, List.range.loop, fine, Nat.reduceEqDiff, ↓reduceIte, yielded, reduceCtorEq, Nat.reduceLT, Nat.reduceMul, Nat.reduceSub, one, Nat.reduceLeDiff, Aqj, Bzj, aq, ↓ap, qe0, qe1, qe2, *, hS _ _ vv] <;> exact ⟨rfl, hS⟩
  ·simp only [List.getElem?_toArray, List.getElem?_cons_succ, List.getElem?_cons_zero, Option.some.injEq] at ho
   subst ho
   clear hdep
   refine ⟨rfl, _, rfl, ?_⟩
   simp -implicitDefEqProofs (disch := first | omega | (simp only [qd] <;> omega)) only [xq, ↓xp, qc, Nat.reduceAdd, List.range, List.range.loop, fine, Nat.reduceEqDiff, ↓reduceIte, yielded, reduceCtorEq, Nat.reduceLT, Nat.reduceMul, Nat.reduceSub, one, Nat.reduceLeDiff, Aqj, Bzj, aq, ↓ap, qe0, qe1, qe2, *, hS _ _ vv] <;> exact ⟨rfl, hS⟩
  ·simp only [List.getElem?_toArray, List.getElem?_cons_succ, List.getElem?_cons_zero, Option.some.injEq] at ho
   subst ho
   clear hdep
   refine ⟨rfl, _, rfl, ?_⟩
   simp -implicitDefEqProofs (disch := first | omega | (simp only [qd] <;> omega)) only [xq, ↓xp, qc, Nat.reduceAdd, List.range, List.range.loop, fine, Nat.reduceEqDiff, ↓reduceIte, yielded, reduceCtorEq, Nat.reduceLT, Nat.reduceMul, Nat.reduceSub, one, Nat.reduceLeDiff, Aqj, Bzj, aq, ↓ap, qe0, qe1, qe2, *, hS _ _ vv] <;> exact ⟨rfl, hS⟩
  ·simp only [List.getElem?_toArray, List.getElem?_cons_succ, List.getElem?_cons_zero, Option.some.injEq] at ho
   subst ho
   have d0 : e 5 = smV s.places (.slice da s.doors.length dc) (.slice ha s.hampers.length kc) (.slice na s.noses.length nc) := hdep _ (Array.mem_of_getElem? (i := 0) rfl) rfl _ _ rfl rfl
   have d1 : e 6 = .int .i64 i := hdep _ (Array.mem_of_getElem? (i := 1) rfl) rfl _ _ rfl rfl
   clear hdep
   refine ⟨rfl, _, rfl, ?_⟩
   (refine @unH _ ?_; refine z7 Bzj ?_)
   refine (hfol H hS).runs.mono ?_
   rintro _ H' ⟨rfl, l'⟩
   exact ⟨Aq0 (by decide), Hp.le_trans hS l'⟩
 ·rintro o ho e H ⟨e1, e2, e3⟩ hdep hS
  simp only [List.getElem?_toArray, List.getElem?_cons_succ, List.getElem?_cons_zero, Option.some.injEq] at ho
  subst ho
  have d0 : e 4 = .chan (some c) := hdep _ (Array.mem_of_getElem? (i := 0) rfl) rfl _ _ rfl rfl
  have d1 : e 7 = trV s i := hdep _ (Array.mem_of_getElem? (i := 1) rfl) rfl _ _ rfl rfl
  exact ⟨by rw [Aq6 (by decide)]; exact d0, by rw [Aq6 (by decide)]; exact d1, rfl⟩
 ·exact Nat.le_trans (List.countP_le_length) (by simp)
 ·simp
 ·exact Closed.start
 ·rfl
 ·exact ⟨rfl, rfl, rfl⟩
 ·rintro j o d ho hl
  exfalso
  by_cases h : j < 5 <;> simp [Array.getD, h] at hl
 ·exact Hp.le_refl _
end Go.Proofs.YtnfnaehonkbknaaGreatDoor
end
section
namespace Go.X
open Go
theorem Bzp {P : Program} {H : Hp} {t e : TypeId} {sz : Nat} {z : Value} {inf : TypeInfo} (hu : P.underlying t = some (.slice e)) (hs : ∀ w, (sizeOf e).run P w = .ok sz w) (hz : ∀ w, (zeroValue e).run P w = .ok z w) (hz1 : z.cells.size = sz)
  (hi : ∀ w, (typeInfo e).run P w = .ok inf w) (hby : inf.bytes <= 1000000) (h0s : 0 < sz) (k j : IntKind) (n : Int) (h0 : 0 < n) (h1 : n <= 1000) (K : Value -> Hp -> Prop) (E : Value -> Hp -> Prop)
  (hk : ∀ b c, H b = none -> c.size = n.toNat * sz -> K (.slice (some ⟨b, 0, none⟩) n.toNat n.toNat) (H.set b (.cells c e (0, 0)))) :
  wpS P (Instr.makeSlice t (.int k n) (.int j n)) H K E := by
 have hinf := Akb hi
 have hw : IntKind.i64.wrap n = n := w64 n (by omega) (by omega)
 have hb : ¬ ((inf.bytes : Int) * n > 2 ^ 48) := by
  have : (inf.bytes : Int) * n <= 1000000 * 1000 := Int.mul_le_mul (by omega) h1 (by omega) (by omega)
  have h2 : (2 : Int) ^ 48 = 281474976710656 := by decide
  omega
 have h00 : ¬ n < 0 := by omega
 have hn : ¬ n.toNat * sz = 0 := by
  have : 0 < n.toNat * sz := Nat.mul_pos (by omega) h0s
  omega
 unfold Instr.makeSlice
 simp only [Aqa, Aqh hu, asInt, asIntOf, Aqd, Aju hinf, hw]
 simp only [h00, decide_false, hb, Bool.or_self, Bool.false_eq_true, if_false, gt_iff_lt, Int.lt_irrefl, Aqa, Av1, Aqw hs]
 simp only [hn, if_false, Aqa, Aq8 hz, Aqd, newRow, newObj, wpS]
 exact fun b hb => hk b _ hb (by simp)
section
variable {P : Program} {H : Hp}
theorem Bqi {t e : TypeId} {dir : ChanDir} (hu : P.underlying t = some (.chan dir e)) {inf : TypeInfo} (hi : ∀ w, (typeInfo e).run P w = .ok inf w) (hb : inf.bytes <= 1000000) (k : IntKind) (n : Int) (h0 : 0 <= n) (h1 : n <= 1000) (K : Value -> Hp -> Prop) (E : Value -> Hp -> Prop) :
  wpS P (Instr.makeChan t (.int k n)) H K E = ∀ b, H b = none -> K (.chan (some b)) (H.set b (.chan n.toNat #[] false 0 0 false)) := by
 have hle : inf.bytes * n.toNat <= 1000000 * 1000 := Nat.mul_le_mul hb (by omega)
 have hle2 : ¬ ((inf.bytes : Int) * n > 2 ^ 48 - 112) := by
  have : (inf.bytes : Int) * n = ((inf.bytes * n.toNat : Nat) : Int) := by push_cast; rw [Int.toNat_of_nonneg h0]
  rw [this]; omega
 have hmax : IntKind.i64.max = 9223372036854775807 := by decide
 have hif : ¬ (9223372036854775807 < n ∨ 281474976710544 < (inf.bytes : Int) * n) := by
  rintro (h | h)
  ·omega
  ·exact hle2 (by simpa using h)
 unfold Instr.makeChan
 simp [-bind_pure_comp, Aqa, asInt, asIntOf, Aqd, Aqh hu, Aju (Akb hi), show ¬ n < 0 by omega, hmax]
 rw [if_neg hif]
 rfl
end
theorem Ay8 {P : Program} {γ : GhW} {Q : Cjn} {a : Act} {H : Hp} {c : Operand} {x y : Code} {t : Bool} (ht : a.eval c = .bool t) (h1 : t = true -> wpV P x Q γ a H) (h2 : t = false -> wpV P y Q γ a H) : wpV P (.cond c x y) Q γ a H := by
 refine Dqh ht ?_
 cases t
 ·exact h2 rfl
 ·exact h1 rfl
theorem Bz9 {P : Program} {γ : GhW} {Q : Cjn} {a : Act} {H : Hp} {ops : Array Oper} {todo : List Nat} (h : ∀ K : Act -> Hp -> Prop, (∀ a' H', Q γ .normal a' H' -> K a' H') -> runX P (.own true) none ops (only K) todo a H) : opsV P ops todo Q γ a H :=
 Cy1 fun b k cs Stop hk hl hc => Ak3 (h _ fun _ _ h => h) b k cs Stop hk hl fun e a' H' q => by
  cases e <;> first | exact hc _ _ _ q | exact q.elim
open Go.Conc in
theorem Bjd {P : Program} {a : Act} {d : Option Tmp} {ty t : TypeId} {pos : String} {af : Array Edge} {g : Option (Nat × Bool)} {x : Operand} {c : Nat} {z : Value} {e : TypeId} {dir : ChanDir} (hx : a.eval x = .chan (some c)) (hu : P.underlying t = some (.chan dir e)) (hz : ∀ w, (zeroValue e).run P w = .ok z w) (w : World) :
  (execOp a.eval ⟨d, .recv t x true, ty, pos, af, g⟩).runT P w #[] = (.ok (.comm #[rcase c z] true (.recv true)) w, #[]) := by
 simp [execOp, hx, rcase, hz, underlying, program, Sem.run, hu]
 rfl
end Go.X
namespace Go.Proofs.YtnfnaehonkbknaaGreatDoor
open Go Go.X
open Go.Conc (G baseD rcase scase)
structure OutR (s : Sm) (n : Nat) (c : Array Value) (R : List Nat) : Prop where
 size : c.size = n * 326
 at_ : ∀ i ∈ R, c.extract (i * 326) (i * 326 + 326) = (Aq4 (Azk s i)).toArray
theorem Avv {s : Sm} (ok : SmOk s) (i : Nat) : Axw (Azk s i) := Cjy (fun tc htc => by
 obtain ⟨t, ht, rfl⟩ := List.mem_map.1 htc
 have := Ay5 ht
 have := ok.dl
 simp [pad6]
 omega) _
theorem OutR.put {s : Sm} (ok : SmOk s) {n : Nat} {c : Array Value} {R : List Nat} (h : OutR s n c R) {i : Nat} (hi : i < n) : OutR s n (over c (i * 326) (Aq4 (Azk s i))) (R ++ [i]) := by
 have hl := Axm (Avv ok i)
 have hm : i * 326 + 326 <= n * 326 := by omega
 refine ⟨by rw [Azi]; exact h.size, fun j hj => ?_⟩
 by_cases e : j = i
 ·subst e
  apply Array.ext_getElem?
  intro k
  by_cases hk : k < 326
  ·rw [Array.getElem?_extract, if_pos (by rw [Azi, h.size]; omega), Ajn _ (by rw [h.size]; omega), if_pos (by omega), show j * 326 + k - j * 326 = k by omega]
   simp [List.getD, List.getElem?_eq_getElem (show k < (Aq4 (Azk s j)).length by omega)]
  ·rw [Array.getElem?_eq_none (by rw [Array.size_extract]; omega), Array.getElem?_eq_none (by simp; omega)]
 ·have hj' : j ∈ R := by
   rcases List.mem_append.1 hj with h | h
   ·exact h
   ·exact absurd (List.mem_singleton.1 h) e
  rw [<- h.at_ j hj']
  apply Array.ext_getElem?
  intro k
  by_cases hk : k < 326 /\ j * 326 + k < n * 326
  ·rw [Array.getElem?_extract, Array.getElem?_extract, if_pos (by rw [Azi, h.size]; omega), if_pos (by rw [h.size]; omega), Ajn _ (by rw [h.size]; omega), if_neg (by omega)]
  ·rw [Array.getElem?_eq_none (by rw [Array.size_extract, Azi, h.size]; omega), Array.getElem?_eq_none (by rw [Array.size_extract, h.size]; omega)]
def SlT (H : Hp) (v : Value) (l : List Trail) : Prop := SlG 127 326 H v (l.map Aq4)
theorem OutR.all {s : Sm} (ok : SmOk s) {n : Nat} (hn : n = s.hampers.length) {c : Array Value} {R : List Nat} (h : OutR s n c R) (hR : R.Perm (List.range n)) {H : Hp} {ob : Nat} (hb : H ob = some (true, .cells c 127 (0, 0))) : SlT H (.slice (some ⟨ob, 0, none⟩) n n) (Axd s) := by
 refine ⟨some ⟨ob, 0, none⟩, n, by simp [Axd, hn], by simp [Axd, hn], fun i r hr => ?_⟩
 simp only [Axd, List.map_map, List.getElem?_map] at hr
 cases hi : (List.range s.hampers.length)[i]? with
 | none => rw [hi] at hr; cases hr
 | some j =>
  obtain ⟨hlt, hj⟩ := List.getElem?_eq_some_iff.1 hi
  rw [List.getElem_range] at hj
  subst hj
  rw [hi] at hr
  simp only [Option.map_some, Option.some.injEq, Function.comp] at hr
  subst hr
  rw [List.length_range, <- hn] at hlt
  refine ⟨ob, 0, true, c, _, rfl, hb, by rw [h.size]; omega, Axm (Avv ok i), ?_⟩
  rw [Nat.zero_add]
  exact h.at_ i (hR.mem_iff.2 (List.mem_range.2 hlt))
end Go.Proofs.YtnfnaehonkbknaaGreatDoor
end
section
namespace Go.X
open Go
def sndS : Code -> Code
 | .seq _ y => y
 | c => c
end Go.X
namespace Go.Proofs.YtnfnaehonkbknaaGreatDoor
open Go Go.X Go.Proofs.Tryz
def Aw0 := aN @Bxi (aN (fun H => Bqi (H := H) underlying134 typeInfo127 (by decide)) (aN @Dwz (aN (fun H => Bql (H := H) sizeOf134) (aN @Dw0 (aN @Dvp (aN @Dv9 (aN @Dyd (aN @Dw2 (aN @Dyi (aN @Dv7 (aN @Dwy (aN @Dwq (aN @Dvj (aN @Dwc (aN @Dwh @Dyc)))))))))))))))
open Go.Conc (G baseD rcase scase)
theorem Dzw {H : Hp} {b : Nat} {l : List Value} {c : Array Value} {e : TypeId} {K : Hp -> Prop} (hl : l.length = 326) (h1 : l.all one = true) (hb : H b = some (true, .cells c e (0, 0))) (hs : c.size = 326) : Akd H b 0 l K = K (H.set b (.cells l.toArray e (0, 0))) := by
 rw [Aj5 (c := c) (e := e) (by intro h; rw [h] at hl; simp at hl) hb]
 have ho : over c 0 l = l.toArray := by
  obtain ⟨l'⟩ := c
  exact Ayj (by simp at hs; omega)
 rw [ho, h1]
 simp [hl, hs]
theorem Cqg (H H8 C H9 : Hp) (c wg tb vx : Nat) (s : Sm) (ok : SmOk s) (n : Nat) (hn : n = s.hampers.length) (dv nv : Value) (ha : Option Addr) (kc : Nat) (e : Nat -> Value)
  (e1 : e 1 = .pointer (some ⟨vx, 0, none⟩)) (e3 : e 3 = .pointer (some ⟨tb, 0, none⟩)) (e4 : e 4 = .pointer (some ⟨wg, 0, none⟩))
  (lS9 : C.leS H9) (hCle : H.le C) (l08 : H.le H8) (vtbC : C tb = some (true, .cells #[.chan (some c)] 134 (0, 0))) (vvxC : C vx = some (true, smO s.places dv (.slice ha n kc) nv)) (hCwg : C wg = none) :
  wpV Tryz.prog (sndS (sndS (sndS (sndS ((Tryz.f60).body.getD .skip))))) (fun γ e a H' => γ = .idle /\ Bva Tryz.prog (.wg Tryz.prog) Tryz.f60 (fun e H' => ∃ v, e = .returned v /\ SlT H' v (Axd s) /\ H.le H') e a H') (.busy c wg lk.tWg n 0 ((List.range n).reverse.map (trV s)) false (fun b => ∃ o, H8 b = some (true, o))) (act 33 e []) H9 := by
 subst hn
 have ntw : tb ≠ wg := fun e => by rw [e, hCwg] at vtbC; cases vtbC
 have hcl := fun (m : Nat) => Bv1 (H9.hand wg) c wg tb m (by obtain ⟨p', h1, _⟩ := lS9 _ _ _ vtbC; exact Hp.hand_some h1 ntw)
 show wpV _ (.seq (.region _ _ false) _) _ _ _ _
 refine Az4 (Ak6 (Bvv rfl rfl (Av9 (K := fun a' H' => ∃ e', a' = act 33 e' [] /\ H9 = H' /\ e' 18 = .func (.func 79) #[] #[.pointer (some ⟨wg, 0, none⟩), .pointer (some ⟨tb, 0, none⟩)] /\
   e' 1 = .pointer (some ⟨vx, 0, none⟩) /\ e' 3 = .pointer (some ⟨tb, 0, none⟩)) ?_ ?_)))
 ·unfold opX
  change wpS _ (execOp _ ⟨some 18, .makeFunc (.func 79) #[] #[.tmp 4, .tmp 3], _, _, _, _⟩) _ _ _
  rw [Awn]
  refine ⟨_, Aq0 (by decide), rfl, ?_, e1, e3⟩
  simp only [Axg, ↓reduceIte, List.map_toArray, List.map_cons, List.map_nil, Aq6, Nat.reduceLT, Nat.reduceEqDiff, e3, e4]
 ·clear e1 e3 e4
  rintro _ _ ⟨e', rfl, rfl, e18, e1, e3⟩
  refine Cvb rfl rfl (by simp) (fun w hw => Ckr (by rw [Aq6 (by decide)]; exact e18) w) rfl Hp.hand_lend Hp.lend_own (hcl _) (Bkf ?_)
  have hle10 := lS9.trans (Hp.lend_leS (eb := wg))
  generalize H9.lend wg = H11 at *
  clear hcl lS9 e18
  show wpV _ _ _ _ (act 33 e' []) _
  obtain ⟨pt, vtb11, _⟩ := hle10 _ _ _ vtbC
  obtain ⟨pv, vvx11, _⟩ := hle10 _ _ _ vvxC
  simp only [smO] at vvx11
  refine Az4 (Avy ?_)
  (refine @unH _ (zA Aw0 ?_); (try clear hK K); intro K hK hc)
  refine Bzp underlying83 sizeOf127 zeroValue127 rfl typeInfo127 (by decide) (by decide) _ _ _ (by have := ok.h0; omega) (by have := ok.h1; omega) _ _ (fun ob c0 hob hc0 => ?_)
  rw [Int.toNat_natCast] at hc0 ⊢
  have hCob : C ob = none := Bj9 hle10 hob
  have nob := Aqq vtb11 hob
  generalize hG : Hp.set H11 ob _ = H12
  have vob := Aqb hG
  have lS12 : C.leS H12 := by rw [<- hG]; exact hle10.set hCob
  have vtb12 := Aqf hG vtb11 nob
  have hout : OutR s s.hampers.length c0 [] := ⟨hc0, fun i hi => by simp at hi⟩
  clear hG hle10 hob vtb11 vvx11 hc0
  refine hK _ _ ?_
  clear hK K
  (try refine @unH _ (zQ ?_))
  refine Az4 (Az4 (Avy ?_))
  (refine @unH _ (zA Aw0 ?_); (try clear hK K); intro K hK hc)
  have hLV0 : ((List.range s.hampers.length).reverse.map (trV s)).Perm ((List.range s.hampers.length).map (trV s)) := (List.reverse_perm _).map _
  have hlen : (List.range s.hampers.length).length = s.hampers.length := List.length_range
  generalize hN : s.hampers.length = n at *
  generalize hR0 : List.range n = l at *
  generalize (l.reverse.map (trV s)) = LV0 at *
  replace hR0 : Aqo _ := hR0
  replace hN : Aqo _ := hN
  refine Bze (Cxw (fun w γ a' H' => ∃ (e : Nat -> Value) (L : List Nat) (LV : List Value) (R : List Nat) (cc : Array Value), w = L.length + 1 /\ γ = .busy c wg lk.tWg n 0 LV true (fun b => ∃ o, H8 b = some (true, o)) /\ LV.Perm (L.map (trV s)) /\ (R ++ L).Perm l /\ a' = act 33 e [] /\ e 6 = .slice (some ⟨ob, 0, none⟩) n n /\ e 23 = .chan (some c) /\
   C.leS H' /\ H' ob = some (true, .cells cc 127 (0, 0)) /\ OutR s n cc R) (n := n + 1) ?_ ?_)
  ·exact ⟨_, l, LV0, [], c0, by rw [hlen], rfl, hLV0, .refl _, rfl, rfl, rfl, lS12, vob, hout⟩
  ·clear e1 e3 lS12 vob hout hLV0 vtb12 nob vtbC vvxC
   rename_i eold
   clear eold
   rintro w γ a' H13 ⟨e, L, LV, R, cc, rfl, rfl, hLV, hperm, rfl, e6, e23, lS13, vob13, hout⟩
   cases L with
   | nil =>
    obtain rfl : LV = [] := by simpa using hLV
    refine Az4 (Ak6 (Cvd (z := .agg (Tryz.zeroCells127)) (fun b => (H13 b).map fun z => (z.1 || @decide (∃ o, H8 b = some (true, o)) (Classical.propDecidable _), z.2)) rfl rfl (fun w hw => Bjd (by rw [Aq6 (by decide)]; exact e23) underlying134 zeroValue127 w) (fun b p o hb => ?_) (Bz9 ?_)))
    ·simp only [Option.map_eq_some_iff] at hb
     obtain ⟨⟨p', o'⟩, h1, h2⟩ := hb
     simp only [Prod.mk.injEq] at h2
     obtain ⟨h2, rfl⟩ := h2
     refine ⟨p', h1, fun hp => ?_⟩
     rw [hp] at h2
     rcases Bool.or_eq_true_iff.1 h2 with h2 | h2
     ·exact .inl h2
     ·exact .inr (@of_decide_eq_true _ (Classical.propDecidable _) h2)
    ·obtain ⟨G', hGe⟩ : ∃ G' : Hp, G' = fun b => (H13 b).map fun z => (z.1 || @decide (∃ o, H8 b = some (true, o)) (Classical.propDecidable _), z.2) := ⟨_, rfl⟩
     rw [<- hGe]
     have hback : Aqo (H.le G') := fun x u hx => by
      obtain ⟨p, o⟩ := u
      obtain ⟨p', h1, h2⟩ := lS13 _ _ _ (hCle _ _ hx)
      have h8 := l08 _ _ hx
      rw [hGe]
      simp only [h1, Option.map_some, Option.some.injEq, Prod.mk.injEq, and_true]
      cases p with
      | true => rw [Bool.or_eq_true_iff]; exact .inr (@decide_eq_true _ (Classical.propDecidable _) ⟨_, h8⟩)
      | false =>
       rw [Bool.or_eq_false_iff]
       refine ⟨by cases hp : p' with | false => rfl | true => exact absurd (h2 hp) (by simp), @decide_eq_false _ (Classical.propDecidable _) (fun ⟨o', h9⟩ => by rw [h8] at h9; cases h9)⟩
     have vobG : G' ob = some (true, .cells cc 127 (0, 0)) := by rw [hGe]; simp [vob13]
     have hres : SlT G' (.slice (some ⟨ob, 0, none⟩) n n) (Axd s) := hout.all ok (show s.hampers.length = n from hN).symm (by rw [List.append_nil] at hperm; rw [show List.range n = l from hR0]; exact hperm) vobG
     clear hGe vob13 lS13 hout hperm
     intro K hK
     change runX _ _ _ _ _ _ ((act 33 e []).put (some 24) (.tuple #[.agg (Tryz.zeroCells127), .bool false])) _
     rw [Aq0 (by decide)]
     (refine @unH _ ?_; refine zX Aw0 ?_)
     refine hK _ _ ?_
     clear hK K
     (try refine @unH _ (zQ ?_))
     refine Az4 (Ay8 (by simp only [Aq6, Axg, Nat.reduceEqDiff, Nat.reduceLT, ↓reduceIte, *]; rfl) ?_ ?_) <;> intro hc
     ·cases hc
     ·clear hc
      refine Cxv ?_
      (try refine @unH _ (zQ ?_))
      refine Avy ?_
      (refine @unH _ (zA Aw0 ?_); (try clear hK K); intro K hK hc)
      refine Axt ?_
      (try refine @unH _ (zQ ?_))
      refine ⟨by trivial, ?_⟩
      rw [Aq7, Bx0 results60 (by decide)]
      exact ⟨_, rfl, hres, hback⟩
   | cons q0 L0 =>
    have hne : LV ≠ [] := fun h => by rw [h] at hLV; simp at hLV
    refine Az4 (Ak6 (Cvc (z := .agg (Tryz.zeroCells127)) rfl rfl hne (fun w hw => Bjd (by rw [Aq6 (by decide)]; exact e23) underlying134 zeroValue127 w) fun v L' hpv => Bz9 ?_))
    obtain ⟨q, L1, rfl, hpq, hL1⟩ : ∃ q L1, v = trV s q /\ (q0 :: L0).Perm (q :: L1) /\ L'.Perm (L1.map (trV s)) := by
     have hmem : v ∈ (q0 :: L0).map (trV s) := (hLV.symm.trans hpv).mem_iff.2 (by simp)
     obtain ⟨q, hq, rfl⟩ := List.mem_map.1 hmem
     have h1 := List.perm_cons_erase hq
     exact ⟨q, _, rfl, h1, (List.perm_cons _).1 (hpv.symm.trans (hLV.trans (h1.map _)))⟩
    have hlen1 : (q0 :: L0).length = L1.length + 1 := by rw [hpq.length_eq]; rfl
    have hperm' : ((R ++ [q]) ++ L1).Perm l := by
     rw [List.append_assoc]
     exact ((hpq.symm.append_left R)).trans hperm
    have hqn : q < n := by
     have : q ∈ l := hperm'.mem_iff.1 (by simp)
     rw [<- show List.range n = l from hR0] at this
     exact List.mem_range.1 this
    rw [hlen1]
    have hTo := Avv ok q
    have hTl := Axm hTo
    have hTx := Bwe hTo
    have hTq : (Aq4 (Azk s q))[0]? = some (.int .i64 (q : Nat)) := rfl
    have hput := hout.put ok hqn
    have hcs := hout.size
    have hTr : trV s q = .agg (Aq4 (Azk s q)).toArray := rfl
    rw [hTr]
    have hTone : (Aq4 (Azk s q)).all one = true := by rw [List.all_eq_true]; exact Ay6 _
    generalize Aq4 (Azk s q) = TC at *
    clear hperm hLV hpq hpv hlen1 hTr
    replace hcs : Aqo _ := hcs
    replace hR0 : Aqo _ := hR0
    intro K hK
    change runX _ _ _ _ _ _ ((act 33 e []).put (some 24) (.tuple #[.agg TC.toArray, .bool true])) _
    rw [Aq0 (by decide)]
    (refine @unH _ ?_; refine zX Aw0 ?_)
    refine hK _ _ ?_
    clear hK K
    (try refine @unH _ (zQ ?_))
    refine Az4 (Ay8 (by simp only [Aq6, Axg, Nat.reduceEqDiff, Nat.reduceLT, ↓reduceIte, *]; rfl) ?_ ?_) <;> intro hc
    ·clear hc
     refine Cxx ?_
     (try refine @unH _ (zQ ?_))
     refine Avy ?_
     (refine @unH _ (zA Aw0 ?_); (try clear hK K); intro K hK hc)
     intro xb hxb
     have nox := Aqq vob13 hxb
     rw [Dzw hTl hTone Axp rfl, Awv]
     generalize hG : Hp.set H13 xb _ = H14
     have vxb := Aqb hG
     have vob14 := Aqf hG vob13 nox
     have lS14 : C.leS H14 := by rw [<- hG]; exact lS13.set (Bj9 lS13 hxb)
     clear hG vob13 lS13 hxb
     refine hK _ _ ?_
     clear hK K
     (try refine @unH _ (zQ ?_))
     (refine @unH _ (zA Aw0 ?_); (try clear hK K); intro K hK hc)
     rw [Aj5 (c := cc) (e := 127) (by intro h; rw [h] at hTl; simp at hTl) vob14]
     refine ⟨hTone, by rw [hTl, show cc.size = n * 326 from hcs]; omega, ?_⟩
     refine hK _ _ ?_
     clear hK K
     (try refine @unH _ (zQ ?_))
     refine ⟨L1.length + 1, by omega, _, L1, L', R ++ [q], _, rfl, rfl, hL1, hperm', rfl, e6, e23, fun b p o hb => ?_, Axp, hput⟩
     rw [Aqv (fun h => by rw [h, hCob] at hb; cases hb)]
     exact lS14 b p o hb
    ·cases hc
end Go.Proofs.YtnfnaehonkbknaaGreatDoor
end
section
namespace Go.Proofs.YtnfnaehonkbknaaGreatDoor
open Go Go.X Go.Proofs.Tryz
def Av0 := aN @Bxi (aN (fun H => Bqi (H := H) underlying134 typeInfo127 (by decide)) (aN @Dwz (aN (fun H => Bql (H := H) sizeOf134) (aN @Dw0 (aN @Dvp (aN @Dv9 (aN @Dyd (aN @Dw2 (aN @Dyi (aN @Dv7 (aN @Dwy (aN @Dwq (aN @Dvj (aN @Dwc (aN @Dwh @Dyc)))))))))))))))
open Go.Conc (G baseD rcase scase)
def Bqu (H : Hp) : Hp := fun b => (H b).map fun q => (false, q.2)
theorem Av4 {H : Hp} {b : Nat} {p : Bool} {o : Obj} (h : H b = some (p, o)) : Bqu H b = some (false, o) := by simp [Bqu, h]
theorem Czn {H : Hp} : ∀ b p o, Bqu H b = some (p, o) -> p = false /\ Bqu H b = some (false, o) := fun b p o h => by
 have h' := h
 unfold Bqu at h
 simp only [Option.map_eq_some_iff, Prod.mk.injEq] at h
 obtain ⟨q, h1, h2, h3⟩ := h
 exact ⟨h2.symm, by rw [h', <- h2]⟩
theorem Cku {H : Hp} : ∀ b p o, Bqu H b = some (p, o) -> ∃ p', H b = some (p', o) /\ (p = true -> p' = true) := fun b p o h => by
 unfold Bqu at h
 simp only [Option.map_eq_some_iff, Prod.mk.injEq] at h
 obtain ⟨⟨p', o'⟩, h1, h2, h3⟩ := h
 simp only at h2 h3
 subst h2 h3
 exact ⟨p', h1, fun h => by cases h⟩
theorem Cks {H : Hp} : H.leS (Bqu H) := fun b p o h => ⟨false, Av4 h, fun h => by cases h⟩
theorem SmIn.cl {H H' : Hp} {dv hv nv : Value} {s : Sm} (h : SmIn H dv hv nv s) (hl : Bwo H H') : SmIn H' dv hv nv s :=
 ⟨h.dd.move fun x p c fr hx => hl x p c _ fr hx, SlI.cl h.hh hl, h.nn.move fun x p c fr hx => hl x p c _ fr hx⟩
theorem Awy (H : Hp) (s : Sm) (dv hv nv : Value) (hs : SmIn H dv hv nv s) (ok : SmOk s) :
  FnX Tryz.prog (.wg Tryz.prog) 60 #[smV s.places dv hv nv] H fun e H' => ∃ v, e = .returned v /\ SlT H' v (Axd s) /\ H.le H' := by
 obtain ⟨da, dc, ha, kc, na, nc, rfl, rfl, rfl, l1, l2, l3⟩ := hs.forms
 refine Aql func60 rfl ntmps60 (by simp) ?_
 (refine @unH _ (zA Av0 ?_); (try clear hK K); intro K hK hc)
 (intro vx hvx; generalize hG : Hp.set _ vx _ = H4; have lH4 := Aqc hG hvx; have vvx := Aqb hG; clear hG)
 have l04 := lH4
 clear hvx lH4
 (refine @unH _ (zU Av0 ?_); (try clear hK K); intro K hK hc)
 intro c hc0 tb htb
 replace htb : (Hp.set H4 c _) tb = none := htb
 generalize hG : Hp.set H4 c _ = H5 at htb ⊢
 have lH5 := Aqc hG hc0
 have vc5 := Aqb hG
 clear hG
 (refine @unH _ (zU (aN Av0 @cells_chan) ?_); (try clear hK K); intro K hK hc)
 intro wg hwg
 replace hwg : (Hp.set H5 tb (.cells #[.chan (some c)] 134 (0, 0))) wg = none := hwg
 generalize hG : Hp.set H5 tb _ = H6 at hwg ⊢
 have lH6 := Aqc hG htb
 have vtb6 := Aqb hG
 clear hG
 have vc6 := lH6 _ _ vc5
 have nct : c ≠ tb := Aqq vc5 htb
 have l46 := Hp.le_trans lH5 lH6
 have h4c := hc0
 have h4tb : H4 tb = none := Hp.le_none lH5 htb
 clear lH5 lH6 vc5 hc0 htb
 generalize hG : Hp.set H6 wg _ = H8
 have lH8 := Aqc hG hwg
 have vwg := Aqb hG
 clear hG
 have vwg8 : H8 wg = some (true, wgO lk.tWg 0 0) := vwg
 have vc8 := lH8 _ _ vc6
 have vtb8 := lH8 _ _ vtb6
 have l48 := Hp.le_trans l46 lH8
 have l08 := Hp.le_trans l04 l48
 have ncw : c ≠ wg := Aqq vc6 hwg
 have ntw : tb ≠ wg := Aqq vtb6 hwg
 have n4 : ∀ b x, H4 b = some x -> b ≠ c /\ b ≠ tb /\ b ≠ wg := fun b x hx => ⟨Aqq hx h4c, Aqq hx h4tb, Aqq (l46 _ _ hx) hwg⟩
 have vvx8 := l48 _ _ vvx
 obtain ⟨nvc, nvt, nvw⟩ := n4 _ _ vvx
 have n0 : ∀ b x, H b = some x -> b ≠ c /\ b ≠ wg := fun b x hx => ⟨(n4 _ _ (l04 _ _ hx)).1, (n4 _ _ (l04 _ _ hx)).2.2⟩
 clear vwg lH8 hwg vc6 vtb6 l46 vvx n4 h4c h4tb l48
 refine hK _ _ ?_
 clear hK K
 (try refine @unH _ (zQ ?_))
 refine Bwm ?_
 refine Cjg (fun e => e 1 = .pointer (some ⟨vx, 0, none⟩) /\ e 3 = .pointer (some ⟨tb, 0, none⟩) /\ e 4 = .pointer (some ⟨wg, 0, none⟩)) ⟨rfl, rfl, rfl⟩ ?_
 rintro e ⟨e1, e3, e4⟩
 refine Dz0 (fun b => ∃ o, H8 b = some (true, o)) vc8 vwg8 (fun _ h => h) ?_
 have hdel : ∀ b, b ≠ c -> b ≠ wg -> ((H8.del c).del wg) b = H8 b := fun b hb hb2 => by unfold Hp.del; rw [if_neg hb2, if_neg hb]
 have hCwg : ((H8.del c).del wg) wg = none := Hp.del_same _ _
 have hCle : H.le ((H8.del c).del wg) := fun x u hx => by rw [hdel x (n0 _ _ hx).1 (n0 _ _ hx).2]; exact l08 _ _ hx
 have vvxC := (hdel vx nvc nvw).trans vvx8
 have vtbC := (hdel tb nct.symm ntw).trans vtb8
 generalize (H8.del c).del wg = C at *
 clear vvx8 vtb8 vc8 vwg8 hdel
 refine Az4 (Az4 (Avy ?_))
 (refine @unH _ (zA Av0 ?_); (try clear hK K); intro K hK hc)
 refine Bze (Cxw (fun w γ a' H' => ∃ e i, w = s.hampers.length - i /\ i <= s.hampers.length /\ γ = .busy c wg lk.tWg i 0 ((List.range i).reverse.map (trV s)) false (fun b => ∃ o, H8 b = some (true, o)) /\ a' = act 33 e [] /\
  e 1 = .pointer (some ⟨vx, 0, none⟩) /\ e 3 = .pointer (some ⟨tb, 0, none⟩) /\ e 4 = .pointer (some ⟨wg, 0, none⟩) /\ e 11 = .int .i64 s.hampers.length /\ e 12 = .int .i64 (i : Nat) /\ C.leS H') (n := s.hampers.length) ?_ ?_)
 ·exact ⟨_, 0, by omega, by omega, rfl, rfl, e1, e3, e4, rfl, rfl, Hp.leS.refl⟩
 ·have hs0 := hs
  clear e1 e3 e4 hs
  rintro w γ a' H9 ⟨e, i, rfl, hi, rfl, rfl, e1, e3, e4, e11, e12, lS9⟩
  refine Az4 (Avy ?_)
  (refine @unH _ (zA Av0 ?_); (try clear hK K); intro K hK hc)
  refine Az4 (Ay8 (by simp only [Aq6, Axg, Nat.reduceEqDiff, Nat.reduceLT, ↓reduceIte, *]; rfl) ?_ ?_) <;> intro hc
  ·have hlt : i < s.hampers.length := by simpa using hc
   clear hc
   refine Cxx ?_
   (try refine @unH _ (zQ ?_))
   refine Az4 (Bze (Az4 (Avy ?_)))
   (refine @unH _ (zA Av0 ?_); (try clear hK K); intro K hK hc)
   intro pb hpb
   (refine @unH _ (zU Av0 ?_); (try clear hK K); intro K hK hc)
   obtain ⟨H10, hG⟩ : ∃ H10, H10 = H9.set pb (.cells #[.int .i64 i] 3 (0, 0)) := ⟨_, rfl⟩
   rw [<- hG]
   have vpb := Aqb hG.symm
   have lS10 : C.leS H10 := by rw [hG]; exact lS9.set (Bj9 lS9 hpb)
   have hn3 := ok.h1
   clear hG lS9 hpb
   refine Az4 (Ak6 (Cy0 wgLib rfl rfl rfl (by rw [Aq6 (by decide)]; exact e4) rfl (by omega) (Bkf ?_)))
   show wpV _ _ _ _ ((act 33 _ []).put (some 15) _) _
   rw [Aq0 (by decide)]
   have hcl : Bwo H (Bqu H10) := fun b p c t fr hb => by
    obtain ⟨p', h1, _⟩ := lS10 _ _ _ (hCle _ _ hb)
    exact ⟨false, Av4 h1⟩
   have hfix : ∀ b p c t fr, C b = some (p, .cells c t fr) -> (Bqu H10) b = some (false, .cells c t fr) := fun b p c t fr hb => by
    obtain ⟨p', h1, _⟩ := lS10 _ _ _ hb
    exact Av4 h1
   have hch := Bwd (Bqu H10) c wg tb vx pb s _ _ _ i _ (hfix _ _ _ _ _ vvxC) (Av4 vpb) (hfix _ _ _ _ _ vtbC) (hs0.cl hcl) ok (List.getElem?_eq_getElem hlt)
   refine Ak6 (Bvv rfl rfl (Av9 (K := fun a' H' => ∃ e', a' = act 33 e' [] /\ H10 = H' /\ e' 16 = .func (.func 76) #[] #[.pointer (some ⟨wg, 0, none⟩), .pointer (some ⟨tb, 0, none⟩), .pointer (some ⟨vx, 0, none⟩), .pointer (some ⟨pb, 0, none⟩)] /\
    e' 1 = .pointer (some ⟨vx, 0, none⟩) /\ e' 3 = .pointer (some ⟨tb, 0, none⟩) /\ e' 4 = .pointer (some ⟨wg, 0, none⟩) /\ e' 11 = .int .i64 s.hampers.length /\ e' 12 = .int .i64 (i : Nat)) ?_ ?_))
   ·unfold opX
    change wpS _ (execOp _ ⟨some 16, .makeFunc (.func 76) #[] #[.tmp 4, .tmp 3, .tmp 1, .tmp 5], _, _, _, _⟩) _ _ _
    rw [Awn]
    refine ⟨_, Aq0 (by decide), rfl, ?_, e1, e3, e4, e11, e12⟩
    simp only [Axg, ↓reduceIte, List.map_toArray, List.map_cons, List.map_nil, Aq6, Nat.reduceLT, Nat.reduceEqDiff, e1, e3, e4]
   ·clear e1 e3 e4 e11 e12
    rintro _ _ ⟨e', rfl, rfl, e16, e1, e3, e4, e11, e12⟩
    refine Dzq rfl rfl (fun w hw => Ckr (by rw [Aq6 (by decide)]; exact e16) w) rfl Czn Cku hch (Bkf ?_)
    show blk 1 _ .normal (act 33 e' []) _
    (try refine @unH _ (zQ ?_))
    refine Avy ?_
    have hle10 := lS10.trans Cks
    generalize Bqu H10 = H11 at *
    clear hch hfix hcl vpb lS10
    (refine @unH _ (zA Av0 ?_); (try clear hK K); intro K hK hc)
    refine ⟨_, by omega, _, i + 1, rfl, hlt, ?_, rfl, e1, e3, e4, e11, rfl, hle10⟩
    rw [List.range_succ, List.reverse_append]
    rfl
  ·have hge : ¬ i < s.hampers.length := by simpa using hc
   obtain rfl : i = s.hampers.length := by omega
   refine Cxv ?_
   (try refine @unH _ (zQ ?_))
   exact Cqg H H8 C H9 c wg tb vx s ok _ rfl _ _ ha kc _ e1 e3 e4 lS9 hCle l08 vtbC vvxC hCwg
end Go.Proofs.YtnfnaehonkbknaaGreatDoor
end
section
namespace Go.X
open Go
theorem Czq {P : Program} {H : Hp} {t e : TypeId} {N : Nat} {d : TypeDesc} (hu : P.underlying t = some (.array N e)) (hue : P.underlying e = some d) (hd : aggB d = true) {n : Nat} (hs : ∀ w, (sizeOf e).run P w = .ok n w) (cs : Array Value) (k : IntKind) (i : Int) (K : Value -> Hp -> Prop) (E : Value -> Hp -> Prop) (h0 : 0 <= i) (h1 : i < N) :
  wpS P (Instr.index t (.agg cs) (.int k i)) H K E = K (.agg (cs.extract (i.toNat * n) (i.toNat * n + n))) H := by
 unfold Instr.index
 rw [Aqa]
 simp only [asIntOf, Aqd]
 simp only [Aqa, Aqh hu, Aqd, h0, h1, and_self, if_true, Aqw hs, Bq7 hue hd hs]
theorem Czr {P : Program} {H : Hp} {t e : TypeId} {N : Nat} {d : TypeDesc} (hu : P.underlying t = some (.array N e)) (hue : P.underlying e = some d) (hd : aggB d = false) (hs : ∀ w, (sizeOf e).run P w = .ok 1 w) (cs : Array Value) (k : IntKind) (i : Int) (K : Value -> Hp -> Prop) (E : Value -> Hp -> Prop) (h0 : 0 <= i) (h1 : i < N) :
  wpS P (Instr.index t (.agg cs) (.int k i)) H K E = ∃ v, cs[i.toNat]? = some v /\ K v H := by
 unfold Instr.index
 rw [Aqa]
 simp only [asIntOf, Aqd]
 simp only [Aqa, Aqh hu, Aqd, h0, h1, and_self, if_true, Aqw hs, Nat.mul_one]
 cases hc : cs[i.toNat]? with
 | some v => rw [Aqk hue hd cs _ hc]; simp
 | none =>
  unfold part
  rw [Aqa, Akf hue, hd]
  simp [hc]
  exact fun h => h
end Go.X
namespace Go.Proofs.YtnfnaehonkbknaaGreatDoor
open Go Go.X Go.Proofs.Tryz
def Avi := aN (fun H => Axe (H := H) underlying83) (aN @Dyc (aN @Dwh (aN @Dwy (aN @Dwq (aN @Dvk (aN (fun H => Aqn (H := H) underlying125 rfl sizeOf125) (aN (fun H => Czq (H := H) underlying125 underlying93 rfl sizeOf93) (aN (fun H => Aqs (H := H) (P := Tryz.prog) (h := zeroValue93)) (aN (fun H => Aqr (H := H) sizeOf93) (aN @Dv3 (aN @Dwd (aN @Dvj (aN @Dwc @Dwo)))))))))))))
def Bkv := aN @Dw2 (aN @Dyi (aN @Ayv @Dwc))
def Bky := aN @Dv4 (aN @Dwo (aN @Dwc @Dyi))
theorem Bv9 {H : Hp} {b : Nat} {l : List Value} {c : Array Value} {e : TypeId} {K : Hp -> Prop} (hl : l ≠ []) (h1 : l.all one = true) (hb : H b = some (true, .cells c e (0, 0))) (hs : c.size = l.length) : Akd H b 0 l K = K (H.set b (.cells l.toArray e (0, 0))) := by
 rw [Aj5 (c := c) (e := e) hl hb]
 have ho : over c 0 l = l.toArray := by
  obtain ⟨l'⟩ := c
  exact Ayj (by simpa using hs.symm)
 rw [ho, h1]
 simp [hs]
theorem SlT.get {H : Hp} {a : Option Addr} {n cap : Nat} {l : List Trail} (h : SlT H (.slice a n cap) l) {i : Nat} {t : Trail} (hi : l[i]? = some t) :
  ∃ b o p c fr, a = some ⟨b, o, none⟩ /\ H b = some (p, .cells c 127 fr) /\ o + i * 326 + 326 <= c.size /\ c.extract (o + i * 326) (o + i * 326 + 326) = (Aq4 t).toArray := by
 obtain ⟨b, o, p, c, fr, h1, h2, h3, h4, h5⟩ := SlG.get h (i := i) (r := Aq4 t) (by simp [hi])
 exact ⟨b, o, p, c, fr, h1, h2, h3, h5⟩
theorem SlT.isSlice {H : Hp} {v : Value} {l : List Trail} (h : SlT H v l) : ∃ a cap, v = .slice a l.length cap /\ l.length <= cap := by
 obtain ⟨a, cap, h1, h2, _⟩ := h
 exact ⟨a, cap, by simpa using h1, by simpa using h2⟩
theorem SlT.move {H H' : Hp} {v : Value} {l : List Trail} (h : SlT H v l) (hl : ∀ x p c fr, H x = some (p, .cells c 127 fr) -> ∃ p', H' x = some (p', .cells c 127 fr)) : SlT H' v l := SlG.move h hl
theorem SlT.le {H H' : Hp} {v : Value} {l : List Trail} (h : SlT H v l) (hl : H.le H') : SlT H' v l := SlG.le h hl
theorem Cyo {t : Trail} (ht : Axw t) {h : Nat} {x : Hint} (hx : t.hs[h]? = some x) : ((Aq4 t).toArray.extract 1 326).extract (h * 25) (h * 25 + 25) = (Axn x).toArray := by
 have hr := HR.refl ht hx
 have hh : h < 13 := by have := (List.getElem?_eq_some_iff.1 hx).1; rw [ht.l] at this; exact this
 have hl := Axm ht
 have hxl := Axs (ht.k x (List.mem_of_getElem? hx))
 rw [Array.extract_extract]
 apply Array.ext_getElem?
 intro k
 by_cases hk : k < 25
 ·rw [Array.getElem?_extract, if_pos (by simp [hl]; omega), hr.inn k hk]
  simp
 ·rw [Array.getElem?_eq_none (by rw [Array.size_extract]; simp [hl]; omega), Array.getElem?_eq_none (by simp; omega)]
structure HCl (P : Program) (main : Md) (y : Value) (A : Int -> Int -> Hint -> Prop) (S : Nat -> Prop) (T : List (Int × Int × Hint) -> Hp -> Prop) : Prop where
 keep : ∀ L H H', T L H -> H.le H' -> T L H'
 ex : ∀ L H b, T L H -> S b -> H b ≠ none
 call : ∀ L H ham hour x, T L H -> Axi x -> A ham hour x -> Ajd P main y #[.int .i64 ham, .int .i64 hour, .agg (Axn x).toArray] H fun e H' => e = .returned (.tuple #[]) /\ T (L ++ [(ham, hour, x)]) H' /\ ∀ b x, ¬ S b -> H b = some x -> H' b = some x
def Avg (t : Trail) (n : Nat) : List (Int × Int × Hint) := (((t.hs.take n).zipIdx).filter fun x => x.1.some).map fun x => (t.ham, (x.2 : Int), x.1)
theorem Cjb {t : Trail} {n : Nat} {x : Hint} (hx : t.hs[n]? = some x) : Avg t (n + 1) = Avg t n ++ if x.some then [(t.ham, (n : Int), x)] else [] := by
 have hn : n < t.hs.length := (List.getElem?_eq_some_iff.1 hx).1
 unfold Avg
 rw [List.take_add_one, hx, Option.toList_some, List.zipIdx_append, List.filter_append, List.map_append]
 congr 1
 have hl : (t.hs.take n).length = n := by rw [List.length_take]; omega
 rw [hl]
 cases hs : x.some with
 | true => simp [hs]
 | false => simp [hs]
theorem Cvy {t : Trail} {n : Nat} (h : t.hs.length <= n) : Avg t n = Ayo t := by
 unfold Avg Ayo
 rw [List.take_of_length_le h]
theorem Cja (l : List Trail) {k : Nat} {t : Trail} (h : l[k]? = some t) : Azj (l.take (k + 1)) = Azj (l.take k) ++ Ayo t := by
 unfold Azj
 rw [List.take_add_one, h, Option.toList_some, List.flatMap_append]
 simp
theorem Av6 (main : Md) {A : Int -> Int -> Hint -> Prop} {S : Nat -> Prop} {T : List (Int × Int × Hint) -> Hp -> Prop} {yf : Fn} {yi yc : Array Value} (hC : HCl Tryz.prog main (.func yf yi yc) A S T) (H : Hp) (v : Value) (l : List Trail) (hrd : ∀ L H', T L H' -> (∀ b x, ¬ S b -> H b = some x -> H' b = some x) -> SlT H' v l) (hok : ∀ t ∈ l, Axw t) (hA : ∀ t ∈ l, ∀ (h : Nat) x, t.hs[h]? = some x -> x.some = true -> A t.ham h x) (hl : l.length <= 1000) (L0 : List (Int × Int × Hint)) (hT : T L0 H) :
  FnX Tryz.prog main 44 #[v, .func yf yi yc] H fun e H' => e = .returned (.tuple #[]) /\ T (L0 ++ Azj l) H' /\ ∀ b x, ¬ S b -> H b = some x -> H' b = some x := by
 have hv := hrd _ _ hT fun _ _ _ hx => hx
 obtain ⟨a, cap, rfl, hcap⟩ := hv.isSlice
 clear hv
 refine Aql func44 rfl ntmps44 (by simp) ?_
 (refine @unH _ (zA Avi ?_); (try clear hK K); intro K hK hc)
 refine Axh (fun w a' H' => ∃ e, ∃ k : Nat, w = l.length - k /\ k <= l.length /\ a' = act 30 e [] /\ e 1 = .func yf yi yc /\ e 8 = .slice a l.length cap /\ e 9 = .int .i64 l.length /\ e 10 = .int .i64 (k : Nat) /\ T (L0 ++ Azj (l.take k)) H' /\ ∀ b x, ¬ S b -> H b = some x -> H' b = some x) (n := l.length) ?_ ?_
 ·exact ⟨_, 0, by omega, by omega, rfl, rfl, rfl, rfl, rfl, by simpa [Azj] using hT, fun _ _ _ hx => hx⟩
 ·rintro w a' H1 ⟨e, k, rfl, hk, rfl, e1, e8, e9, e10, hT1, hfr1⟩
  by_cases hlt : k < l.length
  ·have hkt := List.getElem?_eq_getElem hlt
   have htok := hok _ (List.getElem_mem hlt)
   have htA := hA _ (List.getElem_mem hlt)
   generalize l[k] = t at *
   obtain ⟨b, o, p, c, fr, rfl, hb1, hcs, hce⟩ := (hrd _ _ hT1 hfr1).get hkt
   have hsu := Cja l hkt
   have hTl := Axm htok
   have hTone : (Aq4 t).all one = true := by rw [List.all_eq_true]; exact Ay6 t
   have hTne : Aq4 t ≠ [] := fun h => by rw [h] at hTl; simp at hTl
   have hT0 : (Aq4 t)[0]? = some (.int .i64 t.ham) := rfl
   have hho := fun (i : Nat) (x : Hint) hx => Cyo htok (h := i) (x := x) hx
   have hTx : ∀ i, i <= 13 -> ((Aq4 t).toArray.extract 1 326).size = 325 := fun i _ => by rw [Array.size_extract]; simp [hTl]
   generalize Aq4 t = TC at *
   replace hsu : Aqo _ := hsu
   replace hT1 : Aqo _ := hT1
   replace hfr1 : Aqo _ := hfr1
   (refine @unH _ (zA Avi ?_); (try clear hK K); intro K hK hc)
   intro xb hxb
   rw [Bv9 hTne hTone Axp (by rw [hTl]; rfl), Awv]
   have nSx : ¬ S xb := fun h => hC.ex _ _ _ hT1 h hxb
   have h0xb : H xb = none := by
    cases h : H xb with
    | none => rfl
    | some z => have := (show ∀ b x, ¬ S b -> H b = some x -> H1 b = some x from hfr1) _ _ nSx h; rw [hxb] at this; cases this
   generalize hG : Hp.set H1 xb _ = H2
   have vxb := Aqb hG
   have hT2 : T (L0 ++ Azj (l.take k)) H2 := hC.keep _ _ _ hT1 (Aqc hG hxb)
   have hfr2 : ∀ b x, ¬ S b -> H b = some x -> H2 b = some x := fun b x hb hx => Aqf hG ((show ∀ b x, ¬ S b -> H b = some x -> H1 b = some x from hfr1) b x hb hx) (fun e => by rw [e, h0xb] at hx; cases hx)
   clear hG hb1 hcs hce hxb hT1 hfr1
   refine hK _ _ ?_
   clear hK K
   (try refine @unH _ (zQ ?_))
   (refine @unH _ (zA Avi ?_); (try clear hK K); intro K hK hc)
   obtain ⟨AA, hAA⟩ : ∃ AA, AA = TC.toArray.extract 1 326 := ⟨_, rfl⟩
   have hAv : Value.agg (TC.toArray.extract 1 326) = .agg AA := by rw [hAA]
   rw [<- hAA] at hho
   replace hAA : Aqo _ := hAA
   refine Axh (fun w a' H' => ∃ e, ∃ h : Nat, w = 13 - h /\ h <= 13 /\ a' = act 30 e [] /\ e 1 = .func yf yi yc /\ e 5 = .pointer (some ⟨xb, 0, none⟩) /\ e 8 = .slice (some ⟨b, o, none⟩) l.length cap /\ e 9 = .int .i64 l.length /\ e 10 = .int .i64 (k : Nat) /\ e 15 = .agg AA /\ e 16 = .int .i64 (h : Nat) /\ T (L0 ++ (Azj (l.take k) ++ Avg t h)) H' /\ (∀ b x, ¬ S b -> H b = some x -> H' b = some x) /\ H' xb = some (true, .cells TC.toArray 127 (0, 0))) (n := 13) ?_ ?_
   ·refine ⟨_, 0, by omega, by omega, rfl, e1, rfl, e8, e9, e10, ?_, rfl, by simpa [Avg] using hT2, hfr2, vxb⟩
    rw [<- hAv, List.extract_toArray, List.extract_eq_take_drop]; rfl
   ·clear hAv hTx hT2 hfr2 vxb e1 e8 e9 e10
    rintro w a' H3 ⟨e, h, rfl, hh, rfl, e1, e5, e8, e9, e10, e15, e16, hT3, hfr3, vx3⟩
    by_cases hh13 : h < 13
    ·obtain ⟨x, hx⟩ : ∃ x, t.hs[h]? = some x := ⟨_, List.getElem?_eq_getElem (by rw [htok.l]; exact hh13)⟩
     have hxo := htok.k x (List.mem_of_getElem? hx)
     have hxe := hho h x hx
     have hsn := Cjb hx
     have hHl := Axs hxo
     have hHone : (Axn x).all one = true := by rw [List.all_eq_true]; exact Bxo x
     have hHne : Axn x ≠ [] := fun h => by rw [h] at hHl; simp at hHl
     have hH24 := Cxc hxo
     have hcall := fun H' hT' hs' => hC.call (L0 ++ (Azj (l.take k) ++ Avg t h)) H' t.ham h x hT' hxo (htA h x hx hs')
     have hHx : (Axn x).toArray.extract 0 25 = (Axn x).toArray := by
      rw [List.extract_toArray, List.extract_eq_take_drop, List.drop_zero, List.take_of_length_le (by omega)]
     generalize Axn x = HC at *
     replace hsn : Aqo _ := hsn
     replace hT3 : Aqo _ := hT3
     replace hfr3 : Aqo _ := hfr3
     replace hcall : Aqo _ := hcall
     clear hho
     (refine @unH _ (zA Avi ?_); (try clear hK K); intro K hK hc)
     intro yb hyb
     have nxy := Aqq vx3 hyb
     have nSy : ¬ S yb := fun h => hC.ex _ _ _ hT3 h hyb
     have h0yb : H yb = none := by
      cases h : H yb with
      | none => rfl
      | some z => have := (show ∀ b x, ¬ S b -> H b = some x -> H3 b = some x from hfr3) _ _ nSy h; rw [hyb] at this; cases this
     rw [Bv9 hHne hHone Axp (by rw [hHl]; rfl), Awv]
     generalize hG : Hp.set H3 yb _ = H4
     have vyb := Aqb hG
     have vx4 := Aqf hG vx3 nxy
     have hT4 : Aqo (T (L0 ++ (Azj (l.take k) ++ Avg t h)) H4) := hC.keep _ _ _ hT3 (Aqc hG hyb)
     have hfr4 : Aqo (∀ b x, ¬ S b -> H b = some x -> H4 b = some x) := fun b x hb hx => Aqf hG ((show ∀ b x, ¬ S b -> H b = some x -> H3 b = some x from hfr3) b x hb hx) (fun e => by rw [e, h0yb] at hx; cases hx)
     clear hG hyb hT3 hfr3 hxe vx3
     refine hK _ _ ?_
     clear hK K
     (try refine @unH _ (zQ ?_))
     cases hxs : x.some with
     | false =>
      rw [hxs] at hH24 hsn
      replace hsn : Aqo (Avg t (h + 1) = Avg t h) := show Avg t (h + 1) = Avg t h from Eq.trans hsn (by simp)
      (refine @unH _ (zA Avi ?_); (try clear hK K); intro K hK hc)
      exact ⟨_, by omega, _, h + 1, rfl, by omega, rfl, e1, e5, e8, e9, e10, e15, rfl, by rw [show Avg t (h + 1) = _ from hsn]; exact hT4, hfr4, vx4⟩
     | true =>
      rw [hxs] at hH24 hsn
      replace hsn : Aqo (Avg t (h + 1) = Avg t h ++ [(t.ham, (h : Int), x)]) := show Avg t (h + 1) = Avg t h ++ [(t.ham, (h : Int), x)] from Eq.trans hsn (by simp)
      (refine @unH _ (zA Avi ?_); (try clear hK K); intro K hK hc)
      refine Ajd.use ((show ∀ H', T _ H' -> x.some = true -> _ from hcall) H4 hT4 hxs) ?_
      rintro _ H5 ⟨rfl, hT5, hfr5⟩
      have vx5 := hfr5 _ _ nSx vx4
      replace hT5 : Aqo _ := hT5
      replace hfr5 : Aqo _ := hfr5
      clear hcall vyb vx4
      (refine @unH _ (zU Avi ?_); (try clear hK K); intro K hK hc)
      refine ⟨_, by omega, _, h + 1, rfl, by omega, rfl, e1, e5, e8, e9, e10, e15, rfl, ?_, fun b x hb hx => (show ∀ b x, ¬ S b -> H4 b = some x -> H5 b = some x from hfr5) b x hb ((show ∀ b x, ¬ S b -> H b = some x -> H4 b = some x from hfr4) b x hb hx), vx5⟩
      rw [show Avg t (h + 1) = _ from hsn, <- List.append_assoc (Azj _), <- List.append_assoc L0]
      exact hT5
    ·obtain rfl : h = 13 := by omega
     rw [Cvy (by rw [htok.l]; exact Nat.le_refl _), <- show Azj (l.take (k + 1)) = _ from hsu] at hT3
     replace hT3 : Aqo _ := hT3
     replace hfr3 : Aqo _ := hfr3
     (refine @unH _ (zA Avi ?_); (try clear hK K); intro K hK hc)
     exact ⟨_, by omega, _, k + 1, rfl, by omega, rfl, e1, e8, e9, rfl, hT3, hfr3⟩
  ·obtain rfl : k = l.length := by omega
   rw [List.take_length] at hT1
   replace hT1 : Aqo _ := hT1
   replace hfr1 : Aqo _ := hfr1
   (refine @unH _ (zA Avi ?_); (try clear hK K); intro K hK hc)
   (refine @unH _ ?_; refine zD results44 ?_)
   exact ⟨rfl, hT1, hfr1⟩
def IsF (P : Program) (main : Md) (H : Hp) (v : Value) (q : Hint -> Bool) : Prop := ∀ (H' : Hp) (x : Hint), H.le H' -> Axi x -> Ajd P main v #[.agg (Axn x).toArray] H' fun e H'' => e = .returned (.bool (q x)) /\ H'.le H''
def cntL (q : Hint -> Bool) (L : List (Int × Int × Hint)) : Nat := (L.filter fun x => q x.2.2).length
theorem Cj9 (q : Hint -> Bool) (L : List (Int × Int × Hint)) (x : Int × Int × Hint) : cntL q (L ++ [x]) = cntL q L + if q x.2.2 then 1 else 0 := by
 unfold cntL
 rw [List.filter_append, List.length_append]
 congr 1
 by_cases h : q x.2.2 <;> simp [h]
theorem Dx7 (q : Hint -> Bool) (L : List (Int × Int × Hint)) : cntL q L <= L.length := List.length_filter_le _ _
theorem Bzb : ∀ (l : List Trail), (∀ t ∈ l, Axw t) -> (Azj l).length <= 13 * l.length
 | [], _ => by simp [Azj]
 | t :: l, h => by
  have h1 := Bzb l (fun x hx => h x (List.mem_cons_of_mem _ hx))
  have h2 : (Ayo t).length <= 13 := by
   unfold Ayo
   rw [List.length_map]
   refine Nat.le_trans (List.length_filter_le _ _) ?_
   rw [List.length_zipIdx, (h t List.mem_cons_self).l]
   exact Nat.le_refl _
  unfold Azj at *
  rw [List.flatMap_cons, List.length_append, List.length_cons]
  omega
theorem Cjo (main : Md) (H : Hp) (x : Hint) (hx : Axi x) :
  FnX Tryz.prog main 52 #[.agg (Axn x).toArray] H fun e H' => e = .returned (.bool true) /\ H.le H' := by
 refine Aql func52 rfl ntmps52 (by simp) ?_
 (refine @unH _ (zA trivial ?_); (try clear hK K); intro K hK hc)
 (intro b hb; generalize hG : Hp.set _ b _ = H1; have lH1 := Aqc hG hb; have vb := Aqb hG; clear hG)
 (refine @unH _ (zU trivial ?_); (try clear hK K); intro K hK hc)
 (refine @unH _ ?_; refine z9 results52 ?_)
 exact ⟨trivial, lH1⟩
theorem Cyp {main : Md} {H : Hp} {f : FuncId} {q : Hint -> Bool} (hc : ∀ (args : Array Value) (H : Hp) (K : Next -> Hp -> Prop) (E : Value -> Hp -> Prop), wpS Tryz.prog (callFunc f args) H K E = K (.enter f args) H) (h : ∀ H' x, H.le H' -> Axi x -> FnX Tryz.prog main f #[.agg (Axn x).toArray] H' fun e H'' => e = .returned (.bool (q x)) /\ H'.le H'') :
  IsF Tryz.prog main H (.func (.func f) #[] #[]) q := fun H' x hl hx K E h1 _ => by
 show wpS Tryz.prog (callFunc f (#[] ++ #[.agg (Axn x).toArray] ++ #[])) H' K E
 rw [hc]
 exact h1 _ _ _ (h H' x hl hx).runs
theorem Ajd.fn {P : Program} {main : Md} {f : FuncId} {fi cap args : Array Value} {H : Hp} {R : Ending -> Hp -> Prop} (hc : ∀ (args : Array Value) (H : Hp) (K : Next -> Hp -> Prop) (E : Value -> Hp -> Prop), wpS P (callFunc f args) H K E = K (.enter f args) H) (h : FnX P main f (fi ++ args ++ cap) H R) : Ajd P main (.func (.func f) fi cap) args H R := fun K E h1 _ => by
 rw [Bzx, hc]
 exact h1 _ _ _ h.runs
theorem Akl {x : Hint} (h : Axi x) : (Axn x).toArray.extract 0 25 = (Axn x).toArray := by
 have := Axs h
 rw [List.extract_toArray, List.extract_eq_take_drop, List.drop_zero, List.take_of_length_le (by omega)]
theorem Byg (main : Md) (H : Hp) (fb nb : Nat) (yf : Fn) (yi yc : Array Value) (z : Int) (x : Hint) (hx : Axi x) (ham hour : Int) (r : Bool) (vf : H fb = some (true, .cells #[.func yf yi yc] 101 (0, 0))) (vn : H nb = some (true, .cells #[.int .i64 z] 3 (0, 0)))
  (hq : ∀ H', H.le H' -> Ajd Tryz.prog main (.func yf yi yc) #[.agg (Axn x).toArray] H' fun e H'' => e = .returned (.bool r) /\ H'.le H'') :
  FnX Tryz.prog main 73 #[.int .i64 ham, .int .i64 hour, .agg (Axn x).toArray, .pointer (some ⟨fb, 0, none⟩), .pointer (some ⟨nb, 0, none⟩)] H fun e H' => e = .returned (.tuple #[]) /\ H' nb = some (true, .cells #[.int .i64 (if r then IntKind.i64.wrap (z + 1) else z)] 3 (0, 0)) /\ ∀ b x, b ≠ nb -> H b = some x -> H' b = some x := by
 have hl := Axs hx
 have hex := Akl hx
 generalize Axn x = HC at *
 refine Aql func73 rfl ntmps73 (by simp) ?_
 (refine @unH _ (zA Bky ?_); (try clear hK K); intro K hK hc)
 (intro b hb; generalize hG : Hp.set _ b _ = H1; have lH1 := Aqc hG hb; have vb := Aqb hG; clear hG)
 have vf1 := lH1 _ _ vf
 have vn1 := lH1 _ _ vn
 (refine @unH _ (zU Bky ?_); (try clear hK K); intro K hK hc)
 refine Ajd.use (hq H1 lH1) ?_
 rintro _ H2 ⟨rfl, l2⟩
 have vn2 := l2 _ _ vn1
 have l02 := Hp.le_trans lH1 l2
 clear hq vf1 vn1 vb hex
 cases r with
 | true =>
  (refine @unH _ (zU Bky ?_); (try clear hK K); intro K hK hc)
  (refine @unH _ ?_; refine zD results73 ?_)
  exact ⟨by trivial, Axp, fun b x hb hx => by rw [Aqv hb]; exact l02 _ _ hx⟩
 | false =>
  (refine @unH _ (zU Bky ?_); (try clear hK K); intro K hK hc)
  (refine @unH _ ?_; refine zD results73 ?_)
  exact ⟨by trivial, vn2, fun b x hb hx => l02 _ _ hx⟩
theorem Avu (main : Md) (H : Hp) (v : Value) (l : List Trail) (hv : SlT H v l) (hok : ∀ t ∈ l, Axw t) (hl : l.length <= 1000) (yf : Fn) (yi yc : Array Value) (q : Hint -> Bool) (hq : IsF Tryz.prog main H (.func yf yi yc) q) :
  FnX Tryz.prog main 51 #[v, .func yf yi yc] H fun e H' => e = .returned (.int .i64 (cntL q (Azj l) : Nat)) /\ H.le H' := by
 refine Aql func51 rfl ntmps51 (by simp) ?_
 (refine @unH _ (zA (aN Bkv @cells_func) ?_); (try clear hK K); intro K hK hc)
 (intro fb hfb; generalize hG : Hp.set _ fb _ = H1; have lH1 := Aqc hG hfb; have vfb := Aqb hG; clear hG)
 have h0fb := hfb
 have l1 := lH1
 clear hfb lH1
 (refine @unH _ (zU Bkv ?_); (try clear hK K); intro K hK hc)
 intro nb hnb
 have nfn := Aqq vfb hnb
 (refine @unH _ (zU Bkv ?_); (try clear hK K); intro K hK hc)
 generalize hG : Hp.set H1 nb _ = H2
 have vnb := Aqb hG
 have l2 := Hp.le_trans l1 (Aqc hG hnb)
 have vf2 := Aqf hG vfb nfn
 have h0nb : H nb = none := Hp.le_none l1 hnb
 clear hG hnb vfb l1
 have hn : ∀ b x, H2 b = some x -> H2 b ≠ none := fun b x h => by rw [h]; simp
 have hC : HCl Tryz.prog main (.func (.func 73) #[] #[.pointer (some ⟨fb, 0, none⟩), .pointer (some ⟨nb, 0, none⟩)]) (fun _ _ _ => True) (fun b => H2 b ≠ none) (fun L H' => (∃ z, H' nb = some (true, .cells #[.int .i64 z] 3 (0, 0)) /\ (L.length <= 100000 -> z = (cntL q L : Nat))) /\ ∀ b x, b ≠ nb -> H2 b = some x -> H' b = some x) := by
  refine ⟨?_, ?_, ?_⟩
  ·rintro L H' H'' ⟨⟨z, h1, hz⟩, h2⟩ hk
   exact ⟨⟨z, hk _ _ h1, hz⟩, fun b x hb hx => hk _ _ (h2 b x hb hx)⟩
  ·rintro L H' b ⟨⟨z, h1, hz⟩, h2⟩ hb
   by_cases e : b = nb
   ·subst e; rw [h1]; simp
   ·cases hx : H2 b with
    | none => exact absurd hx hb
    | some x => rw [h2 b x e hx]; simp
  ·rintro L H' ham hour x ⟨⟨z, h1, hz⟩, h2⟩ hxo _
   have hq' : ∀ H'', H'.le H'' -> Ajd Tryz.prog main (.func yf yi yc) #[.agg (Axn x).toArray] H'' fun e H3 => e = .returned (.bool (q x)) /\ H''.le H3 := fun H'' l => hq H'' x (fun b z hz => l _ _ (h2 b z (fun e => by rw [e, h0nb] at hz; cases hz) (l2 _ _ hz))) hxo
   refine Ajd.fn (fun _ _ => Dx2 _) ((Byg main H' fb nb yf yi yc z x hxo ham hour (q x) (h2 _ _ nfn vf2) h1 hq').mono ?_)
   rintro _ H3 ⟨rfl, h3, h4⟩
   refine ⟨rfl, ⟨⟨_, h3, fun hL => ?_⟩, fun b x hb hx => h4 b _ hb (h2 b x hb hx)⟩, fun b x hb hx => h4 b x (fun e => hb (by rw [e]; exact hn _ _ vnb)) hx⟩
   rw [List.length_append, List.length_singleton] at hL
   have h5 := hz (by omega)
   have h6 := Dx7 q L
   rw [Cj9]
   cases hqx : q x with
   | true =>
    simp only [hqx, if_true]
    rw [h5, w64 _ (by omega) (by omega)]
    simp
   | false =>
    simp only [hqx, Bool.false_eq_true, if_false]
    rw [h5]
    simp
 refine (Av6 main hC H2 v l (fun L H' h _ => hv.move fun x p c fr hx => ⟨p, h.2 x _ (fun e => by rw [e, h0nb] at hx; cases hx) (l2 _ _ hx)⟩) hok (fun _ _ _ _ _ _ => trivial) hl [] ⟨⟨0, vnb, fun _ => rfl⟩, fun _ _ _ hx => hx⟩).runs.mono ?_
 rintro _ H3 ⟨rfl, ⟨⟨z, h3, hz⟩, h4⟩, _⟩
 rw [List.nil_append] at hz
 obtain rfl := hz (by have := Bzb l hok; omega)
 clear hz
 have l3 : Aqo (H.le H3) := fun b x hx => h4 b x (fun e => by rw [e, h0nb] at hx; cases hx) (l2 _ _ hx)
 clear hC h4 hq hn
 generalize cntL q (Azj l) = z at *
 (refine @unH _ (zU Bkv ?_); (try clear hK K); intro K hK hc)
 (refine @unH _ ?_; refine z9 results51 ?_)
 exact ⟨trivial, l3⟩
theorem Ckx {main : Md} {y : Value} {A : Int -> Int -> Hint -> Prop} (H2 : Hp) (ob : Nat) (O : List (Int × Int × Hint) -> Obj) (vo : H2 ob = some (true, O []))
  (h : ∀ L H' ham hour x, H' ob = some (true, O L) -> (∀ b z, b ≠ ob -> H2 b = some z -> H' b = some z) -> Axi x -> A ham hour x -> Ajd Tryz.prog main y #[.int .i64 ham, .int .i64 hour, .agg (Axn x).toArray] H' fun e H'' => e = .returned (.tuple #[]) /\ H'' ob = some (true, O (L ++ [(ham, hour, x)])) /\ ∀ b z, b ≠ ob -> H' b = some z -> H'' b = some z) :
  HCl Tryz.prog main y A (fun b => H2 b ≠ none) (fun L H' => H' ob = some (true, O L) /\ ∀ b x, b ≠ ob -> H2 b = some x -> H' b = some x) := by
 have hn : ∀ b x, H2 b = some x -> H2 b ≠ none := fun b x h => by rw [h]; simp
 refine ⟨?_, ?_, ?_⟩
 ·rintro L H' H'' ⟨h1, h2⟩ hk
  exact ⟨hk _ _ h1, fun b x hb hx => hk _ _ (h2 b x hb hx)⟩
 ·rintro L H' b ⟨h1, h2⟩ hb
  by_cases e : b = ob
  ·subst e; rw [h1]; simp
  ·cases hx : H2 b with
   | none => exact absurd hx hb
   | some x => rw [h2 b x e hx]; simp
 ·rintro L H' ham hour x ⟨h1, h2⟩ hxo hA
  refine (h L H' ham hour x h1 h2 hxo hA).mono ?_
  rintro e H3 ⟨rfl, h3, h4⟩
  exact ⟨rfl, ⟨h3, fun b x hb hx => h4 b _ hb (h2 b x hb hx)⟩, fun b x hb hx => h4 b x (fun e => hb (by rw [e]; exact hn _ _ vo)) hx⟩
theorem Bxr (main : Md) {A : Int -> Int -> Hint -> Prop} {yf : Fn} {yi yc : Array Value} (H H2 : Hp) (v : Value) (l : List Trail) (hv : SlT H v l) (ob : Nat) (O : List (Int × Int × Hint) -> Obj) (l2 : H.le H2) (h0 : H ob = none) (vo : H2 ob = some (true, O []))
  (h : ∀ L H' ham hour x, H' ob = some (true, O L) -> (∀ b z, b ≠ ob -> H2 b = some z -> H' b = some z) -> Axi x -> A ham hour x -> Ajd Tryz.prog main (.func yf yi yc) #[.int .i64 ham, .int .i64 hour, .agg (Axn x).toArray] H' fun e H'' => e = .returned (.tuple #[]) /\ H'' ob = some (true, O (L ++ [(ham, hour, x)])) /\ ∀ b z, b ≠ ob -> H' b = some z -> H'' b = some z)
  (hok : ∀ t ∈ l, Axw t) (hA : ∀ t ∈ l, ∀ (h : Nat) x, t.hs[h]? = some x -> x.some = true -> A t.ham h x) (hl : l.length <= 1000) :
  FnX Tryz.prog main 44 #[v, .func yf yi yc] H2 fun e H' => e = .returned (.tuple #[]) /\ H' ob = some (true, O (Azj l)) /\ ∀ b x, b ≠ ob -> H2 b = some x -> H' b = some x :=
 (Av6 main (Ckx H2 ob O vo h) H2 v l (fun L H' h _ => hv.move fun x p c fr hx => ⟨p, h.2 x _ (fun e => by rw [e, h0] at hx; cases hx) (l2 _ _ hx)⟩) hok hA hl [] ⟨vo, fun _ _ _ hx => hx⟩).mono fun e H' ⟨h1, h2, _⟩ => ⟨h1, by simpa using h2.1, h2.2⟩
end Go.Proofs.YtnfnaehonkbknaaGreatDoor
end
