/- Texts SmFl SmW1 SmW SmW2 SmW3. -/
import Derived.Test.YtkcomnkgdifboaaGreatDoorJ17
set_option linter.defProp false
set_option linter.unusedSimpArgs false
set_option linter.unusedVariables false
set_option maxRecDepth 100000
set_option maxHeartbeats 2000000
section
namespace Go.X
open Go
open Go.Conc
section
variable {P : Program} {md : Md} {Stop : Goroutine -> Hp -> Prop} {ops : Array Oper} {s : Nat} {K : Act -> Hp -> Prop}
theorem Byr {n : Nat} {ds : List Deferred} (val : Nat -> Value) (I : (Nat -> Value) -> Prop) (S : Hp -> Prop) (hed : Dv2 ops = true) (hds : dstB ops = true) (hla : lastB ops s = true) (hsz : s < ops.size)
  (hI : ∀ i o d e, i ≠ s -> ops[i]? = some o -> o.dst = some d -> I e -> I (upd e d (val i)))
  (hstep : ∀ i o, ops[i]? = some o -> i ≠ s -> ∀ e H, I e -> (∀ x ∈ o.after, Region.binds .any x = true -> ∀ o' d, ops[x.on]? = some o' -> o'.dst = some d -> e d = val x.on) -> S H ->
   Region.wanted o (yielded ops (act n e ds).tmps) = true /\ ∃ d, o.dst = some d /\ opX P md none o (act n e ds) H (fun a' H' => a' = act n (upd e d (val i)) ds /\ S H') fun _ _ _ => False)
  (hend : ∀ o, ops[s]? = some o -> ∀ e H, I e -> (∀ x ∈ o.after, Region.binds .any x = true -> ∀ o' d, ops[x.on]? = some o' -> o'.dst = some d -> e d = val x.on) -> S H -> K (act n e ds) H) :
  ∀ (fuel t : Nat) (listed : Array Bool) (e : Nat -> Value) (H : Hp), left ops listed <= fuel -> listed.size = ops.size -> Closed ops listed -> listed.getD s false = false -> I e ->
   (∀ i o d, ops[i]? = some o -> listed.getD i false = true -> o.dst = some d -> e d = val i) -> S H -> runU P md ops s K (Region.linearise.go .any ops fuel t listed []) (act n e ds) H := by
 have hdep : ∀ j, j < ops.size -> j ≠ s -> Dep ops s j := fun j hj hne => by
  have h1 := List.all_eq_true.1 hla j (List.mem_range.2 hj)
  simp only [Bool.or_eq_true, beq_iff_eq, hne, false_or] at h1
  exact (Avp _ _ (fun y hy => by
   by_cases hys : s = y
   ·exact .inl hys.symm
   ·rw [getD_set_ne false hys] at hy
    by_cases hlt : y < ops.size <;> simp [Array.getD, hlt] at hy) j h1).resolve_left hne
 have hdst : ∀ (i j : Nat) (oi oj : Oper) (d : Tmp), ops[i]? = some oi -> ops[j]? = some oj -> oi.dst = some d -> oj.dst = some d -> i = j := fun i j oi oj d hi hj hdi hdj => by
  have hil := (Array.getElem?_eq_some_iff.1 hi).1
  have hjl := (Array.getElem?_eq_some_iff.1 hj).1
  have h1 := List.all_eq_true.1 (List.all_eq_true.1 hds i (List.mem_range.2 hil)) j (List.mem_range.2 hjl)
  simp only [hi, hj, Option.bind_some, hdi, hdj, Option.isNone_some, Bool.or_false, bne_self_eq_false, beq_iff_eq] at h1
  exact h1
 have hon : ∀ (i : Nat) (o : Oper), ops[i]? = some o -> ∀ x ∈ o.after, Region.binds .any x = true -> x.on < i := fun i o hi x hx hb => by
  have h1 := List.all_eq_true.1 hed i (List.mem_range.2 (Array.getElem?_eq_some_iff.1 hi).1)
  rw [hi] at h1
  simp only [Array.all_eq_true_iff_forall_mem] at h1
  have h2 := h1 x hx
  simpa [hb] using h2
 intro fuel
 induction fuel with
 | zero =>
  intro t listed e H hfu hls hcl hun _ _ _
  have := Bxg (p := fun _ => false) (q := fun i => !listed.getD i false) (l := List.range ops.size) (by simp) s (List.mem_range.2 hsz) (by simp [hun]) rfl
  unfold left at hfu
  omega
 | succ fuel ih =>
  intro t listed e H hfu hls hcl hun hIe hval hS
  have hne : Region.ready .any ops listed ≠ [] := by
   have key : ∀ i, i < ops.size -> listed.getD i false = false -> ∃ j, j ∈ Region.ready .any ops listed := by
    intro i
    induction i using Nat.strongRecOn with
    | _ i ihi =>
     intro hi hli
     obtain ⟨o, ho⟩ : ∃ o, ops[i]? = some o := ⟨_, Array.getElem?_eq_getElem hi⟩
     by_cases hall : ∀ x ∈ o.after, Region.binds .any x = true -> listed.getD x.on false = true
     ·exact ⟨i, mem_ready.2 ⟨by simp [Array.getD, hls, hi] at hli ⊢; exact hli, o, ho, hall⟩⟩
     ·have : ∃ x ∈ o.after, Region.binds .any x = true /\ listed.getD x.on false = false := Classical.byContradiction fun hn => hall fun x hx hb => by
       cases hl : listed.getD x.on false with
       | true => rfl
       | false => exact absurd ⟨x, hx, hb, hl⟩ hn
      obtain ⟨x, hx, hb, hl⟩ := this
      have hlt := hon i o ho x hx hb
      exact ihi x.on hlt (by omega) hl
   obtain ⟨j, hj⟩ := key s hsz hun
   exact fun h => by rw [h] at hj; cases hj
  simp only [Region.linearise.go]
  change runU P md ops s K (match (Region.ready .any ops listed)[t % (Region.ready .any ops listed).length]? with
   | some i => Region.linearise.go .any ops fuel (t / (Region.ready .any ops listed).length) (listed.setIfInBounds i true) [i]
   | none => [].reverse) (act n e ds) H
  have hlen : t % (Region.ready .any ops listed).length < (Region.ready .any ops listed).length := Nat.mod_lt _ (List.length_pos_iff.2 hne)
  have hi := List.getElem?_eq_getElem hlen
  have hmem := List.mem_of_getElem? hi
  generalize (Region.ready .any ops listed)[t % (Region.ready .any ops listed).length] = i at hi hmem
  rw [hi]
  simp only []
  rw [linearise_go_acc, List.reverse_singleton, List.singleton_append]
  obtain ⟨hu, o, ho, hall⟩ := mem_ready.1 hmem
  have hil := (Array.getElem?_eq_some_iff.1 ho).1
  have hu' : listed.getD i false = false := by simpa [Array.getD, hls, hil] using hu
  have hdeps : ∀ x ∈ o.after, Region.binds .any x = true -> ∀ o' d, ops[x.on]? = some o' -> o'.dst = some d -> e d = val x.on := fun x hx hb o' d ho' hd => hval x.on o' d ho' (hall x hx hb) hd
  unfold runU
  by_cases his : i = s
  ·rw [if_pos his]
   subst his
   refine ⟨Dwd ?_ _ _, hend o ho e H hIe hdeps hS⟩
   refine List.eq_nil_iff_forall_not_mem.2 fun j hj => ?_
   obtain ⟨hju, o', ho', _⟩ := mem_ready.1 hj
   have hjl := (Array.getElem?_eq_some_iff.1 ho').1
   by_cases hji : j = i
   ·subst hji
    simp [Array.getD, hls, hjl] at hju
   ·have h1 := (hdep j hjl hji).listed hcl hmem
    have h2 := getD_set_true (i := i) h1
    simp only [Array.getD, Array.size_setIfInBounds, hls, hjl, dite_true] at h2 hju
    rw [h2] at hju; cases hju
  ·rw [if_neg his]
   obtain ⟨hw, d, hd, hop⟩ := hstep i o ho his e H hIe hdeps hS
   refine ⟨o, ho, hw, Ayd hop ?_⟩
   rintro a' H' ⟨rfl, hS'⟩
   have hns : listed.getD s false = false := hun
   refine ih _ _ _ _ ?_ (by simpa using hls) (hcl.set hmem) (by rw [getD_set_ne false his]; exact hun) (hI i o d e his ho hd hIe) (fun j oj d' hj hlj hd' => ?_) hS'
   ·have := Dxz (ops := ops) hil hls hu'
    omega
   ·by_cases hji : j = i
    ·subst hji
     rw [ho] at hj; cases hj
     rw [hd] at hd'; cases hd'
     simp [upd]
    ·rw [getD_set_ne false (Ne.symm hji)] at hlj
     have hdd : d' ≠ d := fun he => hji (hdst j i oj o d' hj ho hd' (by rw [he]; exact hd))
     have := hval j oj d' hj hlj hd'
     simp [upd, hdd, this]
end
section
variable {P : Program} {md : Md} {Stop : Goroutine -> Hp -> Prop} {a : Act} {H : Hp}
theorem WPG.region_drawS {b : Frame} {k : List Item} {cs : List Frame} {id : Nat} {ops : Array Oper} (hm : P.follows .mixedOrders = true) (h : ∀ t, WPG P md Stop (G (fat b a (.inRegion ops (Region.linearise.go .any ops ops.size t (Array.replicate ops.size false) []) :: k)) cs) H) :
  WPG P md Stop (G (fat b a (.code (.region id ops true) :: k)) cs) H := by
 refine .step (fun g' H' => ∃ t, g' = G (fat b a (.inRegion ops (Region.schedule (P.follows .mixedOrders) ops t) :: k)) cs /\ H' = H) rfl (fun w hw => ?_) ?_
 ·refine ⟨_, { w with drawn := w.drawn + 1 }, #[], H, ?_, .draw hw _, w.tape w.drawn (.order b.fn id), rfl, rfl⟩
  simp [G, stepG, stepG.exec, fat, choose, Sem.run, Question.forced, Question.cut]
 ·rintro g' H' ⟨t, rfl, rfl⟩
  have := h t
  simp only [Region.schedule, hm, Bool.true_or, if_true]
  exact this
end
end Go.X
end
section
namespace Go.Proofs.YtkcomnkgdifboaaGreatDoor
open Go Go.X
def Bj6 := And.intro (fun H => Aqg (H := H) Tryz.underlying131 rfl) (And.intro (fun H => Aqp (H := H) Tryz.underlying28 rfl Tryz.sizeOf28) (And.intro (fun H => Aqg (H := H) Tryz.underlying3 rfl) @Dkm))
def Dvh := (fun H => Aqg (H := H) Tryz.underlying131 rfl)
open Go.Conc (G baseD rcase scase dcall)
theorem Byv (K : Hp) (c wg cb m : Nat) (vc : K cb = some (false, .cells #[.chan (some c)] 131 (0, 0))) :
  ∃ ρ, OthW Tryz.prog c wg lk.tWg ρ (Go.Conc.born Tryz.prog { target := .fn (.func 79) #[.pointer (some ⟨wg, 0, none⟩), .pointer (some ⟨cb, 0, none⟩)], args := #[] }) (.wait K 0 m) := by
 refine WPG.waitW ?_
 refine WPG.born (fun _ _ => Dkn _) ?_
 rw [Ayr _ Tryz.func79 rfl, Tryz.ntmps79]
 rw [show ((#[] : Array Value) ++ #[.pointer (some ⟨wg, 0, none⟩), .pointer (some ⟨cb, 0, none⟩)]) = [Value.pointer (some ⟨wg, 0, none⟩), .pointer (some ⟨cb, 0, none⟩)].toArray from rfl]
 rw [Bqs (by simp), Cwq rfl]
 have hJ := Quiet.wpg (P := Tryz.prog) (Stop := fun g' K' => ∃ ρ, OthW Tryz.prog c wg lk.tWg ρ g' (.wait K' 0 m)) (H := K)
 refine hJ.seq (hJ.region ?_)
 refine hJ.enter2 (rest := []) rfl rfl (by simp [baseD]) rfl (wgLib.f_wait) (Go.ConcR.Gen.nm_wait lk) rfl #[.pointer (some ⟨wg, 0, none⟩)] 83 (by simp [Aq9, Bka]) rfl ?_
 refine .stop ?_ (Hp.le_refl _)
 refine waitW wgLib ?_ m
 refine WPG.lateW ?_
 rw [<- Cwq rfl]
 refine (show WPG Tryz.prog (.own false) _ (G (fat (baseD 79) (act 4 (Bka [.pointer (some ⟨wg, 0, none⟩), .pointer (some ⟨cb, 0, none⟩)]) []) _) _) K from ?_)
 refine WPG.endX (WPG.regionX (WPG.op (rest := [1]) rfl rfl (by simp [baseD]) rfl ?_))
 unfold opX
 change wpS _ (execOp _ ⟨some 3, .load _ (.tmp 1), _, _, _, _⟩) _ _ _
 (refine @unH _ ?_; refine z7 @Dvh ?_)
 exact .stop (closeW rfl rfl rfl (by show ((act 4 _ []).put (some 3) _).eval _ = _; rw [Aq3 (by decide), Aq9 (by decide)]; rfl) rfl Tryz.func79 Tryz.results79) (Hp.le_refl _)
theorem Cj8 {P : Program} {H : Hp} (a : Act) (d : Option Tmp) (ty : TypeId) (pos : String) (af : Array Edge) (g : Option (Nat × Bool)) (K : Next -> Hp -> Prop) (E : Value -> Hp -> Prop) {f : FuncId} {args : Array Operand} {ats : Array TypeId} :
  wpS P (execOp a.eval ⟨d, .defer ⟨.value (.func f), args, ats⟩, ty, pos, af, g⟩) H K E = K (.defer { target := .fn (.func f) #[], args := args.map a.eval }) H := by
 rw [Czr]
 simp [resolve, Deferred.ofValue, Aqe, Act.eval]
def trV (s : Sm) (i : Nat) : Value := .agg (Axd (Azc s i)).toArray
theorem By6 (KM : Hp) (c wg cb vx px : Nat) (s : Sm) (dv hv nv : Value) (i : Nat) (p : Int)
  (vv : KM vx = some (false, smO s.places dv hv nv)) (vp : KM px = some (false, .cells #[.int .i64 i] 3 (0, 0))) (vc : KM cb = some (false, .cells #[.chan (some c)] 131 (0, 0)))
  (hs : SmIn KM dv hv nv s) (ok : SmOk s) (hi : s.hampers[i]? = some p) :
  WPG Tryz.prog (.own false) (Bzr Tryz.prog c wg lk.tWg (trV s i))
   (Go.Conc.born Tryz.prog { target := .fn (.func 76) #[.pointer (some ⟨wg, 0, none⟩), .pointer (some ⟨cb, 0, none⟩), .pointer (some ⟨vx, 0, none⟩), .pointer (some ⟨px, 0, none⟩)], args := #[] }) KM := by
 obtain ⟨da, dc, ha, kc, na, nc, rfl, rfl, rfl, l1, l2, l3⟩ := hs.forms
 have hfol := fun H' (hl : KM.le H') => Cq4 (.own false) H' s _ _ _ (hs.le hl) ok i p hi
 refine WPG.born (fun _ _ => Dkl _) ?_
 rw [Ayr _ Tryz.func76 rfl, Tryz.ntmps76]
 rw [show ((#[] : Array Value) ++ #[.pointer (some ⟨wg, 0, none⟩), .pointer (some ⟨cb, 0, none⟩), .pointer (some ⟨vx, 0, none⟩), .pointer (some ⟨px, 0, none⟩)]) = [Value.pointer (some ⟨wg, 0, none⟩), .pointer (some ⟨cb, 0, none⟩), .pointer (some ⟨vx, 0, none⟩), .pointer (some ⟨px, 0, none⟩)].toArray from rfl]
 rw [Bqs (by simp)]
 refine WPG.seqX (by simp [baseD]) rfl ?_
 (refine @unH _ ?_; refine zA (And.intro Bj6 (And.intro @Cj8 @Bx4)) ?_; (repeat (refine inC ?_; intro hc)); try (refine inK ?_; intro K hK))
 refine WPG.region_drawS (by kernel_rfl) fun t => ?_
 simp only [smO] at vv
 refine Bk6 (s := 4) (K := fun a H => a.eval (.tmp 4) = .chan (some c) /\ a.eval (.tmp 7) = trV s i /\ a.defers = [dcall lk.done #[.pointer (some ⟨wg, 0, none⟩)]]) (by simp [baseD]) rfl ?_ _ _ _ (Byr (P := Tryz.prog) (md := .own false) (s := 4) (n := 8) (ds := [dcall lk.done #[.pointer (some ⟨wg, 0, none⟩)]]) (fun j => match j with
   | 0 => .chan (some c) | 1 => smV s.places (.slice da s.doors.length dc) (.slice ha s.hampers.length kc) (.slice na s.noses.length nc) | 2 => .int .i64 i | _ => trV s i)
  (fun e => e 1 = .pointer (some ⟨cb, 0, none⟩) /\ e 2 = .pointer (some ⟨vx, 0, none⟩) /\ e 3 = .pointer (some ⟨px, 0, none⟩)) (fun H => KM.le H) (by kernel_rfl) (by kernel_rfl) (by kernel_rfl) (by decide) ?_ ?_ ?_ _ t _ _ _ ?_ ?_ ?_ ?_ ?_ ?_ ?_)
 ·rintro a H ⟨ha4, ha7, had⟩
  exact .stop (Dym wgLib rfl rfl (fun w => Cyn ha4 ha7 w) had Tryz.func76 Tryz.results76) (Hp.le_refl _)
 ·rintro j o d e hj ho hd ⟨e1, e2, e3⟩
  have hj5 : j < 5 := (Array.getElem?_eq_some_iff.1 ho).1
  obtain rfl | rfl | rfl | rfl : j = 0 ∨ j = 1 ∨ j = 2 ∨ j = 3 := by omega
  all_goals
   cases ho
   cases hd
   exact ⟨e1, e2, e3⟩
 ·rintro j o ho hj e H ⟨e1, e2, e3⟩ hdep hS
  have hj5 : j < 5 := (Array.getElem?_eq_some_iff.1 ho).1
  have vc' := hS _ _ vc
  have vv' := hS _ _ vv
  have vp' := hS _ _ vp
  obtain rfl | rfl | rfl | rfl : j = 0 ∨ j = 1 ∨ j = 2 ∨ j = 3 := by omega
  ·simp only [List.getElem?_toArray, List.getElem?_cons_succ, List.getElem?_cons_zero, Option.some.injEq] at ho
   subst ho
   clear hdep
   refine ⟨rfl, _, rfl, ?_⟩
   simp -implicitDefEqProofs (disch := first | omega | (simp only [qd] <;> omega)) only [xq, ↓xp, qc, Nat.reduceAdd, List.range, List.range.loop, fine, Nat.reduceEqDiff, ↓reduceIte, yielded, reduceCtorEq, Nat.reduceLT, Nat.reduceMul, Nat.reduceSub, one, Nat.reduceLeDiff, Aqj, Bj6, aq, ↓ap, qe0, qe1, qe2, *, hS _ _ vv] <;> exact ⟨rfl, hS⟩
  ·simp only [List.getElem?_toArray, List.getElem?_cons_succ, List.getElem?_cons_zero, Option.some.injEq] at ho
   subst ho
   clear hdep
   refine ⟨rfl, _, rfl, ?_⟩
   simp -implicitDefEqProofs (disch := first | omega | (simp only [qd] <;> omega)) only [xq, ↓xp, qc, Nat.reduceAdd, List.range, List.range.loop, fine, Nat.reduceEqDiff, ↓reduceIte, yielded, reduceCtorEq, Nat.reduceLT, Nat.reduceMul, Nat.reduceSub, one, Nat.reduceLeDiff, Aqj, Bj6, aq, ↓ap, qe0, qe1, qe2, *, hS _ _ vv] <;> exact ⟨rfl, hS⟩
  ·simp only [List.getElem?_toArray, List.getElem?_cons_succ, List.getElem?_cons_zero, Option.some.injEq] at ho
   subst ho
   clear hdep
   refine ⟨rfl, _, rfl, ?_⟩
   simp -implicitDefEqProofs (disch := first | omega | (simp only [qd] <;> omega)) only [xq, ↓xp, qc, Nat.reduceAdd, List.range, List.range.loop, fine, Nat.reduceEqDiff, ↓reduceIte, yielded, reduceCtorEq, Nat.reduceLT, Nat.reduceMul, Nat.reduceSub, one, Nat.reduceLeDiff, Aqj, Bj6, aq, ↓ap, qe0, qe1, qe2, *, hS _ _ vv] <;> exact ⟨rfl, hS⟩
  ·simp only [List.getElem?_toArray, List.getElem?_cons_succ, List.getElem?_cons_zero, Option.some.injEq] at ho
   subst ho
   have d0 : e 5 = smV s.places (.slice da s.doors.length dc) (.slice ha s.hampers.length kc) (.slice na s.noses.length nc) := hdep _ (Array.mem_of_getElem? (i := 0) rfl) rfl _ _ rfl rfl
   have d1 : e 6 = .int .i64 i := hdep _ (Array.mem_of_getElem? (i := 1) rfl) rfl _ _ rfl rfl
   clear hdep
   refine ⟨rfl, _, rfl, ?_⟩
   (refine @unH _ ?_; refine z7 Bj6 ?_)
   refine (hfol H hS).runs.mono ?_
   rintro _ H' ⟨rfl, l'⟩
   exact ⟨Aq3 (by decide), Hp.le_trans hS l'⟩
 ·rintro o ho e H ⟨e1, e2, e3⟩ hdep hS
  simp only [List.getElem?_toArray, List.getElem?_cons_succ, List.getElem?_cons_zero, Option.some.injEq] at ho
  subst ho
  have d0 : e 4 = .chan (some c) := hdep _ (Array.mem_of_getElem? (i := 0) rfl) rfl _ _ rfl rfl
  have d1 : e 7 = trV s i := hdep _ (Array.mem_of_getElem? (i := 1) rfl) rfl _ _ rfl rfl
  exact ⟨by rw [Aq9 (by decide)]; exact d0, by rw [Aq9 (by decide)]; exact d1, rfl⟩
 ·exact Nat.le_trans (List.countP_le_length) (by simp)
 ·simp
 ·exact Closed.start
 ·rfl
 ·exact ⟨rfl, rfl, rfl⟩
 ·rintro j o d ho hl
  exfalso
  by_cases h : j < 5 <;> simp [Array.getD, h] at hl
 ·exact Hp.le_refl _
end Go.Proofs.YtkcomnkgdifboaaGreatDoor
end
section
namespace Go.X
open Go
theorem Bkc {P : Program} {H : Hp} {t e : TypeId} {sz : Nat} {z : Value} {inf : TypeInfo} (hu : P.underlying t = some (.slice e)) (hs : ∀ w, (sizeOf e).run P w = .ok sz w) (hz : ∀ w, (zeroValue e).run P w = .ok z w) (hz1 : z.cells.size = sz)
  (hi : ∀ w, (typeInfo e).run P w = .ok inf w) (hby : inf.bytes <= 1000000) (h0s : 0 < sz) (k j : IntKind) (n : Int) (h0 : 0 < n) (h1 : n <= 1000) (K : Value -> Hp -> Prop) (E : Value -> Hp -> Prop)
  (hk : ∀ b c, H b = none -> c.size = n.toNat * sz -> K (.slice (some ⟨b, 0, none⟩) n.toNat n.toNat) (H.set b (.cells c e (0, 0)))) :
  wpS P (Instr.makeSlice t (.int k n) (.int j n)) H K E := by
 have hinf := Akt hi
 have hw : IntKind.i64.wrap n = n := w64 n (by omega) (by omega)
 have hb : ¬ ((inf.bytes : Int) * n > 2 ^ 48) := by
  have : (inf.bytes : Int) * n <= 1000000 * 1000 := Int.mul_le_mul (by omega) h1 (by omega) (by omega)
  have h2 : (2 : Int) ^ 48 = 281474976710656 := by decide
  omega
 have h00 : ¬ n < 0 := by omega
 have hn : ¬ n.toNat * sz = 0 := by
  have : 0 < n.toNat * sz := Nat.mul_pos (by omega) h0s
  omega
 unfold Instr.makeSlice
 simp only [Aqa, Aqh hu, asInt, asIntOf, Aqe, Akf hinf, hw]
 simp only [h00, decide_false, hb, Bool.or_self, Bool.false_eq_true, if_false, gt_iff_lt, Int.lt_irrefl, Aqa, Aw5, Aq0 hs]
 simp only [hn, if_false, Aqa, Axh hz, Aqe, newRow, newObj, wpS]
 exact fun b hb => hk b _ hb (by simp)
section
variable {P : Program} {H : Hp}
theorem Bxz {t e : TypeId} {dir : ChanDir} (hu : P.underlying t = some (.chan dir e)) {inf : TypeInfo} (hi : ∀ w, (typeInfo e).run P w = .ok inf w) (hb : inf.bytes <= 1000000) (k : IntKind) (n : Int) (h0 : 0 <= n) (h1 : n <= 1000) (K : Value -> Hp -> Prop) (E : Value -> Hp -> Prop) :
  wpS P (Instr.makeChan t (.int k n)) H K E = ∀ b, H b = none -> K (.chan (some b)) (H.set b (.chan n.toNat #[] false 0 0 false)) := by
 have hle : inf.bytes * n.toNat <= 1000000 * 1000 := Nat.mul_le_mul hb (by omega)
 have hle2 : ¬ ((inf.bytes : Int) * n > 2 ^ 48 - 112) := by
  have : (inf.bytes : Int) * n = ((inf.bytes * n.toNat : Nat) : Int) := by push_cast; rw [Int.toNat_of_nonneg h0]
  rw [this]; omega
 have hmax : IntKind.i64.max = 9223372036854775807 := by decide
 have hif : ¬ (9223372036854775807 < n ∨ 281474976710544 < (inf.bytes : Int) * n) := by
  rintro (h | h)
  ·omega
  ·exact hle2 (by simpa using h)
 unfold Instr.makeChan
 simp [-bind_pure_comp, Aqa, asInt, asIntOf, Aqe, Aqh hu, Akf (Akt hi), show ¬ n < 0 by omega, hmax]
 rw [if_neg hif]
 rfl
end
theorem Bxt {P : Program} {γ : GhW} {Q : Cvo} {a : Act} {H : Hp} {c : Operand} {x y : Code} {t : Bool} (ht : a.eval c = .bool t) (h1 : t = true -> wpV P x Q γ a H) (h2 : t = false -> wpV P y Q γ a H) : wpV P (.cond c x y) Q γ a H := by
 refine Dzs ht ?_
 cases t
 ·exact h2 rfl
 ·exact h1 rfl
theorem Bkx {P : Program} {γ : GhW} {Q : Cvo} {a : Act} {H : Hp} {ops : Array Oper} {todo : List Nat} (h : ∀ K : Act -> Hp -> Prop, (∀ a' H', Q γ .normal a' H' -> K a' H') -> runX P (.own true) none ops (only K) todo a H) : opsV P ops todo Q γ a H :=
 Dza fun b k cs Stop hk hl hc => Avt (h _ fun _ _ h => h) b k cs Stop hk hl fun e a' H' q => by
  cases e <;> first | exact hc _ _ _ q | exact q.elim
open Go.Conc in
theorem Bk3 {P : Program} {a : Act} {d : Option Tmp} {ty t : TypeId} {pos : String} {af : Array Edge} {g : Option (Nat × Bool)} {x : Operand} {c : Nat} {z : Value} {e : TypeId} {dir : ChanDir} (hx : a.eval x = .chan (some c)) (hu : P.underlying t = some (.chan dir e)) (hz : ∀ w, (zeroValue e).run P w = .ok z w) (w : World) :
  (execOp a.eval ⟨d, .recv t x true, ty, pos, af, g⟩).runT P w #[] = (.ok (.comm #[rcase c z] true (.recv true)) w, #[]) := by
 simp [execOp, hx, rcase, hz, underlying, program, Sem.run, hu]
 rfl
end Go.X
namespace Go.Proofs.YtkcomnkgdifboaaGreatDoor
open Go Go.X
open Go.Conc (G baseD rcase scase)
structure OutR (s : Sm) (n : Nat) (c : Array Value) (R : List Nat) : Prop where
 size : c.size = n * 326
 at_ : ∀ i ∈ R, c.extract (i * 326) (i * 326 + 326) = (Axd (Azc s i)).toArray
theorem Awy {s : Sm} (ok : SmOk s) (i : Nat) : Ax6 (Azc s i) := Cv0 (fun tc htc => by
 obtain ⟨t, ht, rfl⟩ := List.mem_map.1 htc
 have := Akr ht
 have := ok.dl
 simp [pad6]
 omega) _
theorem OutR.put {s : Sm} (ok : SmOk s) {n : Nat} {c : Array Value} {R : List Nat} (h : OutR s n c R) {i : Nat} (hi : i < n) : OutR s n (over c (i * 326) (Axd (Azc s i))) (R ++ [i]) := by
 have hl := Axu (Awy ok i)
 have hm : i * 326 + 326 <= n * 326 := by omega
 refine ⟨by rw [Azy]; exact h.size, fun j hj => ?_⟩
 by_cases e : j = i
 ·subst e
  apply Array.ext_getElem?
  intro k
  by_cases hk : k < 326
  ·rw [Array.getElem?_extract, if_pos (by rw [Azy, h.size]; omega), Aka _ (by rw [h.size]; omega), if_pos (by omega), show j * 326 + k - j * 326 = k by omega]
   simp [List.getD, List.getElem?_eq_getElem (show k < (Axd (Azc s j)).length by omega)]
  ·rw [Array.getElem?_eq_none (by rw [Array.size_extract]; omega), Array.getElem?_eq_none (by simp; omega)]
 ·have hj' : j ∈ R := by
   rcases List.mem_append.1 hj with h | h
   ·exact h
   ·exact absurd (List.mem_singleton.1 h) e
  rw [<- h.at_ j hj']
  apply Array.ext_getElem?
  intro k
  by_cases hk : k < 326 /\ j * 326 + k < n * 326
  ·rw [Array.getElem?_extract, Array.getElem?_extract, if_pos (by rw [Azy, h.size]; omega), if_pos (by rw [h.size]; omega), Aka _ (by rw [h.size]; omega), if_neg (by omega)]
  ·rw [Array.getElem?_eq_none (by rw [Array.size_extract, Azy, h.size]; omega), Array.getElem?_eq_none (by rw [Array.size_extract, h.size]; omega)]
def SlT (H : Hp) (v : Value) (l : List Trail) : Prop := SlG 130 326 H v (l.map Axd)
theorem OutR.all {s : Sm} (ok : SmOk s) {n : Nat} (hn : n = s.hampers.length) {c : Array Value} {R : List Nat} (h : OutR s n c R) (hR : R.Perm (List.range n)) {H : Hp} {ob : Nat} (hb : H ob = some (true, .cells c 130 (0, 0))) : SlT H (.slice (some ⟨ob, 0, none⟩) n n) (Axm s) := by
 refine ⟨some ⟨ob, 0, none⟩, n, by simp [Axm, hn], by simp [Axm, hn], fun i r hr => ?_⟩
 simp only [Axm, List.map_map, List.getElem?_map] at hr
 cases hi : (List.range s.hampers.length)[i]? with
 | none => rw [hi] at hr; cases hr
 | some j =>
  obtain ⟨hlt, hj⟩ := List.getElem?_eq_some_iff.1 hi
  rw [List.getElem_range] at hj
  subst hj
  rw [hi] at hr
  simp only [Option.map_some, Option.some.injEq, Function.comp] at hr
  subst hr
  rw [List.length_range, <- hn] at hlt
  refine ⟨ob, 0, true, c, _, rfl, hb, by rw [h.size]; omega, Axu (Awy ok i), ?_⟩
  rw [Nat.zero_add]
  exact h.at_ i (hR.mem_iff.2 (List.mem_range.2 hlt))
end Go.Proofs.YtkcomnkgdifboaaGreatDoor
end
section
namespace Go.X
open Go
def sndS : Code -> Code
 | .seq _ y => y
 | c => c
end Go.X
namespace Go.Proofs.YtkcomnkgdifboaaGreatDoor
open Go Go.X
def Bqh := And.intro @Bz3 (And.intro (fun H => Bxz (H := H) Tryz.underlying131 Tryz.typeInfo130 (by decide)) (And.intro (fun H => Aqv (H := H) (P := Tryz.prog) (h := Tryz.zeroValue131)) (And.intro (fun H => Bx2 (H := H) Tryz.sizeOf131) (And.intro (fun H => Aqv (H := H) (P := Tryz.prog) (h := Tryz.zeroValue140)) (And.intro (fun H => Aqd (H := H) Tryz.underlying28 (i := 2) rfl (off := 2) rfl Tryz.sizeOf22) (And.intro (fun H => Aqg (H := H) Tryz.underlying22 rfl) (And.intro (fun H => Aq6 (H := H) Tryz.underlying22) (And.intro (fun H => Aqv (H := H) (P := Tryz.prog) (h := Tryz.zeroValue3)) (And.intro (fun H => Axc (H := H) Tryz.sizeOf3) (And.intro (fun H => Aqg (H := H) Tryz.underlying131 rfl) (And.intro (fun H => Aqv (H := H) (P := Tryz.prog) (h := Tryz.zeroValue130)) (And.intro (fun H => Aqs (H := H) Tryz.sizeOf130) (And.intro (fun H => Aqd (H := H) Tryz.underlying130 (i := 0) rfl (off := 0) rfl Tryz.sizeOf3) (And.intro (fun H => Aqg (H := H) Tryz.underlying3 rfl) (And.intro (fun H => Aqp (H := H) Tryz.underlying130 rfl Tryz.sizeOf130) (fun H => Aqu (H := H) Tryz.underlying85 Tryz.sizeOf130))))))))))))))))
open Go.Conc (G baseD rcase scase)
theorem Dvc {H : Hp} {b : Nat} {l : List Value} {c : Array Value} {e : TypeId} {K : Hp -> Prop} (hl : l.length = 326) (h1 : l.all one = true) (hb : H b = some (true, .cells c e (0, 0))) (hs : c.size = 326) : Akw H b 0 l K = K (H.set b (.cells l.toArray e (0, 0))) := by
 rw [Akm (c := c) (e := e) (by intro h; rw [h] at hl; simp at hl) hb]
 have ho : over c 0 l = l.toArray := by
  obtain ⟨l'⟩ := c
  exact Bq1 (by simp at hs; omega)
 rw [ho, h1]
 simp [hl, hs]
theorem Cx1 (H H8 C H9 : Hp) (c wg tb vx : Nat) (s : Sm) (ok : SmOk s) (n : Nat) (hn : n = s.hampers.length) (dv nv : Value) (ha : Option Addr) (kc : Nat) (e : Nat -> Value)
  (e1 : e 1 = .pointer (some ⟨vx, 0, none⟩)) (e3 : e 3 = .pointer (some ⟨tb, 0, none⟩)) (e4 : e 4 = .pointer (some ⟨wg, 0, none⟩))
  (lS9 : C.leS H9) (hCle : H.le C) (l08 : H.le H8) (vtbC : C tb = some (true, .cells #[.chan (some c)] 131 (0, 0))) (vvxC : C vx = some (true, smO s.places dv (.slice ha n kc) nv)) (hCwg : C wg = none) :
  wpV Tryz.prog (sndS (sndS (sndS (sndS ((Tryz.f63).body.getD .skip))))) (fun γ e a H' => γ = .idle /\ Bw2 Tryz.prog (.wg Tryz.prog) Tryz.f63 (fun e H' => ∃ v, e = .returned v /\ SlT H' v (Axm s) /\ H.le H') e a H') (.busy c wg lk.tWg n 0 ((List.range n).reverse.map (trV s)) false (fun b => ∃ o, H8 b = some (true, o))) (act 33 e []) H9 := by
 subst hn
 have ntw : tb ≠ wg := fun e => by rw [e, hCwg] at vtbC; cases vtbC
 have hcl := fun (m : Nat) => Byv (H9.hand wg) c wg tb m (by obtain ⟨p', h1, _⟩ := lS9 _ _ _ vtbC; exact Hp.hand_some h1 ntw)
 show wpV _ (.seq (.region _ _ false) _) _ _ _ _
 refine Ajm (Avw (Byo rfl rfl (Ayd (K := fun a' H' => ∃ e', a' = act 33 e' [] /\ H9 = H' /\ e' 18 = .func (.func 79) #[] #[.pointer (some ⟨wg, 0, none⟩), .pointer (some ⟨tb, 0, none⟩)] /\
   e' 1 = .pointer (some ⟨vx, 0, none⟩) /\ e' 3 = .pointer (some ⟨tb, 0, none⟩)) ?_ ?_)))
 ·unfold opX
  change wpS _ (execOp _ ⟨some 18, .makeFunc (.func 79) #[] #[.tmp 4, .tmp 3], _, _, _, _⟩) _ _ _
  rw [Ayz]
  refine ⟨_, Aq3 (by decide), rfl, ?_, e1, e3⟩
  simp only [Axk, ↓reduceIte, List.map_toArray, List.map_cons, List.map_nil, Aq9, Nat.reduceLT, Nat.reduceEqDiff, e3, e4]
 ·clear e1 e3 e4
  rintro _ _ ⟨e', rfl, rfl, e18, e1, e3⟩
  refine Cyd rfl rfl (by simp) (fun w hw => Cwu (by rw [Aq9 (by decide)]; exact e18) w) rfl Hp.hand_lend Hp.lend_own (hcl _) (Bv5 ?_)
  have hle10 := lS9.trans (Hp.lend_leS (eb := wg))
  generalize H9.lend wg = H11 at *
  clear hcl lS9 e18
  show wpV _ _ _ _ (act 33 e' []) _
  obtain ⟨pt, vtb11, _⟩ := hle10 _ _ _ vtbC
  obtain ⟨pv, vvx11, _⟩ := hle10 _ _ _ vvxC
  simp only [smO] at vvx11
  refine Ajm (Aw2 ?_)
  (refine @unH _ ?_; refine zA Bqh ?_; (repeat (refine inC ?_; intro hc)); try (refine inK ?_; intro K hK))
  refine Bkc Tryz.underlying85 Tryz.sizeOf130 Tryz.zeroValue130 rfl Tryz.typeInfo130 (by decide) (by decide) _ _ _ (by have := ok.h0; omega) (by have := ok.h1; omega) _ _ (fun ob c0 hob hc0 => ?_)
  rw [Int.toNat_natCast] at hc0 ⊢
  have hCob : C ob = none := Bvy hle10 hob
  have nob := Aqr vtb11 hob
  generalize hG : Hp.set H11 ob _ = H12
  have vob := Aqb hG
  have lS12 : C.leS H12 := by rw [<- hG]; exact hle10.set hCob
  have vtb12 := Aqi hG vtb11 nob
  have hout : OutR s s.hampers.length c0 [] := ⟨hc0, fun i hi => by simp at hi⟩
  clear hG hle10 hob vtb11 vvx11 hc0
  refine hK _ _ ?_
  clear hK K
  (try simp only [nq, ↓reduceIte, Nat.reduceEqDiff])
  refine Ajm (Ajm (Aw2 ?_))
  (refine @unH _ ?_; refine zA Bqh ?_; (repeat (refine inC ?_; intro hc)); try (refine inK ?_; intro K hK))
  have hLV0 : ((List.range s.hampers.length).reverse.map (trV s)).Perm ((List.range s.hampers.length).map (trV s)) := (List.reverse_perm _).map _
  have hlen : (List.range s.hampers.length).length = s.hampers.length := List.length_range
  generalize hN : s.hampers.length = n at *
  generalize hR0 : List.range n = l at *
  generalize (l.reverse.map (trV s)) = LV0 at *
  replace hR0 : Aqk _ := hR0
  replace hN : Aqk _ := hN
  refine Bjy (Cji (fun w γ a' H' => ∃ (e : Nat -> Value) (L : List Nat) (LV : List Value) (R : List Nat) (cc : Array Value), w = L.length + 1 /\ γ = .busy c wg lk.tWg n 0 LV true (fun b => ∃ o, H8 b = some (true, o)) /\ LV.Perm (L.map (trV s)) /\ (R ++ L).Perm l /\ a' = act 33 e [] /\ e 6 = .slice (some ⟨ob, 0, none⟩) n n /\ e 23 = .chan (some c) /\
   C.leS H' /\ H' ob = some (true, .cells cc 130 (0, 0)) /\ OutR s n cc R) (n := n + 1) ?_ ?_)
  ·exact ⟨_, l, LV0, [], c0, by rw [hlen], rfl, hLV0, .refl _, rfl, rfl, rfl, lS12, vob, hout⟩
  ·clear e1 e3 lS12 vob hout hLV0 vtb12 nob vtbC vvxC
   rename_i eold
   clear eold
   rintro w γ a' H13 ⟨e, L, LV, R, cc, rfl, rfl, hLV, hperm, rfl, e6, e23, lS13, vob13, hout⟩
   cases L with
   | nil =>
    obtain rfl : LV = [] := by simpa using hLV
    refine Ajm (Avw (Cyf (z := .agg (Tryz.zeroCells130)) (fun b => (H13 b).map fun z => (z.1 || @decide (∃ o, H8 b = some (true, o)) (Classical.propDecidable _), z.2)) rfl rfl (fun w hw => Bk3 (by rw [Aq9 (by decide)]; exact e23) Tryz.underlying131 Tryz.zeroValue130 w) (fun b p o hb => ?_) (Bkx ?_)))
    ·simp only [Option.map_eq_some_iff] at hb
     obtain ⟨⟨p', o'⟩, h1, h2⟩ := hb
     simp only [Prod.mk.injEq] at h2
     obtain ⟨h2, rfl⟩ := h2
     refine ⟨p', h1, fun hp => ?_⟩
     rw [hp] at h2
     rcases Bool.or_eq_true_iff.1 h2 with h2 | h2
     ·exact .inl h2
     ·exact .inr (@of_decide_eq_true _ (Classical.propDecidable _) h2)
    ·obtain ⟨G', hGe⟩ : ∃ G' : Hp, G' = fun b => (H13 b).map fun z => (z.1 || @decide (∃ o, H8 b = some (true, o)) (Classical.propDecidable _), z.2) := ⟨_, rfl⟩
     rw [<- hGe]
     have hback : Aqk (H.le G') := fun x u hx => by
      obtain ⟨p, o⟩ := u
      obtain ⟨p', h1, h2⟩ := lS13 _ _ _ (hCle _ _ hx)
      have h8 := l08 _ _ hx
      rw [hGe]
      simp only [h1, Option.map_some, Option.some.injEq, Prod.mk.injEq, and_true]
      cases p with
      | true => rw [Bool.or_eq_true_iff]; exact .inr (@decide_eq_true _ (Classical.propDecidable _) ⟨_, h8⟩)
      | false =>
       rw [Bool.or_eq_false_iff]
       refine ⟨by cases hp : p' with | false => rfl | true => exact absurd (h2 hp) (by simp), @decide_eq_false _ (Classical.propDecidable _) (fun ⟨o', h9⟩ => by rw [h8] at h9; cases h9)⟩
     have vobG : G' ob = some (true, .cells cc 130 (0, 0)) := by rw [hGe]; simp [vob13]
     have hres : SlT G' (.slice (some ⟨ob, 0, none⟩) n n) (Axm s) := hout.all ok (show s.hampers.length = n from hN).symm (by rw [List.append_nil] at hperm; rw [show List.range n = l from hR0]; exact hperm) vobG
     clear hGe vob13 lS13 hout hperm
     intro K hK
     change runX _ _ _ _ _ _ ((act 33 e []).put (some 24) (.tuple #[.agg (Tryz.zeroCells130), .bool false])) _
     rw [Aq3 (by decide)]
     (refine @unH _ ?_; refine zX Bqh ?_)
     refine hK _ _ ?_
     clear hK K
     (try simp only [nq, ↓reduceIte, Nat.reduceEqDiff])
     refine Ajm (Bxt (by simp only [Aq9, Axk, Nat.reduceEqDiff, Nat.reduceLT, ↓reduceIte, *]; rfl) ?_ ?_) <;> intro hc
     ·cases hc
     ·clear hc
      refine Cjh ?_
      (try simp only [nq, ↓reduceIte, Nat.reduceEqDiff])
      refine Aw2 ?_
      (refine @unH _ ?_; refine zA Bqh ?_; (repeat (refine inC ?_; intro hc)); try (refine inK ?_; intro K hK))
      refine Axt ?_
      (try simp only [nq, ↓reduceIte, Nat.reduceEqDiff])
      refine ⟨by trivial, ?_⟩
      rw [Aq7, Bqa Tryz.results63 (by decide)]
      exact ⟨_, rfl, hres, hback⟩
   | cons q0 L0 =>
    have hne : LV ≠ [] := fun h => by rw [h] at hLV; simp at hLV
    refine Ajm (Avw (Cye (z := .agg (Tryz.zeroCells130)) rfl rfl hne (fun w hw => Bk3 (by rw [Aq9 (by decide)]; exact e23) Tryz.underlying131 Tryz.zeroValue130 w) fun v L' hpv => Bkx ?_))
    obtain ⟨q, L1, rfl, hpq, hL1⟩ : ∃ q L1, v = trV s q /\ (q0 :: L0).Perm (q :: L1) /\ L'.Perm (L1.map (trV s)) := by
     have hmem : v ∈ (q0 :: L0).map (trV s) := (hLV.symm.trans hpv).mem_iff.2 (by simp)
     obtain ⟨q, hq, rfl⟩ := List.mem_map.1 hmem
     have h1 := List.perm_cons_erase hq
     exact ⟨q, _, rfl, h1, (List.perm_cons _).1 (hpv.symm.trans (hLV.trans (h1.map _)))⟩
    have hlen1 : (q0 :: L0).length = L1.length + 1 := by rw [hpq.length_eq]; rfl
    have hperm' : ((R ++ [q]) ++ L1).Perm l := by
     rw [List.append_assoc]
     exact ((hpq.symm.append_left R)).trans hperm
    have hqn : q < n := by
     have : q ∈ l := hperm'.mem_iff.1 (by simp)
     rw [<- show List.range n = l from hR0] at this
     exact List.mem_range.1 this
    rw [hlen1]
    have hTo := Awy ok q
    have hTl := Axu hTo
    have hTx := By7 hTo
    have hTq : (Axd (Azc s q))[0]? = some (.int .i64 (q : Nat)) := rfl
    have hput := hout.put ok hqn
    have hcs := hout.size
    have hTr : trV s q = .agg (Axd (Azc s q)).toArray := rfl
    rw [hTr]
    have hTone : (Axd (Azc s q)).all one = true := by rw [List.all_eq_true]; exact Bxr _
    generalize Axd (Azc s q) = TC at *
    clear hperm hLV hpq hpv hlen1 hTr
    replace hcs : Aqk _ := hcs
    replace hR0 : Aqk _ := hR0
    intro K hK
    change runX _ _ _ _ _ _ ((act 33 e []).put (some 24) (.tuple #[.agg TC.toArray, .bool true])) _
    rw [Aq3 (by decide)]
    (refine @unH _ ?_; refine zX Bqh ?_)
    refine hK _ _ ?_
    clear hK K
    (try simp only [nq, ↓reduceIte, Nat.reduceEqDiff])
    refine Ajm (Bxt (by simp only [Aq9, Axk, Nat.reduceEqDiff, Nat.reduceLT, ↓reduceIte, *]; rfl) ?_ ?_) <;> intro hc
    ·clear hc
     refine Cjj ?_
     (try simp only [nq, ↓reduceIte, Nat.reduceEqDiff])
     refine Aw2 ?_
     (refine @unH _ ?_; refine zA Bqh ?_; (repeat (refine inC ?_; intro hc)); try (refine inK ?_; intro K hK))
     intro xb hxb
     have nox := Aqr vob13 hxb
     rw [Dvc hTl hTone Axg rfl, Aww]
     generalize hG : Hp.set H13 xb _ = H14
     have vxb := Aqb hG
     have vob14 := Aqi hG vob13 nox
     have lS14 : C.leS H14 := by rw [<- hG]; exact lS13.set (Bvy lS13 hxb)
     clear hG vob13 lS13 hxb
     refine hK _ _ ?_
     clear hK K
     (try simp only [nq, ↓reduceIte, Nat.reduceEqDiff])
     (refine @unH _ ?_; refine zA Bqh ?_; (repeat (refine inC ?_; intro hc)); try (refine inK ?_; intro K hK))
     rw [Akm (c := cc) (e := 130) (by intro h; rw [h] at hTl; simp at hTl) vob14]
     refine ⟨hTone, by rw [hTl, show cc.size = n * 326 from hcs]; omega, ?_⟩
     refine hK _ _ ?_
     clear hK K
     (try simp only [nq, ↓reduceIte, Nat.reduceEqDiff])
     refine ⟨L1.length + 1, by omega, _, L1, L', R ++ [q], _, rfl, rfl, hL1, hperm', rfl, e6, e23, fun b p o hb => ?_, Axg, hput⟩
     rw [Aqw (fun h => by rw [h, hCob] at hb; cases hb)]
     exact lS14 b p o hb
    ·cases hc
end Go.Proofs.YtkcomnkgdifboaaGreatDoor
end
section
namespace Go.Proofs.YtkcomnkgdifboaaGreatDoor
open Go Go.X
def Ak4 := And.intro @Bz3 (And.intro (fun H => Bxz (H := H) Tryz.underlying131 Tryz.typeInfo130 (by decide)) (And.intro (fun H => Aqv (H := H) (P := Tryz.prog) (h := Tryz.zeroValue131)) (And.intro (fun H => Bx2 (H := H) Tryz.sizeOf131) (And.intro (fun H => Aqv (H := H) (P := Tryz.prog) (h := Tryz.zeroValue140)) (And.intro (fun H => Aqd (H := H) Tryz.underlying28 (i := 2) rfl (off := 2) rfl Tryz.sizeOf22) (And.intro (fun H => Aqg (H := H) Tryz.underlying22 rfl) (And.intro (fun H => Aq6 (H := H) Tryz.underlying22) (And.intro (fun H => Aqv (H := H) (P := Tryz.prog) (h := Tryz.zeroValue3)) (And.intro (fun H => Axc (H := H) Tryz.sizeOf3) (And.intro (fun H => Aqg (H := H) Tryz.underlying131 rfl) (And.intro (fun H => Aqv (H := H) (P := Tryz.prog) (h := Tryz.zeroValue130)) (And.intro (fun H => Aqs (H := H) Tryz.sizeOf130) (And.intro (fun H => Aqd (H := H) Tryz.underlying130 (i := 0) rfl (off := 0) rfl Tryz.sizeOf3) (And.intro (fun H => Aqg (H := H) Tryz.underlying3 rfl) (And.intro (fun H => Aqp (H := H) Tryz.underlying130 rfl Tryz.sizeOf130) (fun H => Aqu (H := H) Tryz.underlying85 Tryz.sizeOf130))))))))))))))))
open Go.Conc (G baseD rcase scase)
def Bzb (H : Hp) : Hp := fun b => (H b).map fun q => (false, q.2)
theorem Aw8 {H : Hp} {b : Nat} {p : Bool} {o : Obj} (h : H b = some (p, o)) : Bzb H b = some (false, o) := by simp [Bzb, h]
theorem Cke {H : Hp} : ∀ b p o, Bzb H b = some (p, o) -> p = false /\ Bzb H b = some (false, o) := fun b p o h => by
 have h' := h
 unfold Bzb at h
 simp only [Option.map_eq_some_iff, Prod.mk.injEq] at h
 obtain ⟨q, h1, h2, h3⟩ := h
 exact ⟨h2.symm, by rw [h', <- h2]⟩
theorem Cww {H : Hp} : ∀ b p o, Bzb H b = some (p, o) -> ∃ p', H b = some (p', o) /\ (p = true -> p' = true) := fun b p o h => by
 unfold Bzb at h
 simp only [Option.map_eq_some_iff, Prod.mk.injEq] at h
 obtain ⟨⟨p', o'⟩, h1, h2, h3⟩ := h
 simp only at h2 h3
 subst h2 h3
 exact ⟨p', h1, fun h => by cases h⟩
theorem Cwv {H : Hp} : H.leS (Bzb H) := fun b p o h => ⟨false, Aw8 h, fun h => by cases h⟩
theorem SmIn.cl {H H' : Hp} {dv hv nv : Value} {s : Sm} (h : SmIn H dv hv nv s) (hl : Cqf H H') : SmIn H' dv hv nv s :=
 ⟨h.dd.move fun x p c fr hx => hl x p c _ fr hx, SlI.cl h.hh hl, h.nn.move fun x p c fr hx => hl x p c _ fr hx⟩
theorem Bqd (H : Hp) (s : Sm) (dv hv nv : Value) (hs : SmIn H dv hv nv s) (ok : SmOk s) :
  FnX Tryz.prog (.wg Tryz.prog) 63 #[smV s.places dv hv nv] H fun e H' => ∃ v, e = .returned v /\ SlT H' v (Axm s) /\ H.le H' := by
 obtain ⟨da, dc, ha, kc, na, nc, rfl, rfl, rfl, l1, l2, l3⟩ := hs.forms
 refine Aqm Tryz.func63 rfl Tryz.ntmps63 (by simp) ?_
 (refine @unH _ ?_; refine zA Ak4 ?_; (repeat (refine inC ?_; intro hc)); try (refine inK ?_; intro K hK))
 (intro vx hvx; generalize hG : Hp.set _ vx _ = H4; have lH4 := Aqc hG hvx; have vvx := Aqb hG; clear hG)
 have l04 := lH4
 clear hvx lH4
 ((try (refine @unH _ ?_; refine zX Ak4 ?_)); (try (refine hK _ _ ?_; clear hK K; (try simp only [nq, ↓reduceIte, Nat.reduceEqDiff]))); refine @unH _ ?_; refine zA Ak4 ?_; (repeat (refine inC ?_; intro hc)); try (refine inK ?_; intro K hK))
 intro c hc0 tb htb
 replace htb : (Hp.set H4 c _) tb = none := htb
 generalize hG : Hp.set H4 c _ = H5 at htb ⊢
 have lH5 := Aqc hG hc0
 have vc5 := Aqb hG
 clear hG
 ((try (refine @unH _ ?_; refine zX (And.intro Ak4 @cells_chan) ?_)); (try (refine hK _ _ ?_; clear hK K; (try simp only [nq, ↓reduceIte, Nat.reduceEqDiff]))); refine @unH _ ?_; refine zA (And.intro Ak4 @cells_chan) ?_; (repeat (refine inC ?_; intro hc)); try (refine inK ?_; intro K hK))
 intro wg hwg
 replace hwg : (Hp.set H5 tb (.cells #[.chan (some c)] 131 (0, 0))) wg = none := hwg
 generalize hG : Hp.set H5 tb _ = H6 at hwg ⊢
 have lH6 := Aqc hG htb
 have vtb6 := Aqb hG
 clear hG
 have vc6 := lH6 _ _ vc5
 have nct : c ≠ tb := Aqr vc5 htb
 have l46 := Hp.le_trans lH5 lH6
 have h4c := hc0
 have h4tb : H4 tb = none := Hp.le_none lH5 htb
 clear lH5 lH6 vc5 hc0 htb
 generalize hG : Hp.set H6 wg _ = H8
 have lH8 := Aqc hG hwg
 have vwg := Aqb hG
 clear hG
 have vwg8 : H8 wg = some (true, wgO lk.tWg 0 0) := vwg
 have vc8 := lH8 _ _ vc6
 have vtb8 := lH8 _ _ vtb6
 have l48 := Hp.le_trans l46 lH8
 have l08 := Hp.le_trans l04 l48
 have ncw : c ≠ wg := Aqr vc6 hwg
 have ntw : tb ≠ wg := Aqr vtb6 hwg
 have n4 : ∀ b x, H4 b = some x -> b ≠ c /\ b ≠ tb /\ b ≠ wg := fun b x hx => ⟨Aqr hx h4c, Aqr hx h4tb, Aqr (l46 _ _ hx) hwg⟩
 have vvx8 := l48 _ _ vvx
 obtain ⟨nvc, nvt, nvw⟩ := n4 _ _ vvx
 have n0 : ∀ b x, H b = some x -> b ≠ c /\ b ≠ wg := fun b x hx => ⟨(n4 _ _ (l04 _ _ hx)).1, (n4 _ _ (l04 _ _ hx)).2.2⟩
 clear vwg lH8 hwg vc6 vtb6 l46 vvx n4 h4c h4tb l48
 refine hK _ _ ?_
 clear hK K
 (try simp only [nq, ↓reduceIte, Nat.reduceEqDiff])
 refine Cqd ?_
 refine Cvg (fun e => e 1 = .pointer (some ⟨vx, 0, none⟩) /\ e 3 = .pointer (some ⟨tb, 0, none⟩) /\ e 4 = .pointer (some ⟨wg, 0, none⟩)) ⟨rfl, rfl, rfl⟩ ?_
 rintro e ⟨e1, e3, e4⟩
 refine Dvg (fun b => ∃ o, H8 b = some (true, o)) vc8 vwg8 (fun _ h => h) ?_
 have hdel : ∀ b, b ≠ c -> b ≠ wg -> ((H8.del c).del wg) b = H8 b := fun b hb hb2 => by unfold Hp.del; rw [if_neg hb2, if_neg hb]
 have hCwg : ((H8.del c).del wg) wg = none := Hp.del_same _ _
 have hCle : H.le ((H8.del c).del wg) := fun x u hx => by rw [hdel x (n0 _ _ hx).1 (n0 _ _ hx).2]; exact l08 _ _ hx
 have vvxC := (hdel vx nvc nvw).trans vvx8
 have vtbC := (hdel tb nct.symm ntw).trans vtb8
 generalize (H8.del c).del wg = C at *
 clear vvx8 vtb8 vc8 vwg8 hdel
 refine Ajm (Ajm (Aw2 ?_))
 (refine @unH _ ?_; refine zA Ak4 ?_; (repeat (refine inC ?_; intro hc)); try (refine inK ?_; intro K hK))
 refine Bjy (Cji (fun w γ a' H' => ∃ e i, w = s.hampers.length - i /\ i <= s.hampers.length /\ γ = .busy c wg lk.tWg i 0 ((List.range i).reverse.map (trV s)) false (fun b => ∃ o, H8 b = some (true, o)) /\ a' = act 33 e [] /\
  e 1 = .pointer (some ⟨vx, 0, none⟩) /\ e 3 = .pointer (some ⟨tb, 0, none⟩) /\ e 4 = .pointer (some ⟨wg, 0, none⟩) /\ e 11 = .int .i64 s.hampers.length /\ e 12 = .int .i64 (i : Nat) /\ C.leS H') (n := s.hampers.length) ?_ ?_)
 ·exact ⟨_, 0, by omega, by omega, rfl, rfl, e1, e3, e4, rfl, rfl, Hp.leS.refl⟩
 ·have hs0 := hs
  clear e1 e3 e4 hs
  rintro w γ a' H9 ⟨e, i, rfl, hi, rfl, rfl, e1, e3, e4, e11, e12, lS9⟩
  refine Ajm (Aw2 ?_)
  (refine @unH _ ?_; refine zA Ak4 ?_; (repeat (refine inC ?_; intro hc)); try (refine inK ?_; intro K hK))
  refine Ajm (Bxt (by simp only [Aq9, Axk, Nat.reduceEqDiff, Nat.reduceLT, ↓reduceIte, *]; rfl) ?_ ?_) <;> intro hc
  ·have hlt : i < s.hampers.length := by simpa using hc
   clear hc
   refine Cjj ?_
   (try simp only [nq, ↓reduceIte, Nat.reduceEqDiff])
   refine Ajm (Bjy (Ajm (Aw2 ?_)))
   (refine @unH _ ?_; refine zA Ak4 ?_; (repeat (refine inC ?_; intro hc)); try (refine inK ?_; intro K hK))
   intro pb hpb
   ((try (refine @unH _ ?_; refine zX Ak4 ?_)); (try (refine hK _ _ ?_; clear hK K; (try simp only [nq, ↓reduceIte, Nat.reduceEqDiff]))); refine @unH _ ?_; refine zA Ak4 ?_; (repeat (refine inC ?_; intro hc)); try (refine inK ?_; intro K hK))
   obtain ⟨H10, hG⟩ : ∃ H10, H10 = H9.set pb (.cells #[.int .i64 i] 3 (0, 0)) := ⟨_, rfl⟩
   rw [<- hG]
   have vpb := Aqb hG.symm
   have lS10 : C.leS H10 := by rw [hG]; exact lS9.set (Bvy lS9 hpb)
   have hn3 := ok.h1
   clear hG lS9 hpb
   refine Ajm (Avw (Dx9 wgLib rfl rfl rfl (by rw [Aq9 (by decide)]; exact e4) rfl (by omega) (Bv5 ?_)))
   show wpV _ _ _ _ ((act 33 _ []).put (some 15) _) _
   rw [Aq3 (by decide)]
   have hcl : Cqf H (Bzb H10) := fun b p c t fr hb => by
    obtain ⟨p', h1, _⟩ := lS10 _ _ _ (hCle _ _ hb)
    exact ⟨false, Aw8 h1⟩
   have hfix : ∀ b p c t fr, C b = some (p, .cells c t fr) -> (Bzb H10) b = some (false, .cells c t fr) := fun b p c t fr hb => by
    obtain ⟨p', h1, _⟩ := lS10 _ _ _ hb
    exact Aw8 h1
   have hch := By6 (Bzb H10) c wg tb vx pb s _ _ _ i _ (hfix _ _ _ _ _ vvxC) (Aw8 vpb) (hfix _ _ _ _ _ vtbC) (hs0.cl hcl) ok (List.getElem?_eq_getElem hlt)
   refine Avw (Byo rfl rfl (Ayd (K := fun a' H' => ∃ e', a' = act 33 e' [] /\ H10 = H' /\ e' 16 = .func (.func 76) #[] #[.pointer (some ⟨wg, 0, none⟩), .pointer (some ⟨tb, 0, none⟩), .pointer (some ⟨vx, 0, none⟩), .pointer (some ⟨pb, 0, none⟩)] /\
    e' 1 = .pointer (some ⟨vx, 0, none⟩) /\ e' 3 = .pointer (some ⟨tb, 0, none⟩) /\ e' 4 = .pointer (some ⟨wg, 0, none⟩) /\ e' 11 = .int .i64 s.hampers.length /\ e' 12 = .int .i64 (i : Nat)) ?_ ?_))
   ·unfold opX
    change wpS _ (execOp _ ⟨some 16, .makeFunc (.func 76) #[] #[.tmp 4, .tmp 3, .tmp 1, .tmp 5], _, _, _, _⟩) _ _ _
    rw [Ayz]
    refine ⟨_, Aq3 (by decide), rfl, ?_, e1, e3, e4, e11, e12⟩
    simp only [Axk, ↓reduceIte, List.map_toArray, List.map_cons, List.map_nil, Aq9, Nat.reduceLT, Nat.reduceEqDiff, e1, e3, e4]
   ·clear e1 e3 e4 e11 e12
    rintro _ _ ⟨e', rfl, rfl, e16, e1, e3, e4, e11, e12⟩
    refine Dk7 rfl rfl (fun w hw => Cwu (by rw [Aq9 (by decide)]; exact e16) w) rfl Cke Cww hch (Bv5 ?_)
    show blk 1 _ .normal (act 33 e' []) _
    (try simp only [nq, ↓reduceIte, Nat.reduceEqDiff])
    refine Aw2 ?_
    have hle10 := lS10.trans Cwv
    generalize Bzb H10 = H11 at *
    clear hch hfix hcl vpb lS10
    (refine @unH _ ?_; refine zA Ak4 ?_; (repeat (refine inC ?_; intro hc)); try (refine inK ?_; intro K hK))
    refine ⟨_, by omega, _, i + 1, rfl, hlt, ?_, rfl, e1, e3, e4, e11, rfl, hle10⟩
    rw [List.range_succ, List.reverse_append]
    rfl
  ·have hge : ¬ i < s.hampers.length := by simpa using hc
   obtain rfl : i = s.hampers.length := by omega
   refine Cjh ?_
   (try simp only [nq, ↓reduceIte, Nat.reduceEqDiff])
   exact Cx1 H H8 C H9 c wg tb vx s ok _ rfl _ _ ha kc _ e1 e3 e4 lS9 hCle l08 vtbC vvxC hCwg
end Go.Proofs.YtkcomnkgdifboaaGreatDoor
end
