/- Texts WLaw WLink Keep RefA RefC VBest Follow LawVN VAdd. -/
import Derived.Test.YtgniilnljeedlaaGreatDoorJ17
import Derived.Test.YtgniilnljeedlaaGreatDoorChecked
import Derived.Conc.WgLib
set_option linter.defProp false
set_option linter.unusedSimpArgs false
set_option linter.unusedVariables false
set_option maxRecDepth 100000
set_option maxHeartbeats 2000000
section
namespace Go.X
open Go
open Go.Conc
theorem FnX.goodW {P : Program} {f : FuncId} {fn : Func} {args : Array Value} {W : World} {v₀ : Value} (h : FnX P (.wg P) f args (Bq2 W) fun e _ => e = .returned v₀) (hf : P.funcs[f]? = some fn)
  (hr : ∀ tmps w v w', (results fn tmps).run P w = .ok v w' -> w' = w) (hi : P.inits.idxOf? f = none) :
  Ends P (fun v w => v = v₀ /\ Base W w) (solo (G (Frame.enter P f args .normal) []) W) #[] := by
 rw [solo_eq_crowd]
 have hW0 := h [] (fun g H => ∃ fr, g = G fr [] /\ fr.fn = f /\ Leaving P fr H fun e _ => e = .returned v₀) fun fr H' hfn hl => .stop ⟨fr, rfl, hfn, hl⟩ (Hp.le_refl _)
 have hI : WI P W .idle (Bq2 W) #[G (Frame.enter P f args .normal) []] W #[] [] 0 (fun _ => .off 0) (fun _ => False) := by
  refine ⟨⟨fun x K hx => ?_, fun x y K K' hxy hx hy => ?_, fun x K hx b p o hb i a ha => (by simp [touchAt, Trace.act?] at ha), past_nil.clean, fun i a b ha => (by simp [touchAt, Trace.act?] at ha)⟩, rfl, fun i x hx => (by simp at hx), fun _ _ => rfl, rfl, fun i a ha => (by simp [touchAt, Trace.act?] at ha), fun i op a h => (by simp at h), fun y hy => hy.elim, ⟨rfl, rfl, Nat.le_refl _, fun _ _ => rfl⟩, fun x K b o hx hb => ?_, fun _ _ => rfl, rfl, fun _ i x K _ hq => (by cases hq), fun i x K st _ hq => (by cases hq), fun i => ⟨0, rfl⟩⟩
  ·by_cases hx0 : x = 0
   ·subst hx0; cases hx
    exact fun b p o hb => (Bq3 hb).2
   ·simp [hpW, hx0, PhW.mem] at hx
  ·by_cases hx0 : x = 0
   ·by_cases hy0 : y = 0
    ·exact absurd (hx0.trans hy0.symm) hxy
    ·simp [hpW, hy0, PhW.mem] at hy
   ·simp [hpW, hx0, PhW.mem] at hx
  ·by_cases hx0 : x = 0
   ·subst hx0; cases hx
    exact absurd (Bq3 hb).1 (by simp)
   ·simp [hpW, hx0, PhW.mem] at hx
 refine FanW.ends (W := W) ?_ hW0.fanW _ _ _ _ _ _ _ _ hI rfl
 rintro g H ⟨fr, rfl, hfn, hl⟩
 refine ⟨rfl, fun w hsat hB => ?_⟩
 rcases hl with ⟨hm, hd, hk, fn', hf', hres⟩ | ⟨ch, _, _, _, _, hres⟩
 ·obtain rfl : fn' = fn := Option.some.inj (hf'.symm.trans (by rw [hfn]; exact hf))
  obtain ⟨es, w', H', hmv, r, hrun, hd'⟩ := Avb _ w hsat hres
  have hr0 : (results fn' fr.tmps).runT P w #[] = (r, es) := by rw [hrun #[]]; simp
  rcases hd' with ⟨v, rfl, hv⟩ | ⟨v, _, hv⟩
  ·have hrun' : (results fn' fr.tmps).run P w = .ok v w' := by
    have := congrArg Prod.fst hr0
    simpa using this
   have := hr _ _ _ _ hrun'
   subst this
   have hv' : v = v₀ := by injection hv
   subst hv'
   refine ⟨v, seen P fr.fn es, ?_, ?_, rfl, hB⟩
   ·have hi' : P.inits.idxOf? fr.fn = none := by rw [hfn]; exact hi
    simp [G, stepG, unwind, doReturn, hm, hd, hk, hf', hr0, hi', GStep.after, -Sem.runT_eq]
   ·have hq := hmv.seen (P := P) fr.fn
    exact ⟨hsat, hq.size, fun _ _ _ => rfl, fun b p o' hb => .inl ⟨o', hb, fun _ => rfl⟩, rfl, rfl, rfl, hq.evs, hq.low⟩
  ·exact hv.elim
 ·cases hres
end Go.X
end
section
namespace Go.Proofs.YtgniilnljeedlaaGreatDoor
open Go
def lk : Go.Conc.Lib.WgLink := { add := 123, done := 125, wait := 128, relMerge := 140, disable := 141, enable := 142, inBubble := 143, associate := 144, fatal := 145, uOr := 146, uAdd := 147, raceRead := 148, uLoad := 149, uStore := 150, disassociate := 151, semrelease := 152, acquire := 155, isAssociated := 156, uCas := 157, raceWrite := 158, semacquire := 159, orU64 := 163, addU64 := 164, loadU64 := 165, storeU64 := 166, casU64 := 167, tWgP := 196, tUP := 180, tAssoc := 198, tWg := 174, tAU := 171, tU64 := 74, tUint := 163, tU32 := 172, tPU32 := 202, tPAU := 223, tPU64 := 225, tNoCopy := 167, tANoCopy := 168, tAlign64 := 169 }
theorem wgLib : Go.Conc.Lib.WgLib Tryz.prog lk :=
 ⟨Tryz.func123, Tryz.func125, Tryz.func128, Tryz.func140, Tryz.func141, Tryz.func142, Tryz.func143, Tryz.func144, Tryz.func145, Tryz.func146, Tryz.func147, Tryz.func148, Tryz.func149, Tryz.func150, Tryz.func151, Tryz.func152, Tryz.func155, Tryz.func156, Tryz.func157, Tryz.func158, Tryz.func159, Tryz.func163, Tryz.func164, Tryz.func165, Tryz.func166, Tryz.func167, Tryz.underlying196, Tryz.runUnderlying196, Tryz.sizeOf196, Tryz.isAgg196, Tryz.zeroValue196, Tryz.underlying180, Tryz.runUnderlying180, Tryz.sizeOf180, Tryz.isAgg180, Tryz.zeroValue180, Tryz.underlying198, Tryz.runUnderlying198, Tryz.sizeOf198, Tryz.isAgg198, Tryz.zeroValue198, Tryz.underlying174, Tryz.runUnderlying174, Tryz.sizeOf174, Tryz.isAgg174, Tryz.zeroValue174, Tryz.underlying171, Tryz.runUnderlying171, Tryz.sizeOf171, Tryz.isAgg171, Tryz.zeroValue171, Tryz.underlying74, Tryz.runUnderlying74, Tryz.sizeOf74, Tryz.isAgg74, Tryz.zeroValue74, Tryz.underlying163, Tryz.runUnderlying163, Tryz.sizeOf163, Tryz.isAgg163, Tryz.zeroValue163, Tryz.underlying172, Tryz.runUnderlying172, Tryz.sizeOf172, Tryz.isAgg172, Tryz.zeroValue172, Tryz.underlying202, Tryz.runUnderlying202, Tryz.sizeOf202, Tryz.isAgg202, Tryz.zeroValue202, Tryz.underlying223, Tryz.runUnderlying223, Tryz.sizeOf223, Tryz.isAgg223, Tryz.zeroValue223, Tryz.underlying225, Tryz.runUnderlying225, Tryz.sizeOf225, Tryz.isAgg225, Tryz.zeroValue225, Tryz.underlying0, Tryz.runUnderlying0, Tryz.sizeOf0, Tryz.isAgg0, Tryz.zeroValue0, Tryz.underlying3, Tryz.runUnderlying3, Tryz.sizeOf3, Tryz.isAgg3, Tryz.zeroValue3, Tryz.underlying4, Tryz.runUnderlying4, Tryz.sizeOf4, Tryz.isAgg4, Tryz.zeroValue4, Tryz.underlying9, Tryz.runUnderlying9, Tryz.sizeOf9, Tryz.isAgg9, Tryz.zeroValue9, Tryz.underlying20, Tryz.runUnderlying20, Tryz.sizeOf20, Tryz.isAgg20, Tryz.zeroValue20, Tryz.underlying21, Tryz.runUnderlying21, Tryz.sizeOf21, Tryz.isAgg21, Tryz.zeroValue21, by kernel_rfl, by kernel_rfl⟩
end Go.Proofs.YtgniilnljeedlaaGreatDoor
end
section
namespace Go.Proofs.YtgniilnljeedlaaGreatDoor
open Go Go.X
def Bxr := (fun H => Bqi (H := H) Tryz.underlying22 Tryz.sizeOf3)
def Cqa := And.intro (fun H => Aq5 (H := H) Tryz.underlying22) (And.intro (fun H => Aqq (H := H) Tryz.underlying22 Tryz.sizeOf3) (fun H => Aqd (H := H) Tryz.underlying3 rfl))
theorem Dvk {p q : Prop} (g : q) (h : Hid q -> p := by
 intro g
 repeat' (first
 | (refine Axn rfl ?_; intro Kz hKz; simp -implicitDefEqProofs (disch := first | omega | (simp only [qd] <;> omega)) only [xq, ↓xp, qc, Nat.reduceAdd, List.range, List.range.loop, fine, Nat.reduceEqDiff, ↓reduceIte, yielded, reduceCtorEq, Nat.reduceLT, Nat.reduceMul, Nat.reduceSub, one, Nat.reduceLeDiff, Aqa, Cqa, aq, ↓ap, qe0, qe1, qe2, *, -g, -hKz, beq_self_eq_true]; try (refine hKz _ _ ?_; clear hKz Kz))
 | (refine Axs rfl ?_; intro Kz hKz; simp -implicitDefEqProofs (disch := first | omega | (simp only [qd] <;> omega)) only [xq, ↓xp, qc, Nat.reduceAdd, List.range, List.range.loop, fine, Nat.reduceEqDiff, ↓reduceIte, yielded, reduceCtorEq, Nat.reduceLT, Nat.reduceMul, Nat.reduceSub, one, Nat.reduceLeDiff, Aqa, Cqa, aq, ↓ap, qe0, qe1, qe2, *, -g, -hKz, beq_self_eq_true]; try (refine hKz _ _ ?_; clear hKz Kz; (try simp only [nq, ↓reduceIte, Nat.reduceEqDiff])))
 | (refine Aqu ?_; (try simp only [nq, ↓reduceIte, Nat.reduceEqDiff]))
 | (refine Axr ?_; (try simp only [nq, ↓reduceIte, Nat.reduceEqDiff]))
 | (refine Axb ?_; (try simp only [nq, ↓reduceIte, Nat.reduceEqDiff]))
 | (refine Azb ?_; (try simp only [nq, ↓reduceIte, Nat.reduceEqDiff]))
 | (refine Axy (by simp only [Aqm, Aqr, Nat.reduceEqDiff, Nat.reduceLT, ↓reduceIte, *, -g]; rfl) ?_ ?_ <;> (intro hcz; first | (exfalso; simp -implicitDefEqProofs (disch := omega) only [*, -g, bq, reduceCtorEq] at hcz; done) | (simp only [dq, qe3, qe4, qe5, qe6] at hcz) | skip))
 | (refine Axq ?_)
 | (refine Aqo ?_)
 | (refine Aql ?_))
 (try (revert Kz; refine unK ?_)); (repeat (revert hcz; refine unC ?_))
 exact Hid.out g) : Hid p := ⟨h ⟨g⟩⟩
theorem Bx0 (m : Md) (H : Hp) (v : Value) (xs : List Int) (hv : SlI H v xs) (hl : xs.length <= 1000000) :
  FnX Tryz.prog m 27 #[v] H fun e H' => ∃ w, e = .returned w /\ RowX none H H' w 3 (ints xs) := by
 obtain ⟨a, cap, rfl, hcap, hx⟩ := hv
 refine Aqk Tryz.func27 rfl Tryz.ntmps27 (by simp) ?_
 (refine @unH _ ?_; refine zA @Bxr ?_; (repeat (refine inC ?_; intro hc)); try (refine inK ?_; intro K hK))
 intro nb hnb
 have hle : H.le (H.set nb (.cells #[] 3 (0, 0))) := Hp.le_set hnb
 have hrow0 : Aj5 H (H.set nb (.cells #[] 3 (0, 0))) (.slice (some ⟨nb, 0, none⟩) 0 0) 3 1 0 (ints []) := .inr ⟨nb, #[], 0, hnb, rfl, rfl, rfl, rfl, Nat.le_refl _, fun i u hi => by simp [ints] at hi⟩
 cases xs with
 | nil =>
  ((try (refine @unH _ ?_; refine zX @Bxr ?_)); (try (refine hK _ _ ?_; clear hK K; (try simp only [nq, ↓reduceIte, Nat.reduceEqDiff]))); refine @unH _ ?_; refine zA @Bxr ?_; (repeat (refine inC ?_; intro hc)); try (refine inK ?_; intro K hK))
  refine Av7 Tryz.underlying22 Tryz.sizeOf3 _ _ _ _ _ _ _ (Nat.le_refl _) _ _ ?_
  ((try (refine @unH _ ?_; refine zX @Bxr ?_)); (try (refine hK _ _ ?_; clear hK K; (try simp only [nq, ↓reduceIte, Nat.reduceEqDiff]))); refine @unH _ ?_; refine zA @Bxr ?_; (repeat (refine inC ?_; intro hc)); try (refine inK ?_; intro K hK))
  (refine @unH _ ?_; refine z9 Tryz.results27 ?_)
  exact ⟨_, rfl, Lex.of hle, .inr ⟨nb, #[], 0, hnb, Aqw, rfl, rfl, Nat.le_refl _, fun i u hi => by simp [ints] at hi⟩⟩
 | cons x0 xs0 =>
  obtain ⟨b', o', p', c', fr', h', hb', _⟩ := hx 0 x0 rfl
  subst h'
  ((try (refine @unH _ ?_; refine zX @Bxr ?_)); (try (refine hK _ _ ?_; clear hK K; (try simp only [nq, ↓reduceIte, Nat.reduceEqDiff]))); refine @unH _ ?_; refine zA @Bxr ?_; (repeat (refine inC ?_; intro hc)); try (refine inK ?_; intro K hK))
  have hgne : b' ≠ nb := Ax1 hb' hnb
  refine Ajq hrow0 (Hp.le_refl _) (ys := x0 :: xs0) rfl (fun h => absurd h (by rw [hb']; simp)) (fun j y hj => ?_) (by simp at hl ⊢; omega) _ _ _ _ (fun v' H1 H2 hr hl2 => ?_)
  ·obtain ⟨b2, o2, p2, c2, fr2, e2, hb2, hc2⟩ := hx j y hj
   cases e2
   rw [Bql hgne, cell_of hb2]
   exact hc2
  ·((try (refine @unH _ ?_; refine zX @Bxr ?_)); (try (refine hK _ _ ?_; clear hK K; (try simp only [nq, ↓reduceIte, Nat.reduceEqDiff]))); refine @unH _ ?_; refine zA @Bxr ?_; (repeat (refine inC ?_; intro hc)); try (refine inK ?_; intro K hK))
   (refine @unH _ ?_; refine z9 Tryz.results27 ?_)
   refine ⟨_, rfl, ?_⟩
   have hlen := hr.len
   rcases hr with ⟨_, h0, _⟩ | ⟨b3, c3, cap3, hb3, rfl, rfl, hs3, hl3, hn3, hg3⟩
   ·simp at h0
   ·refine ⟨Lex.of (Hp.le_trans (Hp.le_set hb3) hl2), .inr ⟨b3, c3, cap3, hb3, hl2 _ _ Aqw, ?_, by simpa using hs3, ?_, ?_⟩⟩
    ·simp [ints]
    ·simpa [ints] using hn3
    ·intro i u hi; exact hg3 i u (by simpa using hi)
theorem Cye (m : Md) (H : Hp) (v : Value) (xs : List Int) (n : Int) (hv : SlI H v xs) (hl : xs.length <= 1000000) :
  FnX Tryz.prog m 50 #[v, .int .i64 n] H fun e H' => H' = H /\ ∃ r : Int, e = .returned (.int .i64 r) /\ ((r = -1 /\ n ∉ xs) ∨ ∃ k : Nat, r = k /\ k < xs.length /\ xs[k]? = some n /\ n ∉ xs.take k) := by
 have hvS := hv
 obtain ⟨a, cap, rfl, hcap, hx⟩ := hv
 refine Aqk Tryz.func50 rfl Tryz.ntmps50 (by simp) ?_
 (refine @unH _ ?_; refine zA Cqa ?_; (repeat (refine inC ?_; intro hc)); try (refine inK ?_; intro K hK))
 refine Axe (fun w a' H' => ∃ e j, w = xs.length - j /\ j <= xs.length /\ a' = act 19 e [] /\ e 0 = .slice a xs.length cap /\ e 1 = .int .i64 n /\ e 5 = .int .i64 (j : Nat) /\ H' = H /\ n ∉ xs.take j) (n := xs.length) ?_ ?_
 ·exact ⟨_, 0, by omega, by omega, rfl, rfl, rfl, rfl, by trivial, by simp⟩
 ·rintro w a' H' ⟨e, j, rfl, hj, rfl, e0, e1, e5, hH, hno⟩
  rw [hH]; clear hH H'
  by_cases hlt : j < xs.length
  ·obtain ⟨b, o, p, c, fr, rfl, hb, hcx⟩ := hx j xs[j] (List.getElem?_eq_getElem hlt)
   have hxj := List.getElem?_eq_getElem hlt
   generalize hy : xs[j] = y at *
   have hcx' : c[o + (j : Int).toNat * 1]? = some (.int .i64 y) := by simpa using hcx
   have hno' : Aqs (n ∉ xs.take j) := hno
   have hxj' : Aqs (xs[j]? = some y) := hxj
   clear hx hno hxj hy
   by_cases hyn : y = n
   ·subst hyn
    (refine @unH _ ?_; refine Dvk ?_; (repeat (refine inC ?_; intro hc)); try (refine inK ?_; intro K hK))
    (refine @unH _ ?_; refine z9 Tryz.results50 ?_)
    exact ⟨by trivial, _, rfl, .inr ⟨j, rfl, hlt, hxj', hno'⟩⟩
   ·have hne : (y == n) = false := beq_false_of_ne hyn
    clear hyn
    have hnext : n ∉ xs.take (j + 1) := fun h => by
     have hxj : xs[j]? = some y := hxj'
     rw [List.take_add_one, hxj] at h
     rcases List.mem_append.1 h with h | h
     ·exact hno' h
     ·rw [show n = y by simpa using h] at hne
      simp at hne
    replace hnext : Aqs _ := hnext
    (refine @unH _ ?_; refine zA Cqa ?_; (repeat (refine inC ?_; intro hc)); try (refine inK ?_; intro K hK))
    exact ⟨_, by omega, _, j + 1, rfl, hlt, rfl, e0, e1, rfl, by trivial, hnext⟩
  ·obtain rfl : j = xs.length := by omega
   (refine @unH _ ?_; refine zA Cqa ?_; (repeat (refine inC ?_; intro hc)); try (refine inK ?_; intro K hK))
   (refine @unH _ ?_; refine z9 Tryz.results50 ?_)
   exact ⟨by trivial, _, rfl, .inl ⟨rfl, by simpa using hno⟩⟩
def atF (xs : List Int) (n : Int) : Int := match xs.findIdx? (· == n) with
 | some k => k
 | none => -1
theorem Ckq {xs : List Int} {n : Int} (h : n ∉ xs) : atF xs n = -1 := by
 unfold atF
 have e : xs.findIdx? (· == n) = none := List.findIdx?_eq_none_iff.2 (fun x hx => beq_false_of_ne fun e => h (by rw [<- e]; exact hx))
 rw [e]
theorem Djk {xs : List Int} {n : Int} {k : Nat} (hk : xs[k]? = some n) (hn : n ∉ xs.take k) : atF xs n = k := by
 obtain ⟨hlt, he⟩ := List.getElem?_eq_some_iff.1 hk
 unfold atF
 rw [List.findIdx?_eq_some_iff_getElem.2 ⟨hlt, by simp [he], fun j hj => by
  have : xs[j]'(by omega) ∈ xs.take k := List.mem_iff_getElem.2 ⟨j, by rw [List.length_take]; omega, by rw [List.getElem_take]⟩
  simp
  intro e
  exact hn (e ▸ this)⟩]
theorem Cqg {xs : List Int} {n : Int} (h : n ∈ xs) : 0 <= atF xs n /\ atF xs n < xs.length /\ xs[(atF xs n).toNat]? = some n := by
 unfold atF
 cases hf : xs.findIdx? (· == n) with
 | none => exact absurd h (fun hm => by have := List.findIdx?_eq_none_iff.1 hf n hm; simp at this)
 | some k =>
  obtain ⟨h1, h2, _⟩ := List.findIdx?_eq_some_iff_getElem.1 hf
  simp only [beq_iff_eq] at h2
  simp only [Int.toNat_natCast]
  refine ⟨by omega, by omega, ?_⟩
  rw [List.getElem?_eq_getElem h1, h2]
theorem Bki {xs : List Int} {n : Int} : 0 <= atF xs n ↔ n ∈ xs := by
 constructor
 ·intro h
  by_cases hm : n ∈ xs
  ·exact hm
  ·rw [Ckq hm] at h; omega
 ·exact fun h => (Cqg h).1
theorem Cko (xs : List Int) (n : Int) : -1 <= atF xs n /\ atF xs n < xs.length := by
 by_cases h : n ∈ xs
 ·have := Cqg h; omega
 ·rw [Ckq h]; omega
theorem SlR.get {H : Hp} {a : Option Addr} {n cap : Nat} {xss : List (List Int)} (h : SlR H (.slice a n cap) xss) {i : Nat} {xs : List Int} (hx : xss[i]? = some xs) :
  ∃ (b o : Nat) (p : Bool) (c : Array Value) (fr : Nat × Nat) (w : Value), a = some ⟨b, o, none⟩ /\ H b = some (p, .cells c 22 fr) /\ c[o + i]? = some w /\ SlI H w xs := by
 obtain ⟨a', cap', he, _, hg⟩ := h
 cases he
 exact hg i xs hx
theorem Cwo {H : Hp} {a : Option Addr} {m cap : Nat} {xs : List Int} (h : SlI H (.slice a m cap) xs) {k : Nat} (hk : k <= xs.length) : SlI H (.slice a k cap) (xs.take k) := by
 obtain ⟨a', c', h1, h2, h3⟩ := h
 cases h1
 have hl : (xs.take k).length = k := by rw [List.length_take]; omega
 refine ⟨_, _, by rw [hl], by omega, fun i x hi => ?_⟩
 rw [List.getElem?_take] at hi
 split at hi
 ·exact h3 i x hi
 ·cases hi
def chF (pl : Int) : List Int -> Nat -> List Int -> Option Nat
 | [], _, [] => some 0
 | t :: ts, m, c :: cs => if c ∈ Axz pl m t then (chF pl ts (Aqv m c t) cs).map (Azc m t + ·) else none
 | _, _, _ => none
def Axl (L : Nat) (pl : Int) : List Int -> Nat -> List (List Int)
 | [], _ => [[]]
 | t :: ts, m => (Axz pl m t).flatMap fun s => if Azc m t + optF L pl ts (Aqv m s t) <= optF L pl (t :: ts) m then (Axl L pl ts (Aqv m s t)).map (s :: ·) else []
theorem Czd (m : Nat) : (Ax4 m).Pairwise (· < ·) := by
 unfold Ax4 Aws
 rw [List.pairwise_map]
 refine List.Pairwise.imp (R := (· < ·)) (fun {a b} h => by omega) ?_
 exact List.Pairwise.sublist (List.filter_sublist) List.pairwise_lt_range
theorem Dqz (pl : Int) (m : Nat) (t : Int) : (Axz pl m t).Pairwise (· < ·) := by
 unfold Axz
 split
 ·exact List.pairwise_singleton _ _
 ·split
  ·exact Czd m
  ·exact List.pairwise_singleton _ _
theorem Cva {pl : Int} : ∀ {ts : List Int} {m : Nat} {cs : List Int} {k : Nat}, chF pl ts m cs = some k -> cs.length = ts.length
 | [], _, [], _, _ => rfl
 | [], _, _ :: _, _, h => by simp [chF] at h
 | _ :: _, _, [], _, h => by simp [chF] at h
 | t :: ts, m, c :: cs, k, h => by
  unfold chF at h
  split at h
  ·rw [Option.map_eq_some_iff] at h
   obtain ⟨k', h', _⟩ := h
   simp [Cva h']
  ·cases h
theorem Dxh (L : Nat) {pl : Int} : ∀ {ts : List Int} {m : Nat} {cs : List Int} {k : Nat}, chF pl ts m cs = some k -> optF L pl ts m <= k
 | [], _, [], _, _ => Nat.zero_le _
 | [], _, _ :: _, _, h => by simp [chF] at h
 | _ :: _, _, [], _, h => by simp [chF] at h
 | t :: ts, m, c :: cs, k, h => by
  unfold chF at h
  split at h
  ·rename_i hc
   rw [Option.map_eq_some_iff] at h
   obtain ⟨k', h', rfl⟩ := h
   have := Dxh L h'
   have := Akv L pl t ts m c hc
   omega
  ·cases h
theorem Avq (L : Nat) {pl : Int} : ∀ {ts : List Int} {m : Nat} {cs : List Int}, cs ∈ Axl L pl ts m ↔ chF pl ts m cs = some (optF L pl ts m)
 | [], m, cs => by
  cases cs with
  | nil => simp [Axl, chF, optF]
  | cons c cs => simp [Axl, chF]
 | t :: ts, m, cs => by
  unfold Axl
  rw [List.mem_flatMap]
  cases cs with
  | nil =>
   simp only [chF, reduceCtorEq, iff_false]
   rintro ⟨s, _, h⟩
   split at h
   ·simp at h
   ·simp at h
  | cons c cs =>
   constructor
   ·rintro ⟨s, hs, h⟩
    split at h
    ·rename_i hle
     rw [List.mem_map] at h
     obtain ⟨cs', h1, h2⟩ := h
     obtain ⟨rfl, rfl⟩ := List.cons.inj h2
     have ih := (Avq L).1 h1
     unfold chF
     rw [if_pos hs, ih, Option.map_some]
     have := Akv L pl t ts m s hs
     congr 1
     omega
    ·simp at h
   ·intro h
    have h0 := h
    unfold chF at h
    split at h
    ·rename_i hc
     rw [Option.map_eq_some_iff] at h
     obtain ⟨k, h1, h2⟩ := h
     have h3 := Dxh L h1
     have h4 := Akv L pl t ts m c hc
     refine ⟨c, hc, ?_⟩
     rw [if_pos (by omega), List.mem_map]
     exact ⟨cs, (Avq L).2 (by rw [h1]; congr 1; omega), rfl⟩
    ·cases h
def Lx : List Int -> List Int -> Prop
 | a :: xs, b :: ys => a < b ∨ (a = b /\ Lx xs ys)
 | _, _ => False
theorem Lx.trans : ∀ {a b c : List Int}, Lx a b -> Lx b c -> Lx a c
 | a :: xs, b :: ys, c :: zs, h, h' => by
  unfold Lx at *
  rcases h with h | ⟨rfl, h⟩ <;> rcases h' with h' | ⟨rfl, h'⟩
  ·exact .inl (by omega)
  ·exact .inl h
  ·exact .inl h'
  ·exact .inr ⟨rfl, h.trans h'⟩
theorem Lx.irr : ∀ {a : List Int}, ¬ Lx a a
 | [], h => by unfold Lx at h; exact h
 | a :: xs, h => by
  unfold Lx at h
  rcases h with h | ⟨_, h⟩
  ·omega
  ·exact Lx.irr h
theorem Lx.asymm {a b : List Int} (h : Lx a b) (h' : Lx b a) : False := (h.trans h').irr
theorem Bwr (L : Nat) (pl : Int) : ∀ (ts : List Int) (m : Nat), (Axl L pl ts m).Pairwise Lx
 | [], _ => List.pairwise_singleton _ _
 | t :: ts, m => by
  unfold Axl
  rw [List.pairwise_flatMap]
  refine ⟨fun s hs => ?_, ?_⟩
  ·split
   ·rw [List.pairwise_map]
    exact (Bwr L pl ts _).imp fun h => by unfold Lx; exact .inr ⟨rfl, h⟩
   ·exact List.Pairwise.nil
  ·refine (Dqz pl m t).imp fun {a b} hab x hx y hy => ?_
   have hx' : ∃ xs, x = a :: xs := by
    split at hx
    ·obtain ⟨xs, _, rfl⟩ := List.mem_map.1 hx; exact ⟨xs, rfl⟩
    ·simp at hx
   have hy' : ∃ ys, y = b :: ys := by
    split at hy
    ·obtain ⟨ys, _, rfl⟩ := List.mem_map.1 hy; exact ⟨ys, rfl⟩
    ·simp at hy
   obtain ⟨xs, rfl⟩ := hx'
   obtain ⟨ys, rfl⟩ := hy'
   unfold Lx
   exact .inl hab
theorem Bqf (L : Nat) {pl : Int} (h1 : 1 <= pl) : ∀ (ts : List Int) (m : Nat), ts.length <= L -> (Axl L pl ts m).head? = some (Ajt L pl ts m)
 | [], _, _ => rfl
 | t :: ts, m, hl => by
  have key : ∀ (l : List Int), (∃ s ∈ l, Azc m t + optF L pl ts (Aqv m s t) <= optF L pl (t :: ts) m) ->
    (l.flatMap fun s => if Azc m t + optF L pl ts (Aqv m s t) <= optF L pl (t :: ts) m then (Axl L pl ts (Aqv m s t)).map (s :: ·) else []).head? =
     some (((l.find? fun s => Azc m t + optF L pl ts (Aqv m s t) <= optF L pl (t :: ts) m).getD (-1)) :: Ajt L pl ts (Aqv m ((l.find? fun s => Azc m t + optF L pl ts (Aqv m s t) <= optF L pl (t :: ts) m).getD (-1)) t)) := by
   intro l
   induction l with
   | nil => rintro ⟨s, hs, _⟩; cases hs
   | cons a l ih =>
    rintro ⟨s, hs, hle⟩
    rw [List.flatMap_cons, List.find?_cons]
    by_cases ha : Azc m t + optF L pl ts (Aqv m a t) <= optF L pl (t :: ts) m
    ·simp only [ha, if_true, decide_true, Option.getD_some]
     have ih2 := Bqf L h1 ts (Aqv m a t) (by simp at hl; omega)
     rw [List.head?_append, List.head?_map, ih2]
     rfl
    ·simp only [ha, if_false, decide_false, List.nil_append]
     refine ih ⟨s, ?_, hle⟩
     rcases List.mem_cons.1 hs with rfl | hs
     ·exact absurd hle ha
     ·exact hs
  obtain ⟨s, hs, he⟩ := Bqq L pl h1 t ts m hl
  unfold Axl Ajt
  exact key _ ⟨s, hs, by omega⟩
theorem Czg {pl r : Int} {ts : List Int} {s0 : RS} (h1 : 1 <= pl) (hb : ∀ t ∈ ts, 0 <= t /\ t < 6) : ∀ k i, i + k = ts.length ->
  chF pl (ts.drop i) (rrun pl r ts s0 i).m ((List.range k).map fun j => Aji pl r ts (i + j) (ts.getD (i + j) 0) (rrun pl r ts s0 (i + j))) = some ((rrun pl r ts s0 ts.length).f - (rrun pl r ts s0 i).f) /\ (rrun pl r ts s0 i).f <= (rrun pl r ts s0 ts.length).f
 | 0, i, h => by
  obtain rfl : i = ts.length := by omega
  simp [chF]
 | k + 1, i, h => by
  have h6 := Ckc (i := i) (by omega) hb
  have ih := Czg (r := r) (s0 := s0) h1 hb k (i + 1) (by omega)
  rw [Cwt (by omega), List.range_succ_eq_map, List.map_cons, List.map_map]
  unfold chF
  have hs := Ayp (pl := pl) (r := r) (ts := ts) (i := i) (s := rrun pl r ts s0 i) h1 h6.1 h6.2
  rw [if_pos (by simpa using hs)]
  have e : Aqv (rrun pl r ts s0 i).m (Aji pl r ts (i + 0) (ts.getD (i + 0) 0) (rrun pl r ts s0 (i + 0))) (ts.getD i 0) = (rrun pl r ts s0 (i + 1)).m := rfl
  have e2 : ((fun j => Aji pl r ts (i + j) (ts.getD (i + j) 0) (rrun pl r ts s0 (i + j))) ∘ Nat.succ) = fun j => Aji pl r ts (i + 1 + j) (ts.getD (i + 1 + j) 0) (rrun pl r ts s0 (i + 1 + j)) := by
   funext j
   simp only [Function.comp]
   rw [show i + Nat.succ j = i + 1 + j by omega]
  have ef : (rrun pl r ts s0 (i + 1)).f = (rrun pl r ts s0 i).f + Azc (rrun pl r ts s0 i).m (ts.getD i 0) := Bkl _ _ _ _ _ _
  rw [e, e2, ih.1, Option.map_some]
  refine ⟨?_, by omega⟩
  congr 1
  omega
theorem Cj4 {pl r : Int} {ts start : List Int} (h8 : ts.length <= 8) : (rrun pl r ts (rs0 start) ts.length).cl.take ts.length = (List.range ts.length).map fun j => Aji pl r ts j (ts.getD j 0) (rrun pl r ts (rs0 start) j) := by
 have hcl : (rs0 start).cl.length = 8 := by simp [rs0]
 obtain ⟨hl, hc⟩ := Cwk (pl := pl) (r := r) (ts := ts) hcl h8 ts.length (Nat.le_refl _)
 refine List.ext_getElem? fun i => ?_
 by_cases hi : i < ts.length
 ·rw [List.getElem?_take_of_lt hi, hc i hi, List.getElem?_map, List.getElem?_range hi, Option.map_some]
 ·rw [List.getElem?_eq_none (by simp; omega), List.getElem?_eq_none (by simp; omega)]
theorem Cwm {pl r : Int} {ts start : List Int} (h1 : 1 <= pl) (h8 : ts.length <= 8) (hb : ∀ t ∈ ts, 0 <= t /\ t < 6) : chF pl ts (oOf start) ((rrun pl r ts (rs0 start) ts.length).cl.take ts.length) = some (rrun pl r ts (rs0 start) ts.length).f := by
 have := (Czg (r := r) (s0 := rs0 start) h1 hb ts.length 0 (by omega)).1
 rw [Cj4 h8]
 simpa [rrun, rs0] using this
theorem run_ge {pl r : Int} {ts start : List Int} (L : Nat) (hL : ts.length <= L) (h1 : 1 <= pl) (hb : ∀ t ∈ ts, 0 <= t /\ t < 6) : optF L pl ts (oOf start) <= (rrun pl r ts (rs0 start) ts.length).f := by
 have := Bkz (r := r) (s0 := rs0 start) L hL h1 hb ts.length (Nat.le_refl _)
 rw [List.drop_length] at this
 simpa [rs0, optF] using this
theorem Dq5 {pl : Int} {ts start : List Int} (L : Nat) (hL : ts.length <= L) (h1 : 1 <= pl) (hb : ∀ t ∈ ts, 0 <= t /\ t < 6) (hs : ∀ y ∈ start, 0 <= y /\ y < 6) (hl : (start.length : Int) <= pl) : (rrun pl 3 ts (rs0 start) ts.length).f = optF L pl ts (oOf start) := by
 have := Byp (s0 := rs0 start) L hL h1 hb (Cwq hs hl) ts.length (Nat.le_refl _)
 rw [List.drop_length] at this
 simpa [rs0, optF] using this.symm
def Aq7 (pl : Int) : List Int -> List Int -> List Int -> Option Nat
 | _, [], [] => some 0
 | o, t :: ts, c :: cs =>
  if t ∈ o then (if c = -1 then Aq7 pl o ts cs else none)
  else if (o.length : Int) < pl then (if c = -1 then (Aq7 pl (o ++ [t]) ts cs).map (1 + ·) else none)
  else if c ∈ o then (Aq7 pl (o.erase c ++ [t]) ts cs).map (1 + ·) else none
 | _, _, _ => none
structure OffA (o : List Int) (m : Nat) : Prop where
 mem : ∀ x, inO m x ↔ x ∈ o
 nd : o.Nodup
theorem OffA.len {o : List Int} {m : Nat} (h : OffA o m) : Aq3 m = o.length := by
 rw [<- Ak3]
 have hn : (Ax4 m).Nodup := (Czd m).imp fun h => by omega
 exact ((List.perm_ext_iff_of_nodup hn h.nd).2 fun x => by rw [Azg, h.mem]).length_eq
theorem Ak2 {pl : Int} : ∀ (ts cs o : List Int) (m : Nat), OffA o m -> (∀ t ∈ ts, 0 <= t /\ t < 6) -> Aq7 pl o ts cs = chF pl ts m cs
 | [], [], _, _, _, _ => by simp [Aq7, chF]
 | [], _ :: _, _, _, _, _ => by simp [Aq7, chF]
 | _ :: _, [], _, _, _, _ => by simp [Aq7, chF]
 | t :: ts, c :: cs, o, m, h, hb => by
  have ht := hb t List.mem_cons_self
  have hb' : ∀ x ∈ ts, 0 <= x /\ x < 6 := fun x hx => hb x (List.mem_cons_of_mem _ hx)
  have hl := h.len
  unfold Aq7 chF
  by_cases hto : t ∈ o
  ·rw [if_pos hto]
   obtain ⟨h1, h2⟩ := Azx (pl := pl) ht.1 ht.2 ((h.mem t).2 hto)
   rw [h1, h2]
   simp only [List.mem_singleton]
   by_cases hc : c = -1
   ·subst hc
    rw [if_pos rfl, if_pos rfl]
    have h3 : OffA o (Aqv m (-1) t) := ⟨fun x => by
     rw [Azo (by omega) (by omega) ht.1 ht.2, h.mem]
     exact ⟨fun h => h.elim (fun e => e ▸ hto) fun h => h.1, fun hx => .inr ⟨hx, Ajd ((h.mem x).2 hx)⟩⟩, h.nd⟩
    rw [Ak2 ts cs o _ h3 hb']
    cases chF pl ts (Aqv m (-1) t) cs <;> simp
   ·rw [if_neg hc, if_neg hc]
  ·rw [if_neg hto]
   obtain ⟨h1, h2⟩ := Ax0 (pl := pl) (fun hh => hto ((h.mem t).1 hh)) ht.1 ht.2
   rw [h1, h2]
   by_cases hf : (o.length : Int) < pl
   ·rw [if_pos hf, if_neg (show ¬ pl <= Aq3 m by omega)]
    simp only [List.mem_singleton]
    by_cases hc : c = -1
    ·subst hc
     rw [if_pos rfl, if_pos rfl]
     have h3 : OffA (o ++ [t]) (Aqv m (-1) t) := ⟨fun x => by
      rw [Azo (by omega) (by omega) ht.1 ht.2, h.mem, List.mem_append, List.mem_singleton]
      exact ⟨fun hh => hh.elim .inr fun hh => .inl hh.1, fun hx => hx.elim (fun hx => .inr ⟨hx, Ajd ((h.mem x).2 hx)⟩) .inl⟩, by
      rw [List.nodup_append]
      exact ⟨h.nd, List.pairwise_singleton _ _, fun a ha b hb e => hto (by rw [List.mem_singleton] at hb; rw [<- hb, <- e]; exact ha)⟩⟩
     rw [Ak2 ts cs _ _ h3 hb']
    ·rw [if_neg hc, if_neg hc]
   ·rw [if_neg hf, if_pos (show pl <= Aq3 m by omega)]
    simp only [Azg, h.mem]
    by_cases hc : c ∈ o
    ·rw [if_pos hc, if_pos hc]
     have hcr := (h.mem c).2 hc
     have hcb : 0 <= c /\ c < 6 := ⟨hcr.1, hcr.2.1⟩
     have h3 : OffA (o.erase c ++ [t]) (Aqv m c t) := ⟨fun x => by
      rw [Azo (by omega) hcb.2 ht.1 ht.2, h.mem, List.mem_append, List.mem_singleton, h.nd.mem_erase_iff]
      exact ⟨fun hh => hh.elim .inr fun hh => .inl ⟨hh.2, hh.1⟩, fun hx => hx.elim (fun hx => .inr ⟨hx.2, hx.1⟩) .inl⟩, by
      rw [List.nodup_append]
      exact ⟨h.nd.erase _, List.pairwise_singleton _ _, fun a ha b hb e => hto (by rw [List.mem_singleton] at hb; rw [<- hb, <- e]; exact List.mem_of_mem_erase ha)⟩⟩
     rw [Ak2 ts cs _ _ h3 hb']
    ·rw [if_neg hc, if_neg hc]
theorem Bjh {pl : Int} : ∀ {ts cs o : List Int}, ts.length ≠ cs.length -> Aq7 pl o ts cs = none
 | [], [], _, h => absurd rfl h
 | [], _ :: _, _, _ => by simp [Aq7]
 | _ :: _, [], _, _ => by simp [Aq7]
 | t :: ts, c :: cs, o, h => by
  simp only [List.length_cons] at h
  have ih := fun o => Bjh (pl := pl) (ts := ts) (cs := cs) (o := o) (by omega)
  simp [Aq7, ih]
theorem Cx2 {c : Int} : ∀ (o : List Int) (k : Nat), o[k]? = some c -> c ∉ o.take k -> o.take k ++ o.drop (k + 1) = o.erase c
 | [], k, h, _ => by simp at h
 | x :: o, 0, h, _ => by
  simp only [List.getElem?_cons_zero, Option.some.injEq] at h
  subst h
  simp
 | x :: o, k + 1, h, hn => by
  have hx : x ≠ c := fun e => hn (by simp [e])
  simp only [List.getElem?_cons_succ] at h
  rw [List.take_succ_cons, List.drop_succ_cons, List.cons_append, Cx2 o k h (fun hh => hn (by simp [hh])), List.erase_cons_tail (by simpa using hx)]
theorem Bku {start : List Int} (h : ∀ y ∈ start, 0 <= y /\ y < 6) (hn : start.Nodup) : OffA start (oOf start) := ⟨Bxj h, hn⟩
def Akl (start ts : List Int) : List Int := ts.foldl (fun fr t => if t ∈ start ∨ t ∈ fr then fr else fr ++ [t]) []
theorem Awb (start ts : List Int) (t : Int) : Akl start (ts ++ [t]) = if t ∈ start ∨ t ∈ Akl start ts then Akl start ts else Akl start ts ++ [t] := by
 unfold Akl
 rw [List.foldl_append]
 rfl
theorem Av1 {ts : List Int} {i : Nat} (h : i < ts.length) : ts.take (i + 1) = ts.take i ++ [ts.getD i 0] := by
 rw [List.take_add_one, List.getElem?_eq_getElem h]
 simp [List.getD, List.getElem?_eq_getElem h]
theorem Avu (start ts : List Int) (x : Int) : ∀ i, i <= ts.length -> (x ∈ Akl start (ts.take i) ↔ x ∈ ts.take i /\ x ∉ start)
 | 0, _ => by simp [Akl]
 | i + 1, h => by
  have ih := Avu start ts x i (by omega)
  rw [Av1 (by omega), Awb]
  by_cases hc : ts.getD i 0 ∈ start ∨ ts.getD i 0 ∈ Akl start (ts.take i)
  ·rw [if_pos hc, ih, List.mem_append, List.mem_singleton]
   constructor
   ·rintro ⟨h1, h2⟩; exact ⟨.inl h1, h2⟩
   ·rintro ⟨h1 | h1, h2⟩
    ·exact ⟨h1, h2⟩
    ·subst h1
     exact ih.1 (hc.resolve_left h2)
  ·rw [if_neg hc, List.mem_append, List.mem_append, List.mem_singleton, ih]
   constructor
   ·rintro (⟨h1, h2⟩ | h1)
    ·exact ⟨.inl h1, h2⟩
    ·subst h1; exact ⟨.inr rfl, fun hs => hc (.inl hs)⟩
   ·rintro ⟨h1 | h1, h2⟩
    ·exact .inl ⟨h1, h2⟩
    ·exact .inr h1
theorem Bys {pl r : Int} {ts : List Int} {i : Nat} {t : Int} {s : RS} : -1 <= Aji pl r ts i t s /\ Aji pl r ts i t s < 6 := by
 unfold Aji
 split
 ·refine ⟨?_, Bv6 _ _⟩
  unfold Awj
  rcases Ajk (Avy r s.came s.asked (if r = 3 then Azl ts (i + 1) else s.later)) (Ax4 s.m) (-1) with h | h
  ·rw [h]; omega
  ·have := (Aja h).1; omega
 ·omega
theorem Cwl {pl r : Int} {ts start : List Int} (hs : ∀ y ∈ start, 0 <= y /\ y < 6) (hb : ∀ t ∈ ts, 0 <= t /\ t < 6) : ∀ i, i <= ts.length -> ∀ x, inO (rrun pl r ts (rs0 start) i).m x -> x ∈ start ∨ x ∈ ts.take i
 | 0, _, x, h => .inl ((Bxj hs x).1 h)
 | i + 1, hi, x, h => by
  have h6 := Ckc (i := i) (by omega) hb
  have e : (rrun pl r ts (rs0 start) (i + 1)).m = Aqv (rrun pl r ts (rs0 start) i).m (Aji pl r ts i (ts.getD i 0) (rrun pl r ts (rs0 start) i)) (ts.getD i 0) := rfl
  rw [e, Azo Bys.1 Bys.2 h6.1 h6.2] at h
  rw [Av1 (by omega), List.mem_append, List.mem_singleton]
  rcases h with h | h
  ·exact .inr (.inr h)
  ·rcases Cwl hs hb i (by omega) x h.1 with h | h
   ·exact .inl h
   ·exact .inr (.inl h)
theorem Bky {pl r : Int} {ts start : List Int} (hs : ∀ y ∈ start, 0 <= y /\ y < 6) (hb : ∀ t ∈ ts, 0 <= t /\ t < 6) : ∀ i, i <= ts.length -> (Akl start (ts.take i)).length <= (rrun pl r ts (rs0 start) i).f
 | 0, _ => by simp [Akl]
 | i + 1, hi => by
  have h6 := Ckc (i := i) (by omega) hb
  have ih := Bky (pl := pl) (r := r) hs hb i (by omega)
  have ef : (rrun pl r ts (rs0 start) (i + 1)).f = (rrun pl r ts (rs0 start) i).f + Azc (rrun pl r ts (rs0 start) i).m (ts.getD i 0) := Bkl _ _ _ _ _ _
  rw [ef, Av1 (by omega), Awb]
  split
  ·omega
  ·rename_i hc
   have hn : ¬ inO (rrun pl r ts (rs0 start) i).m (ts.getD i 0) := fun h => by
    rcases Cwl hs hb i (by omega) _ h with h | h
    ·exact hc (.inl h)
    ·by_cases hst : ts.getD i 0 ∈ start
     ·exact hc (.inl hst)
     ·exact hc (.inr ((Avu start ts _ i (by omega)).2 ⟨h, hst⟩))
   rw [(Ax0 (pl := pl) hn h6.1 h6.2).2, List.length_append]
   simp only [List.length_cons, List.length_nil]
   omega
theorem Dq1 : ∀ pieces : Fin 7, ∀ m : Fin 64, ∀ t : Fin 6, (∀ x : Fin 6, m.val.testBit x.val = true -> x.val < pieces.val) -> m.val.testBit t.val = false -> t.val < pieces.val -> Aq3 m.val < pieces.val := by decide +kernel
theorem Cwj {pieces : Int} (hp : pieces <= 6) {m : Nat} (hm : m < 64) {t : Int} (h0 : 0 <= t) (h6 : t < pieces) (h : ∀ x, inO m x -> x < pieces) (ht : ¬ inO m t) : (Aq3 m : Int) < pieces := by
 have := Dq1 ⟨pieces.toNat, by omega⟩ ⟨m, hm⟩ ⟨t.toNat, by omega⟩ (fun x hx => by
  have := h (x.val : Int) ⟨by omega, by omega, by simpa using hx⟩
  simp only []
  omega) (by
  cases hb : m.testBit t.toNat
  ·rfl
  ·exact absurd ⟨h0, by omega, hb⟩ ht) (by simp only []; omega)
 simp only [] at this
 omega
theorem Byr {pl r pieces : Int} {ts start : List Int} (hp : pieces <= 6) (hpl : pieces <= pl) (hs : ∀ y ∈ start, 0 <= y /\ y < pieces) (hb : ∀ t ∈ ts, 0 <= t /\ t < pieces) : ∀ i, i <= ts.length -> (rrun pl r ts (rs0 start) i).f = (Akl start (ts.take i)).length /\ (rrun pl r ts (rs0 start) i).m < 64 /\ ∀ x, inO (rrun pl r ts (rs0 start) i).m x ↔ x ∈ start ∨ x ∈ ts.take i
 | 0, _ => ⟨by simp [Akl, rrun, rs0], Ak4 start 0 (by omega) (fun x hx => by have := hs x hx; omega), fun x => by
   rw [show (rrun pl r ts (rs0 start) 0).m = oOf start from rfl, Bxj (fun y hy => by have := hs y hy; omega)]
   simp⟩
 | i + 1, hi => by
  obtain ⟨ihf, ihm, ih⟩ := Byr (r := r) hp hpl hs hb i (by omega)
  have hti : ts.getD i 0 ∈ ts := by
   simp only [List.getD, List.getElem?_eq_getElem (show i < ts.length by omega), Option.getD_some]
   exact List.getElem_mem _
  have h6 := hb _ hti
  have ef : (rrun pl r ts (rs0 start) (i + 1)).f = (rrun pl r ts (rs0 start) i).f + Azc (rrun pl r ts (rs0 start) i).m (ts.getD i 0) := Bkl _ _ _ _ _ _
  have em : (rrun pl r ts (rs0 start) (i + 1)).m = Aqv (rrun pl r ts (rs0 start) i).m (Aji pl r ts i (ts.getD i 0) (rrun pl r ts (rs0 start) i)) (ts.getD i 0) := rfl
  have hlt : ∀ x, inO (rrun pl r ts (rs0 start) i).m x -> x < pieces := fun x hx => by
   rcases (ih x).1 hx with h | h
   ·exact (hs x h).2
   ·exact (hb x (List.mem_of_mem_take h)).2
  have hse : Aji pl r ts i (ts.getD i 0) (rrun pl r ts (rs0 start) i) = -1 := by
   unfold Aji
   rw [if_neg]
   intro hsb
   simp only [Bx4, Bool.and_eq_true, Bool.not_eq_true', decide_eq_true_eq] at hsb
   have := Cwj hp ihm h6.1 h6.2 hlt (fun h => by rw [h.2.2] at hsb; exact absurd hsb.1 (by simp))
   omega
  rw [hse] at em
  refine ⟨?_, by rw [em]; exact Aks ihm (by omega) h6.1 (by omega), fun x => ?_⟩
  ·rw [ef, ihf, Av1 (by omega), Awb]
   by_cases hin : inO (rrun pl r ts (rs0 start) i).m (ts.getD i 0)
   ·rw [(Azx (pl := pl) h6.1 (by omega) hin).2, if_pos, Nat.add_zero]
    by_cases hst : ts.getD i 0 ∈ start
    ·exact .inl hst
    ·exact .inr ((Avu start ts _ i (by omega)).2 ⟨((ih _).1 hin).resolve_left hst, hst⟩)
   ·rw [(Ax0 (pl := pl) hin h6.1 (by omega)).2, if_neg]
    ·simp
    ·rintro (h | h)
     ·exact hin ((ih _).2 (.inl h))
     ·exact hin ((ih _).2 (.inr ((Avu start ts _ i (by omega)).1 h).1))
  ·rw [em, Azo (by omega) (by omega) h6.1 (by omega), ih, Av1 (by omega), List.mem_append, List.mem_singleton]
   constructor
   ·rintro (h | ⟨h | h, _⟩)
    ·exact .inr (.inr h)
    ·exact .inl h
    ·exact .inr (.inl h)
   ·rintro (h | h | h)
    ·exact .inr ⟨.inl h, by have := hs x h; omega⟩
    ·exact .inr ⟨.inr h, by have := hb x (List.mem_of_mem_take h); omega⟩
    ·exact .inl h
theorem Byq {pl r : Int} {ts start : List Int} (hs : ∀ y ∈ start, 0 <= y /\ y < 6) (hb : ∀ t ∈ ts, t ∈ start) : ∀ i, i <= ts.length -> (rrun pl r ts (rs0 start) i).f = 0 /\ ∀ x, x ∈ start -> inO (rrun pl r ts (rs0 start) i).m x
 | 0, _ => ⟨rfl, fun x hx => (Bxj hs x).2 hx⟩
 | i + 1, hi => by
  obtain ⟨ihf, ih⟩ := Byq (pl := pl) (r := r) hs hb i (by omega)
  have hti : ts.getD i 0 ∈ ts := by
   simp only [List.getD, List.getElem?_eq_getElem (show i < ts.length by omega), Option.getD_some]
   exact List.getElem_mem _
  have h6 := hs _ (hb _ hti)
  have ef : (rrun pl r ts (rs0 start) (i + 1)).f = (rrun pl r ts (rs0 start) i).f + Azc (rrun pl r ts (rs0 start) i).m (ts.getD i 0) := Bkl _ _ _ _ _ _
  have em : (rrun pl r ts (rs0 start) (i + 1)).m = Aqv (rrun pl r ts (rs0 start) i).m (Aji pl r ts i (ts.getD i 0) (rrun pl r ts (rs0 start) i)) (ts.getD i 0) := rfl
  have hin := ih _ (hb _ hti)
  have hse : Aji pl r ts i (ts.getD i 0) (rrun pl r ts (rs0 start) i) = -1 := by
   unfold Aji
   rw [if_neg]
   intro hsb
   simp only [Bx4, Bool.and_eq_true, Bool.not_eq_true', decide_eq_true_eq] at hsb
   rw [hin.2.2] at hsb
   exact absurd hsb.1 (by simp)
  rw [hse] at em
  refine ⟨by rw [ef, ihf, (Azx (pl := pl) h6.1 h6.2 hin).2], fun x hx => ?_⟩
  rw [em, Azo (by omega) (by omega) h6.1 h6.2]
  exact .inr ⟨ih x hx, by have := hs x hx; omega⟩
theorem new_ge {pl r : Int} {ts start : List Int} (hs : ∀ y ∈ start, 0 <= y /\ y < 6) (hb : ∀ t ∈ ts, 0 <= t /\ t < 6) : (Akl start ts).length <= (rrun pl r ts (rs0 start) ts.length).f := by
 have := Bky (pl := pl) (r := r) hs hb ts.length (Nat.le_refl _)
 rwa [List.take_length] at this
theorem new_eq {pl r pieces : Int} {ts start : List Int} (hp : pieces <= 6) (hpl : pieces <= pl) (hs : ∀ y ∈ start, 0 <= y /\ y < pieces) (hb : ∀ t ∈ ts, 0 <= t /\ t < pieces) : (rrun pl r ts (rs0 start) ts.length).f = (Akl start ts).length := by
 have := (Byr (r := r) hp hpl hs hb ts.length (Nat.le_refl _)).1
 rwa [List.take_length] at this
theorem new_none {pl r : Int} {ts start : List Int} (hs : ∀ y ∈ start, 0 <= y /\ y < 6) (h : Akl start ts = []) : (rrun pl r ts (rs0 start) ts.length).f = 0 :=
 (Byq hs (fun t ht => by
  apply Classical.byContradiction
  intro hn
  have := (Avu start ts t ts.length (Nat.le_refl _)).2 ⟨by rwa [List.take_length], hn⟩
  rw [List.take_length, h] at this
  cases this) ts.length (Nat.le_refl _)).1
theorem Cwg (L : Nat) {pl : Int} (h1 : 1 <= pl) {ts : List Int} {m : Nat} (hl : ts.length <= L) : Ajt L pl ts m ∈ Axl L pl ts m := List.mem_of_mem_head? (by rw [Bqf L h1 ts m hl]; rfl)
theorem path_follow (L : Nat) {pl : Int} (h1 : 1 <= pl) {ts start : List Int} (hl : ts.length <= L) (hs : ∀ y ∈ start, 0 <= y /\ y < 6) (hn : start.Nodup) (hb : ∀ t ∈ ts, 0 <= t /\ t < 6) : Aq7 pl start ts (Ajt L pl ts (oOf start)) = some (optF L pl ts (oOf start)) := by
 rw [Ak2 ts _ _ _ (Bku hs hn) hb]
 exact (Avq L).1 (Cwg L h1 hl)
theorem rule_follow {pl r : Int} (h1 : 1 <= pl) {ts start : List Int} (h8 : ts.length <= 8) (hs : ∀ y ∈ start, 0 <= y /\ y < 6) (hn : start.Nodup) (hb : ∀ t ∈ ts, 0 <= t /\ t < 6) : Aq7 pl start ts ((rrun pl r ts (rs0 start) ts.length).cl.take ts.length) = some (rrun pl r ts (rs0 start) ts.length).f := by
 rw [Ak2 ts _ _ _ (Bku hs hn) hb]
 exact Cwm h1 h8 hb
theorem Cjw (L : Nat) {pl : Int} (h1 : 1 <= pl) {ts : List Int} {m : Nat} (hl : ts.length <= L) {k : List Int} (hk : k ∈ Axl L pl ts m) : ¬ Lx k (Ajt L pl ts m) := by
 have hup := Bwr L pl ts m
 have hh := Bqf L h1 ts m hl
 cases hb : Axl L pl ts m with
 | nil => rw [hb] at hk; cases hk
 | cons x xs =>
  rw [hb] at hk hup hh
  simp only [List.head?_cons, Option.some.injEq] at hh
  subst hh
  rw [List.pairwise_cons] at hup
  intro hlx
  rcases List.mem_cons.1 hk with e | hk
  ·exact Lx.irr (e ▸ hlx)
  ·exact (hup.1 k hk).asymm hlx
theorem rule_first {pl r : Int} (h1 : 1 <= pl) {ts start : List Int} (h8 : ts.length <= 8) (hb : ∀ t ∈ ts, 0 <= t /\ t < 6) (he : (rrun pl r ts (rs0 start) ts.length).f = optF ts.length pl ts (oOf start)) : ¬ Lx ((rrun pl r ts (rs0 start) ts.length).cl.take ts.length) (Ajt ts.length pl ts (oOf start)) :=
 Cjw ts.length h1 (Nat.le_refl _) ((Avq ts.length).2 (by rw [Cwm h1 h8 hb, he]))
def Bwc : List Int -> List Int -> Bool
 | a :: xs, b :: ys => if a = b then Bwc xs ys else decide (a < b)
 | [], _ :: _ => true
 | _, [] => false
theorem Cj7 : ∀ {a b : List Int}, a.length = b.length -> (Bwc a b = true ↔ Lx a b)
 | [], [], _ => by simp [Bwc, Lx]
 | a :: xs, b :: ys, h => by
  simp only [List.length_cons] at h
  unfold Bwc Lx
  split
  ·rename_i hab
   rw [Cj7 (by omega)]
   constructor
   ·intro h; exact .inr ⟨hab, h⟩
   ·rintro (h | h)
    ·omega
    ·exact h.2
  ·rename_i hab
   simp [hab]
def Aze := And.intro (fun H => Aq5 (H := H) Tryz.underlying22) (And.intro (fun H => Aqq (H := H) Tryz.underlying22 Tryz.sizeOf3) (And.intro (fun H => Aqd (H := H) Tryz.underlying3 rfl) (And.intro (fun H => Aqh (H := H) Tryz.underlying120 (i := 2) rfl (off := 2) rfl Tryz.sizeOf4) (And.intro (fun H => Aqd (H := H) Tryz.underlying4 rfl) (And.intro (fun H => Aqh (H := H) Tryz.underlying120 (i := 0) rfl (off := 0) rfl Tryz.sizeOf3) (And.intro (fun H => Axo (H := H) Tryz.sizeOf3) (And.intro (fun H => Aqh (H := H) Tryz.underlying120 (i := 1) rfl (off := 1) rfl Tryz.sizeOf3) (And.intro (fun H => Ayd (H := H) Tryz.sizeOf4) (And.intro @Bvw @Cq2)))))))))
structure Bd where
 lo : Int
 hi : Int
 some : Bool
def Ak0 (b : Bd) (x : Int) : Bd := if b.some then ⟨min b.lo x, max b.hi x, true⟩ else ⟨x, x, true⟩
abbrev bdO (b : Bd) : Obj := .cells #[.int .i64 b.lo, .int .i64 b.hi, .bool b.some] 120 (0, 0)
theorem Bk5 (main : Md) (H : Hp) (bb : Nat) (b : Bd) (v : Value) (xs : List Int) (hv : SlI H v xs) (vb : H bb = some (true, bdO b)) (hl : xs.length <= 1000) :
  FnX Tryz.prog main 122 #[.pointer (some ⟨bb, 0, none⟩), v] H fun e H' => e = .returned (.tuple #[]) /\ H' bb = some (true, bdO (xs.foldl Ak0 b)) /\ ∀ x, x ≠ bb -> H' x = H x := by
 obtain ⟨a, cap, rfl, hc, hx⟩ := hv
 refine Aqk Tryz.func122 rfl Tryz.ntmps122 (by simp) ?_
 (refine @unH _ ?_; refine zA Aze ?_; (repeat (refine inC ?_; intro hc)); try (refine inK ?_; intro K hK))
 refine Axe (fun w a' H' => ∃ e k, w = xs.length - k /\ k <= xs.length /\ a' = act 47 e [] /\ e 0 = .pointer (some ⟨bb, 0, none⟩) /\ e 6 = .slice a xs.length cap /\ e 7 = .int .i64 xs.length /\ e 8 = .int .i64 (k : Nat) /\ H' bb = some (true, bdO ((xs.take k).foldl Ak0 b)) /\ ∀ x, x ≠ bb -> H' x = H x) (n := xs.length) ?_ ?_
 ·exact ⟨_, 0, by omega, by omega, rfl, rfl, rfl, rfl, rfl, vb, fun _ _ => rfl⟩
 ·rintro w a' H' ⟨e, k, rfl, hk, rfl, e0, e6, e7, e8, vb', hoth⟩
  by_cases hlt : k < xs.length
  ·obtain ⟨rb, o, p, c, fr, rfl, hb, hx'⟩ := hx k xs[k] (List.getElem?_eq_getElem hlt)
   have hcx : c[o + (k : Int).toNat * 1]? = some (.int .i64 xs[k]) := by simpa using hx'
   have nrb : rb ≠ bb := fun h => by rw [h, vb] at hb; cases hb
   have hb' : H' rb = _ := (hoth rb nrb).trans hb
   have hstep : (xs.take (k + 1)).foldl Ak0 b = Ak0 ((xs.take k).foldl Ak0 b) xs[k] := by rw [List.take_add_one, List.getElem?_eq_getElem hlt, List.foldl_append]; rfl
   generalize (xs.take k).foldl Ak0 b = B at *
   generalize xs[k] = x at *
   obtain ⟨lo, hi, sm⟩ := B
   replace hoth : Aqs _ := hoth
   simp only [Ak0] at hstep
   cases sm with
   | false =>
    simp only [Bool.false_eq_true, if_false] at hstep
    replace hstep : Aqs _ := hstep
    clear hb hx
    (refine @unH _ ?_; refine zA Aze ?_; (repeat (refine inC ?_; intro hc)); try (refine inK ?_; intro K hK))
    obtain ⟨H1, hG⟩ : ∃ H1, H1 = H'.set bb (.cells #[.int .i64 x, .int .i64 x, .bool true] 120 (0, 0)) := ⟨_, rfl⟩
    rw [<- hG]
    have v1 := Aqf hG.symm
    have ho1 : Aqs (∀ y, y ≠ bb -> H1 y = H y) := fun y hy => by rw [hG, Aqp hy]; exact (show ∀ y, y ≠ bb -> H' y = H y from hoth) y hy
    clear hG vb' hoth hb'
    refine Ajo (fun HX => HX bb = some (true, .cells #[.int .i64 x, .int .i64 x, .bool true] 120 (0, 0))) [16, 19] (.free 0 (.free 1 (.free 2 (.free 3 (.free 4 (.take 5 (.free 6 (.free 7 (.free 8 (.free 9 (.free 10 (.take 11 (.free 12 (.free 13 (.free 14 (.free 15 (.one 16 (.free 17 (.free 18 (.one 19 .nil)))))))))))))))))))) (by kernel_rfl) (by kernel_rfl) (by decide) (by kernel_rfl) ?_; intro K hK
    (iterate 5 (apply Ax6 rfl rfl rfl; (focus (intro HX; simp -implicitDefEqProofs (disch := first | omega | (simp only [qd] <;> omega)) only [xq, ↓xp, qc, Nat.reduceAdd, List.range, List.range.loop, fine, Nat.reduceEqDiff, ↓reduceIte, yielded, reduceCtorEq, Nat.reduceLT, Nat.reduceMul, Nat.reduceSub, one, Nat.reduceLeDiff, Aqa, Aze, aq, ↓ap, qe0, qe1, qe2, *, -hK, Aqz] <;> (first | exact rfl | exact ⟨rfl, rfl⟩ | exact ⟨rfl, trivial⟩))); simp -implicitDefEqProofs (disch := first | omega | (simp only [qd] <;> omega)) only [Aqn, Aqc]))
    (apply Axd rfl rfl rfl ‹_›; (focus (intro HX hHX; simp -implicitDefEqProofs (disch := first | omega | (simp only [qd] <;> omega)) only [xq, ↓xp, qc, Nat.reduceAdd, List.range, List.range.loop, fine, Nat.reduceEqDiff, ↓reduceIte, yielded, reduceCtorEq, Nat.reduceLT, Nat.reduceMul, Nat.reduceSub, one, Nat.reduceLeDiff, Aqa, Aze, aq, ↓ap, qe0, qe1, qe2, *, -hK, Aqz] <;> (first | exact rfl | exact ⟨rfl, rfl⟩ | exact ⟨rfl, trivial⟩))); simp -implicitDefEqProofs (disch := first | omega | (simp only [qd] <;> omega)) only [Aqn, Aqc])
    (iterate 5 (apply Ax6 rfl rfl rfl; (focus (intro HX; simp -implicitDefEqProofs (disch := first | omega | (simp only [qd] <;> omega)) only [xq, ↓xp, qc, Nat.reduceAdd, List.range, List.range.loop, fine, Nat.reduceEqDiff, ↓reduceIte, yielded, reduceCtorEq, Nat.reduceLT, Nat.reduceMul, Nat.reduceSub, one, Nat.reduceLeDiff, Aqa, Aze, aq, ↓ap, qe0, qe1, qe2, *, -hK, Aqz] <;> (first | exact rfl | exact ⟨rfl, rfl⟩ | exact ⟨rfl, trivial⟩))); simp -implicitDefEqProofs (disch := first | omega | (simp only [qd] <;> omega)) only [Aqn, Aqc]))
    (apply Axd rfl rfl rfl ‹_›; (focus (intro HX hHX; simp -implicitDefEqProofs (disch := first | omega | (simp only [qd] <;> omega)) only [xq, ↓xp, qc, Nat.reduceAdd, List.range, List.range.loop, fine, Nat.reduceEqDiff, ↓reduceIte, yielded, reduceCtorEq, Nat.reduceLT, Nat.reduceMul, Nat.reduceSub, one, Nat.reduceLeDiff, Aqa, Aze, aq, ↓ap, qe0, qe1, qe2, *, -hK, Aqz] <;> (first | exact rfl | exact ⟨rfl, rfl⟩ | exact ⟨rfl, trivial⟩))); simp -implicitDefEqProofs (disch := first | omega | (simp only [qd] <;> omega)) only [Aqn, Aqc])
    (iterate 4 (apply Ax6 rfl rfl rfl; (focus (intro HX; simp -implicitDefEqProofs (disch := first | omega | (simp only [qd] <;> omega)) only [xq, ↓xp, qc, Nat.reduceAdd, List.range, List.range.loop, fine, Nat.reduceEqDiff, ↓reduceIte, yielded, reduceCtorEq, Nat.reduceLT, Nat.reduceMul, Nat.reduceSub, one, Nat.reduceLeDiff, Aqa, Aze, aq, ↓ap, qe0, qe1, qe2, *, -hK, Aqz] <;> (first | exact rfl | exact ⟨rfl, rfl⟩ | exact ⟨rfl, trivial⟩))); simp -implicitDefEqProofs (disch := first | omega | (simp only [qd] <;> omega)) only [Aqn, Aqc]))
    refine Aq6 ?_
    (refine @unH _ ?_; refine zX Aze ?_)
    refine ⟨.inl (by decide), ?_⟩
    (iterate 2 (apply Ax6 rfl rfl rfl; (focus (intro HX; simp -implicitDefEqProofs (disch := first | omega | (simp only [qd] <;> omega)) only [xq, ↓xp, qc, Nat.reduceAdd, List.range, List.range.loop, fine, Nat.reduceEqDiff, ↓reduceIte, yielded, reduceCtorEq, Nat.reduceLT, Nat.reduceMul, Nat.reduceSub, one, Nat.reduceLeDiff, Aqa, Aze, aq, ↓ap, qe0, qe1, qe2, *, -hK, Aqz] <;> (first | exact rfl | exact ⟨rfl, rfl⟩ | exact ⟨rfl, trivial⟩))); simp -implicitDefEqProofs (disch := first | omega | (simp only [qd] <;> omega)) only [Aqn, Aqc]))
    refine Aq6 ?_
    (refine @unH _ ?_; refine zX Aze ?_)
    refine ⟨.inl (by decide), ?_⟩
    refine Azy (hK _ _ ?_)
    clear hK K
    (try simp only [nq, ↓reduceIte, Nat.reduceEqDiff])
    (refine @unH _ ?_; refine zA Aze ?_; (repeat (refine inC ?_; intro hc)); try (refine inK ?_; intro K hK))
    refine ⟨_, by omega, _, k + 1, rfl, by omega, rfl, e0, e6, e7, rfl, ?_, fun y hy => (Aqp hy).trans ((show ∀ y, y ≠ bb -> H1 y = H y from ho1) y hy)⟩
    rw [Aqw, show (xs.take (k + 1)).foldl Ak0 b = _ from hstep, bdO]
    simp only [Option.some.injEq, Prod.mk.injEq, true_and, Obj.cells.injEq, Array.mk.injEq, List.cons.injEq, Value.int.injEq, and_true]
    split <;> omega
   | true =>
    simp only [if_true] at hstep
    replace hstep : Aqs _ := hstep
    clear hb hx
    (refine @unH _ ?_; refine zA Aze ?_; (repeat (refine inC ?_; intro hc)); try (refine inK ?_; intro K hK))
    have v1 := vb'
    simp only [bdO] at v1
    have ho1 := hoth
    clear vb' hoth hb'
    refine Ajo (fun HX => HX bb = some (true, .cells #[.int .i64 lo, .int .i64 hi, .bool true] 120 (0, 0))) [16, 19] (.free 0 (.free 1 (.free 2 (.free 3 (.free 4 (.take 5 (.free 6 (.free 7 (.free 8 (.free 9 (.free 10 (.take 11 (.free 12 (.free 13 (.free 14 (.free 15 (.one 16 (.free 17 (.free 18 (.one 19 .nil)))))))))))))))))))) (by kernel_rfl) (by kernel_rfl) (by decide) (by kernel_rfl) ?_; intro K hK
    (iterate 5 (apply Ax6 rfl rfl rfl; (focus (intro HX; simp -implicitDefEqProofs (disch := first | omega | (simp only [qd] <;> omega)) only [xq, ↓xp, qc, Nat.reduceAdd, List.range, List.range.loop, fine, Nat.reduceEqDiff, ↓reduceIte, yielded, reduceCtorEq, Nat.reduceLT, Nat.reduceMul, Nat.reduceSub, one, Nat.reduceLeDiff, Aqa, Aze, aq, ↓ap, qe0, qe1, qe2, *, -hK, Aqz] <;> (first | exact rfl | exact ⟨rfl, rfl⟩ | exact ⟨rfl, trivial⟩))); simp -implicitDefEqProofs (disch := first | omega | (simp only [qd] <;> omega)) only [Aqn, Aqc]))
    (apply Axd rfl rfl rfl ‹_›; (focus (intro HX hHX; simp -implicitDefEqProofs (disch := first | omega | (simp only [qd] <;> omega)) only [xq, ↓xp, qc, Nat.reduceAdd, List.range, List.range.loop, fine, Nat.reduceEqDiff, ↓reduceIte, yielded, reduceCtorEq, Nat.reduceLT, Nat.reduceMul, Nat.reduceSub, one, Nat.reduceLeDiff, Aqa, Aze, aq, ↓ap, qe0, qe1, qe2, *, -hK, Aqz] <;> (first | exact rfl | exact ⟨rfl, rfl⟩ | exact ⟨rfl, trivial⟩))); simp -implicitDefEqProofs (disch := first | omega | (simp only [qd] <;> omega)) only [Aqn, Aqc])
    (iterate 5 (apply Ax6 rfl rfl rfl; (focus (intro HX; simp -implicitDefEqProofs (disch := first | omega | (simp only [qd] <;> omega)) only [xq, ↓xp, qc, Nat.reduceAdd, List.range, List.range.loop, fine, Nat.reduceEqDiff, ↓reduceIte, yielded, reduceCtorEq, Nat.reduceLT, Nat.reduceMul, Nat.reduceSub, one, Nat.reduceLeDiff, Aqa, Aze, aq, ↓ap, qe0, qe1, qe2, *, -hK, Aqz] <;> (first | exact rfl | exact ⟨rfl, rfl⟩ | exact ⟨rfl, trivial⟩))); simp -implicitDefEqProofs (disch := first | omega | (simp only [qd] <;> omega)) only [Aqn, Aqc]))
    (apply Axd rfl rfl rfl ‹_›; (focus (intro HX hHX; simp -implicitDefEqProofs (disch := first | omega | (simp only [qd] <;> omega)) only [xq, ↓xp, qc, Nat.reduceAdd, List.range, List.range.loop, fine, Nat.reduceEqDiff, ↓reduceIte, yielded, reduceCtorEq, Nat.reduceLT, Nat.reduceMul, Nat.reduceSub, one, Nat.reduceLeDiff, Aqa, Aze, aq, ↓ap, qe0, qe1, qe2, *, -hK, Aqz] <;> (first | exact rfl | exact ⟨rfl, rfl⟩ | exact ⟨rfl, trivial⟩))); simp -implicitDefEqProofs (disch := first | omega | (simp only [qd] <;> omega)) only [Aqn, Aqc])
    (iterate 4 (apply Ax6 rfl rfl rfl; (focus (intro HX; simp -implicitDefEqProofs (disch := first | omega | (simp only [qd] <;> omega)) only [xq, ↓xp, qc, Nat.reduceAdd, List.range, List.range.loop, fine, Nat.reduceEqDiff, ↓reduceIte, yielded, reduceCtorEq, Nat.reduceLT, Nat.reduceMul, Nat.reduceSub, one, Nat.reduceLeDiff, Aqa, Aze, aq, ↓ap, qe0, qe1, qe2, *, -hK, Aqz] <;> (first | exact rfl | exact ⟨rfl, rfl⟩ | exact ⟨rfl, trivial⟩))); simp -implicitDefEqProofs (disch := first | omega | (simp only [qd] <;> omega)) only [Aqn, Aqc]))
    refine Aq6 ?_
    (refine @unH _ ?_; refine zX Aze ?_)
    refine ⟨.inl (by decide), ?_⟩
    (iterate 2 (apply Ax6 rfl rfl rfl; (focus (intro HX; simp -implicitDefEqProofs (disch := first | omega | (simp only [qd] <;> omega)) only [xq, ↓xp, qc, Nat.reduceAdd, List.range, List.range.loop, fine, Nat.reduceEqDiff, ↓reduceIte, yielded, reduceCtorEq, Nat.reduceLT, Nat.reduceMul, Nat.reduceSub, one, Nat.reduceLeDiff, Aqa, Aze, aq, ↓ap, qe0, qe1, qe2, *, -hK, Aqz] <;> (first | exact rfl | exact ⟨rfl, rfl⟩ | exact ⟨rfl, trivial⟩))); simp -implicitDefEqProofs (disch := first | omega | (simp only [qd] <;> omega)) only [Aqn, Aqc]))
    refine Aq6 ?_
    (refine @unH _ ?_; refine zX Aze ?_)
    refine ⟨.inl (by decide), ?_⟩
    refine Azy (hK _ _ ?_)
    clear hK K
    (try simp only [nq, ↓reduceIte, Nat.reduceEqDiff])
    (refine @unH _ ?_; refine zA Aze ?_; (repeat (refine inC ?_; intro hc)); try (refine inK ?_; intro K hK))
    refine ⟨_, by omega, _, k + 1, rfl, by omega, rfl, e0, e6, e7, rfl, ?_, fun y hy => (Aqp hy).trans ((show ∀ y, y ≠ bb -> H' y = H y from ho1) y hy)⟩
    rw [Aqw, show (xs.take (k + 1)).foldl Ak0 b = _ from hstep, bdO]
    simp only [Option.some.injEq, Prod.mk.injEq, true_and, Obj.cells.injEq, Array.mk.injEq, List.cons.injEq, Value.int.injEq, and_true]
    constructor <;> (split <;> omega)
  ·obtain rfl : k = xs.length := by omega
   (refine @unH _ ?_; refine zA Aze ?_; (repeat (refine inC ?_; intro hc)); try (refine inK ?_; intro K hK))
   (refine @unH _ ?_; refine zD Tryz.results122 ?_)
   refine ⟨by trivial, by rw [List.take_length] at vb'; exact vb', hoth⟩
end Go.Proofs.YtgniilnljeedlaaGreatDoor
end
