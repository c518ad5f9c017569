/- Texts WLaw WLink Keep RefA RefC VBest Follow VAdd VChoose. -/
import Derived.Test.YtgniilnljeedlaaGreatDoorJ17
import Derived.Test.YtgniilnljeedlaaGreatDoorChecked
import Derived.Conc.WgLib
set_option linter.defProp false
set_option linter.unusedSimpArgs false
set_option linter.unusedVariables false
set_option maxRecDepth 100000
set_option maxHeartbeats 2000000
section
namespace Go.X
open Go
open Go.Conc
theorem FnX.goodW {P : Program} {f : FuncId} {fn : Func} {args : Array Value} {W : World} {v₀ : Value} (h : FnX P (.wg P) f args (Bqu W) fun e _ => e = .returned v₀) (hf : P.funcs[f]? = some fn)
  (hr : ∀ tmps w v w', (results fn tmps).run P w = .ok v w' -> w' = w) (hi : P.inits.idxOf? f = none) :
  Ends P (fun v w => v = v₀ /\ Base W w) (solo (G (Frame.enter P f args .normal) []) W) #[] := by
 rw [solo_eq_crowd]
 have hW0 := h [] (fun g H => ∃ fr, g = G fr [] /\ fr.fn = f /\ Leaving P fr H fun e _ => e = .returned v₀) fun fr H' hfn hl => .stop ⟨fr, rfl, hfn, hl⟩ (Hp.le_refl _)
 have hI : WI P W .idle (Bqu W) #[G (Frame.enter P f args .normal) []] W #[] [] 0 (fun _ => .off 0) (fun _ => False) := by
  refine ⟨⟨fun x K hx => ?_, fun x y K K' hxy hx hy => ?_, fun x K hx b p o hb i a ha => (by simp [touchAt, Trace.act?] at ha), past_nil.clean, fun i a b ha => (by simp [touchAt, Trace.act?] at ha)⟩, rfl, fun i x hx => (by simp at hx), fun _ _ => rfl, rfl, fun i a ha => (by simp [touchAt, Trace.act?] at ha), fun i op a h => (by simp at h), fun y hy => hy.elim, ⟨rfl, rfl, Nat.le_refl _, fun _ _ => rfl⟩, fun x K b o hx hb => ?_, fun _ _ => rfl, rfl, fun _ i x K _ hq => (by cases hq), fun i x K st _ hq => (by cases hq), fun i => ⟨0, rfl⟩⟩
  ·by_cases hx0 : x = 0
   ·subst hx0; cases hx
    exact fun b p o hb => (Bqv hb).2
   ·simp [hpW, hx0, PhW.mem] at hx
  ·by_cases hx0 : x = 0
   ·by_cases hy0 : y = 0
    ·exact absurd (hx0.trans hy0.symm) hxy
    ·simp [hpW, hy0, PhW.mem] at hy
   ·simp [hpW, hx0, PhW.mem] at hx
  ·by_cases hx0 : x = 0
   ·subst hx0; cases hx
    exact absurd (Bqv hb).1 (by simp)
   ·simp [hpW, hx0, PhW.mem] at hx
 refine FanW.ends (W := W) ?_ hW0.fanW _ _ _ _ _ _ _ _ hI rfl
 rintro g H ⟨fr, rfl, hfn, hl⟩
 refine ⟨rfl, fun w hsat hB => ?_⟩
 rcases hl with ⟨hm, hd, hk, fn', hf', hres⟩ | ⟨ch, _, _, _, _, hres⟩
 ·obtain rfl : fn' = fn := Option.some.inj (hf'.symm.trans (by rw [hfn]; exact hf))
  obtain ⟨es, w', H', hmv, r, hrun, hd'⟩ := Ak5 _ w hsat hres
  have hr0 : (results fn' fr.tmps).runT P w #[] = (r, es) := by rw [hrun #[]]; simp
  rcases hd' with ⟨v, rfl, hv⟩ | ⟨v, _, hv⟩
  ·have hrun' : (results fn' fr.tmps).run P w = .ok v w' := by
    have := congrArg Prod.fst hr0
    simpa using this
   have := hr _ _ _ _ hrun'
   subst this
   have hv' : v = v₀ := by injection hv
   subst hv'
   refine ⟨v, seen P fr.fn es, ?_, ?_, rfl, hB⟩
   ·have hi' : P.inits.idxOf? fr.fn = none := by rw [hfn]; exact hi
    simp [G, stepG, unwind, doReturn, hm, hd, hk, hf', hr0, hi', GStep.after, -Sem.runT_eq]
   ·have hq := hmv.seen (P := P) fr.fn
    exact ⟨hsat, hq.size, fun _ _ _ => rfl, fun b p o' hb => .inl ⟨o', hb, fun _ => rfl⟩, rfl, rfl, rfl, hq.evs, hq.low⟩
  ·exact hv.elim
 ·cases hres
end Go.X
end
section
namespace Go.Proofs.YtgniilnljeedlaaGreatDoor
open Go
def lk : Go.Conc.Lib.WgLink := { add := 123, done := 125, wait := 128, relMerge := 140, disable := 141, enable := 142, inBubble := 143, associate := 144, fatal := 145, uOr := 146, uAdd := 147, raceRead := 148, uLoad := 149, uStore := 150, disassociate := 151, semrelease := 152, acquire := 155, isAssociated := 156, uCas := 157, raceWrite := 158, semacquire := 159, orU64 := 163, addU64 := 164, loadU64 := 165, storeU64 := 166, casU64 := 167, tWgP := 196, tUP := 180, tAssoc := 198, tWg := 174, tAU := 171, tU64 := 74, tUint := 163, tU32 := 172, tPU32 := 202, tPAU := 223, tPU64 := 225, tNoCopy := 167, tANoCopy := 168, tAlign64 := 169 }
theorem wgLib : Go.Conc.Lib.WgLib Tryz.prog lk :=
 ⟨Tryz.func123, Tryz.func125, Tryz.func128, Tryz.func140, Tryz.func141, Tryz.func142, Tryz.func143, Tryz.func144, Tryz.func145, Tryz.func146, Tryz.func147, Tryz.func148, Tryz.func149, Tryz.func150, Tryz.func151, Tryz.func152, Tryz.func155, Tryz.func156, Tryz.func157, Tryz.func158, Tryz.func159, Tryz.func163, Tryz.func164, Tryz.func165, Tryz.func166, Tryz.func167, Tryz.underlying196, Tryz.runUnderlying196, Tryz.sizeOf196, Tryz.isAgg196, Tryz.zeroValue196, Tryz.underlying180, Tryz.runUnderlying180, Tryz.sizeOf180, Tryz.isAgg180, Tryz.zeroValue180, Tryz.underlying198, Tryz.runUnderlying198, Tryz.sizeOf198, Tryz.isAgg198, Tryz.zeroValue198, Tryz.underlying174, Tryz.runUnderlying174, Tryz.sizeOf174, Tryz.isAgg174, Tryz.zeroValue174, Tryz.underlying171, Tryz.runUnderlying171, Tryz.sizeOf171, Tryz.isAgg171, Tryz.zeroValue171, Tryz.underlying74, Tryz.runUnderlying74, Tryz.sizeOf74, Tryz.isAgg74, Tryz.zeroValue74, Tryz.underlying163, Tryz.runUnderlying163, Tryz.sizeOf163, Tryz.isAgg163, Tryz.zeroValue163, Tryz.underlying172, Tryz.runUnderlying172, Tryz.sizeOf172, Tryz.isAgg172, Tryz.zeroValue172, Tryz.underlying202, Tryz.runUnderlying202, Tryz.sizeOf202, Tryz.isAgg202, Tryz.zeroValue202, Tryz.underlying223, Tryz.runUnderlying223, Tryz.sizeOf223, Tryz.isAgg223, Tryz.zeroValue223, Tryz.underlying225, Tryz.runUnderlying225, Tryz.sizeOf225, Tryz.isAgg225, Tryz.zeroValue225, Tryz.underlying0, Tryz.runUnderlying0, Tryz.sizeOf0, Tryz.isAgg0, Tryz.zeroValue0, Tryz.underlying3, Tryz.runUnderlying3, Tryz.sizeOf3, Tryz.isAgg3, Tryz.zeroValue3, Tryz.underlying4, Tryz.runUnderlying4, Tryz.sizeOf4, Tryz.isAgg4, Tryz.zeroValue4, Tryz.underlying9, Tryz.runUnderlying9, Tryz.sizeOf9, Tryz.isAgg9, Tryz.zeroValue9, Tryz.underlying20, Tryz.runUnderlying20, Tryz.sizeOf20, Tryz.isAgg20, Tryz.zeroValue20, Tryz.underlying21, Tryz.runUnderlying21, Tryz.sizeOf21, Tryz.isAgg21, Tryz.zeroValue21, by kernel_rfl, by kernel_rfl⟩
end Go.Proofs.YtgniilnljeedlaaGreatDoor
end
section
namespace Go.Proofs.YtgniilnljeedlaaGreatDoor
open Go Go.X
def Bxi := (fun H => Ay9 (H := H) Tryz.underlying22 Tryz.sizeOf3)
def Byu := And.intro (fun H => Aq5 (H := H) Tryz.underlying22) (And.intro (fun H => Aqq (H := H) Tryz.underlying22 Tryz.sizeOf3) (fun H => Aqd (H := H) Tryz.underlying3 rfl))
theorem Dk0 {p q : Prop} (g : q) (h : Hid q -> p := by
 intro g
 repeat' (first
 | (refine Axn rfl ?_; intro Kz hKz; simp -implicitDefEqProofs (disch := first | omega | (simp only [qd] <;> omega)) only [xq, ↓xp, qc, Nat.reduceAdd, List.range, List.range.loop, fine, Nat.reduceEqDiff, ↓reduceIte, yielded, reduceCtorEq, Nat.reduceLT, Nat.reduceMul, Nat.reduceSub, one, Nat.reduceLeDiff, Aqa, Byu, aq, ↓ap, qe0, qe1, qe2, *, -g, -hKz, beq_self_eq_true]; try (refine hKz _ _ ?_; clear hKz Kz))
 | (refine Axs rfl ?_; intro Kz hKz; simp -implicitDefEqProofs (disch := first | omega | (simp only [qd] <;> omega)) only [xq, ↓xp, qc, Nat.reduceAdd, List.range, List.range.loop, fine, Nat.reduceEqDiff, ↓reduceIte, yielded, reduceCtorEq, Nat.reduceLT, Nat.reduceMul, Nat.reduceSub, one, Nat.reduceLeDiff, Aqa, Byu, aq, ↓ap, qe0, qe1, qe2, *, -g, -hKz, beq_self_eq_true]; try (refine hKz _ _ ?_; clear hKz Kz; (try simp only [nq, ↓reduceIte, Nat.reduceEqDiff])))
 | (refine Aqu ?_; (try simp only [nq, ↓reduceIte, Nat.reduceEqDiff]))
 | (refine Axr ?_; (try simp only [nq, ↓reduceIte, Nat.reduceEqDiff]))
 | (refine Axa ?_; (try simp only [nq, ↓reduceIte, Nat.reduceEqDiff]))
 | (refine Azb ?_; (try simp only [nq, ↓reduceIte, Nat.reduceEqDiff]))
 | (refine Axy (by simp only [Aqm, Aqr, Nat.reduceEqDiff, Nat.reduceLT, ↓reduceIte, *, -g]; rfl) ?_ ?_ <;> (intro hcz; first | (exfalso; simp -implicitDefEqProofs (disch := omega) only [*, -g, bq, reduceCtorEq] at hcz; done) | (simp only [dq, qe3, qe4, qe5, qe6] at hcz) | skip))
 | (refine Axq ?_)
 | (refine Aqo ?_)
 | (refine Aql ?_))
 (try (revert Kz; refine unK ?_)); (repeat (revert hcz; refine unC ?_))
 exact Hid.out g) : Hid p := ⟨h ⟨g⟩⟩
theorem Bxt (m : Md) (H : Hp) (v : Value) (xs : List Int) (hv : SlI H v xs) (hl : xs.length <= 1000000) :
  FnX Tryz.prog m 27 #[v] H fun e H' => ∃ w, e = .returned w /\ RowX none H H' w 3 (ints xs) := by
 obtain ⟨a, cap, rfl, hcap, hx⟩ := hv
 refine Aqk Tryz.func27 rfl Tryz.ntmps27 (by simp) ?_
 (refine @unH _ ?_; refine zA @Bxi ?_; (repeat (refine inC ?_; intro hc)); try (refine inK ?_; intro K hK))
 intro nb hnb
 have hle : H.le (H.set nb (.cells #[] 3 (0, 0))) := Hp.le_set hnb
 have hrow0 : Aj3 H (H.set nb (.cells #[] 3 (0, 0))) (.slice (some ⟨nb, 0, none⟩) 0 0) 3 1 0 (ints []) := .inr ⟨nb, #[], 0, hnb, rfl, rfl, rfl, rfl, Nat.le_refl _, fun i u hi => by simp [ints] at hi⟩
 cases xs with
 | nil =>
  ((try (refine @unH _ ?_; refine zX @Bxi ?_)); (try (refine hK _ _ ?_; clear hK K; (try simp only [nq, ↓reduceIte, Nat.reduceEqDiff]))); refine @unH _ ?_; refine zA @Bxi ?_; (repeat (refine inC ?_; intro hc)); try (refine inK ?_; intro K hK))
  refine Av1 Tryz.underlying22 Tryz.sizeOf3 _ _ _ _ _ _ _ (Nat.le_refl _) _ _ ?_
  ((try (refine @unH _ ?_; refine zX @Bxi ?_)); (try (refine hK _ _ ?_; clear hK K; (try simp only [nq, ↓reduceIte, Nat.reduceEqDiff]))); refine @unH _ ?_; refine zA @Bxi ?_; (repeat (refine inC ?_; intro hc)); try (refine inK ?_; intro K hK))
  (refine @unH _ ?_; refine z9 Tryz.results27 ?_)
  exact ⟨_, rfl, Lex.of hle, .inr ⟨nb, #[], 0, hnb, Aqw, rfl, rfl, Nat.le_refl _, fun i u hi => by simp [ints] at hi⟩⟩
 | cons x0 xs0 =>
  obtain ⟨b', o', p', c', fr', h', hb', _⟩ := hx 0 x0 rfl
  subst h'
  ((try (refine @unH _ ?_; refine zX @Bxi ?_)); (try (refine hK _ _ ?_; clear hK K; (try simp only [nq, ↓reduceIte, Nat.reduceEqDiff]))); refine @unH _ ?_; refine zA @Bxi ?_; (repeat (refine inC ?_; intro hc)); try (refine inK ?_; intro K hK))
  have hgne : b' ≠ nb := Ax0 hb' hnb
  refine Ajo hrow0 (Hp.le_refl _) (ys := x0 :: xs0) rfl (fun h => absurd h (by rw [hb']; simp)) (fun j y hj => ?_) (by simp at hl ⊢; omega) _ _ _ _ (fun v' H1 H2 hr hl2 => ?_)
  ·obtain ⟨b2, o2, p2, c2, fr2, e2, hb2, hc2⟩ := hx j y hj
   cases e2
   rw [Bqc hgne, cell_of hb2]
   exact hc2
  ·((try (refine @unH _ ?_; refine zX @Bxi ?_)); (try (refine hK _ _ ?_; clear hK K; (try simp only [nq, ↓reduceIte, Nat.reduceEqDiff]))); refine @unH _ ?_; refine zA @Bxi ?_; (repeat (refine inC ?_; intro hc)); try (refine inK ?_; intro K hK))
   (refine @unH _ ?_; refine z9 Tryz.results27 ?_)
   refine ⟨_, rfl, ?_⟩
   have hlen := hr.len
   rcases hr with ⟨_, h0, _⟩ | ⟨b3, c3, cap3, hb3, rfl, rfl, hs3, hl3, hn3, hg3⟩
   ·simp at h0
   ·refine ⟨Lex.of (Hp.le_trans (Hp.le_set hb3) hl2), .inr ⟨b3, c3, cap3, hb3, hl2 _ _ Aqw, ?_, by simpa using hs3, ?_, ?_⟩⟩
    ·simp [ints]
    ·simpa [ints] using hn3
    ·intro i u hi; exact hg3 i u (by simpa using hi)
theorem Cwr (m : Md) (H : Hp) (v : Value) (xs : List Int) (n : Int) (hv : SlI H v xs) (hl : xs.length <= 1000000) :
  FnX Tryz.prog m 50 #[v, .int .i64 n] H fun e H' => H' = H /\ ∃ r : Int, e = .returned (.int .i64 r) /\ ((r = -1 /\ n ∉ xs) ∨ ∃ k : Nat, r = k /\ k < xs.length /\ xs[k]? = some n /\ n ∉ xs.take k) := by
 have hvS := hv
 obtain ⟨a, cap, rfl, hcap, hx⟩ := hv
 refine Aqk Tryz.func50 rfl Tryz.ntmps50 (by simp) ?_
 (refine @unH _ ?_; refine zA Byu ?_; (repeat (refine inC ?_; intro hc)); try (refine inK ?_; intro K hK))
 refine Axe (fun w a' H' => ∃ e j, w = xs.length - j /\ j <= xs.length /\ a' = act 19 e [] /\ e 0 = .slice a xs.length cap /\ e 1 = .int .i64 n /\ e 5 = .int .i64 (j : Nat) /\ H' = H /\ n ∉ xs.take j) (n := xs.length) ?_ ?_
 ·exact ⟨_, 0, by omega, by omega, rfl, rfl, rfl, rfl, by trivial, by simp⟩
 ·rintro w a' H' ⟨e, j, rfl, hj, rfl, e0, e1, e5, hH, hno⟩
  rw [hH]; clear hH H'
  by_cases hlt : j < xs.length
  ·obtain ⟨b, o, p, c, fr, rfl, hb, hcx⟩ := hx j xs[j] (List.getElem?_eq_getElem hlt)
   have hxj := List.getElem?_eq_getElem hlt
   generalize hy : xs[j] = y at *
   have hcx' : c[o + (j : Int).toNat * 1]? = some (.int .i64 y) := by simpa using hcx
   have hno' : Aqs (n ∉ xs.take j) := hno
   have hxj' : Aqs (xs[j]? = some y) := hxj
   clear hx hno hxj hy
   by_cases hyn : y = n
   ·subst hyn
    (refine @unH _ ?_; refine Dk0 ?_; (repeat (refine inC ?_; intro hc)); try (refine inK ?_; intro K hK))
    (refine @unH _ ?_; refine z9 Tryz.results50 ?_)
    exact ⟨by trivial, _, rfl, .inr ⟨j, rfl, hlt, hxj', hno'⟩⟩
   ·have hne : (y == n) = false := beq_false_of_ne hyn
    clear hyn
    have hnext : n ∉ xs.take (j + 1) := fun h => by
     have hxj : xs[j]? = some y := hxj'
     rw [List.take_add_one, hxj] at h
     rcases List.mem_append.1 h with h | h
     ·exact hno' h
     ·rw [show n = y by simpa using h] at hne
      simp at hne
    replace hnext : Aqs _ := hnext
    (refine @unH _ ?_; refine zA Byu ?_; (repeat (refine inC ?_; intro hc)); try (refine inK ?_; intro K hK))
    exact ⟨_, by omega, _, j + 1, rfl, hlt, rfl, e0, e1, rfl, by trivial, hnext⟩
  ·obtain rfl : j = xs.length := by omega
   (refine @unH _ ?_; refine zA Byu ?_; (repeat (refine inC ?_; intro hc)); try (refine inK ?_; intro K hK))
   (refine @unH _ ?_; refine z9 Tryz.results50 ?_)
   exact ⟨by trivial, _, rfl, .inl ⟨rfl, by simpa using hno⟩⟩
def atF (xs : List Int) (n : Int) : Int := match xs.findIdx? (· == n) with
 | some k => k
 | none => -1
theorem Cj6 {xs : List Int} {n : Int} (h : n ∉ xs) : atF xs n = -1 := by
 unfold atF
 have e : xs.findIdx? (· == n) = none := List.findIdx?_eq_none_iff.2 (fun x hx => beq_false_of_ne fun e => h (by rw [<- e]; exact hx))
 rw [e]
theorem Dzx {xs : List Int} {n : Int} {k : Nat} (hk : xs[k]? = some n) (hn : n ∉ xs.take k) : atF xs n = k := by
 obtain ⟨hlt, he⟩ := List.getElem?_eq_some_iff.1 hk
 unfold atF
 rw [List.findIdx?_eq_some_iff_getElem.2 ⟨hlt, by simp [he], fun j hj => by
  have : xs[j]'(by omega) ∈ xs.take k := List.mem_iff_getElem.2 ⟨j, by rw [List.length_take]; omega, by rw [List.getElem_take]⟩
  simp
  intro e
  exact hn (e ▸ this)⟩]
theorem By0 {xs : List Int} {n : Int} (h : n ∈ xs) : 0 <= atF xs n /\ atF xs n < xs.length /\ xs[(atF xs n).toNat]? = some n := by
 unfold atF
 cases hf : xs.findIdx? (· == n) with
 | none => exact absurd h (fun hm => by have := List.findIdx?_eq_none_iff.1 hf n hm; simp at this)
 | some k =>
  obtain ⟨h1, h2, _⟩ := List.findIdx?_eq_some_iff_getElem.1 hf
  simp only [beq_iff_eq] at h2
  simp only [Int.toNat_natCast]
  refine ⟨by omega, by omega, ?_⟩
  rw [List.getElem?_eq_getElem h1, h2]
theorem Bka {xs : List Int} {n : Int} : 0 <= atF xs n ↔ n ∈ xs := by
 constructor
 ·intro h
  by_cases hm : n ∈ xs
  ·exact hm
  ·rw [Cj6 hm] at h; omega
 ·exact fun h => (By0 h).1
theorem Cj4 (xs : List Int) (n : Int) : -1 <= atF xs n /\ atF xs n < xs.length := by
 by_cases h : n ∈ xs
 ·have := By0 h; omega
 ·rw [Cj6 h]; omega
theorem SlR.get {H : Hp} {a : Option Addr} {n cap : Nat} {xss : List (List Int)} (h : SlR H (.slice a n cap) xss) {i : Nat} {xs : List Int} (hx : xss[i]? = some xs) :
  ∃ (b o : Nat) (p : Bool) (c : Array Value) (fr : Nat × Nat) (w : Value), a = some ⟨b, o, none⟩ /\ H b = some (p, .cells c 22 fr) /\ c[o + i]? = some w /\ SlI H w xs := by
 obtain ⟨a', cap', he, _, hg⟩ := h
 cases he
 exact hg i xs hx
theorem Cv1 {H : Hp} {a : Option Addr} {m cap : Nat} {xs : List Int} (h : SlI H (.slice a m cap) xs) {k : Nat} (hk : k <= xs.length) : SlI H (.slice a k cap) (xs.take k) := by
 obtain ⟨a', c', h1, h2, h3⟩ := h
 cases h1
 have hl : (xs.take k).length = k := by rw [List.length_take]; omega
 refine ⟨_, _, by rw [hl], by omega, fun i x hi => ?_⟩
 rw [List.getElem?_take] at hi
 split at hi
 ·exact h3 i x hi
 ·cases hi
def chF (pl : Int) : List Int -> Nat -> List Int -> Option Nat
 | [], _, [] => some 0
 | t :: ts, m, c :: cs => if c ∈ Axz pl m t then (chF pl ts (Aqv m c t) cs).map (Azf m t + ·) else none
 | _, _, _ => none
def Axl (L : Nat) (pl : Int) : List Int -> Nat -> List (List Int)
 | [], _ => [[]]
 | t :: ts, m => (Axz pl m t).flatMap fun s => if Azf m t + optF L pl ts (Aqv m s t) <= optF L pl (t :: ts) m then (Axl L pl ts (Aqv m s t)).map (s :: ·) else []
theorem Cxy (m : Nat) : (Ax4 m).Pairwise (· < ·) := by
 unfold Ax4 Awl
 rw [List.pairwise_map]
 refine List.Pairwise.imp (R := (· < ·)) (fun {a b} h => by omega) ?_
 exact List.Pairwise.sublist (List.filter_sublist) List.pairwise_lt_range
theorem Dqc (pl : Int) (m : Nat) (t : Int) : (Axz pl m t).Pairwise (· < ·) := by
 unfold Axz
 split
 ·exact List.pairwise_singleton _ _
 ·split
  ·exact Cxy m
  ·exact List.pairwise_singleton _ _
theorem Ckr {pl : Int} : ∀ {ts : List Int} {m : Nat} {cs : List Int} {k : Nat}, chF pl ts m cs = some k -> cs.length = ts.length
 | [], _, [], _, _ => rfl
 | [], _, _ :: _, _, h => by simp [chF] at h
 | _ :: _, _, [], _, h => by simp [chF] at h
 | t :: ts, m, c :: cs, k, h => by
  unfold chF at h
  split at h
  ·rw [Option.map_eq_some_iff] at h
   obtain ⟨k', h', _⟩ := h
   simp [Ckr h']
  ·cases h
theorem Dqt (L : Nat) {pl : Int} : ∀ {ts : List Int} {m : Nat} {cs : List Int} {k : Nat}, chF pl ts m cs = some k -> optF L pl ts m <= k
 | [], _, [], _, _ => Nat.zero_le _
 | [], _, _ :: _, _, h => by simp [chF] at h
 | _ :: _, _, [], _, h => by simp [chF] at h
 | t :: ts, m, c :: cs, k, h => by
  unfold chF at h
  split at h
  ·rename_i hc
   rw [Option.map_eq_some_iff] at h
   obtain ⟨k', h', rfl⟩ := h
   have := Dqt L h'
   have := Avr L pl t ts m c hc
   omega
  ·cases h
theorem Bxo (L : Nat) {pl : Int} : ∀ {ts : List Int} {m : Nat} {cs : List Int}, cs ∈ Axl L pl ts m ↔ chF pl ts m cs = some (optF L pl ts m)
 | [], m, cs => by
  cases cs with
  | nil => simp [Axl, chF, optF]
  | cons c cs => simp [Axl, chF]
 | t :: ts, m, cs => by
  unfold Axl
  rw [List.mem_flatMap]
  cases cs with
  | nil =>
   simp only [chF, reduceCtorEq, iff_false]
   rintro ⟨s, _, h⟩
   split at h
   ·simp at h
   ·simp at h
  | cons c cs =>
   constructor
   ·rintro ⟨s, hs, h⟩
    split at h
    ·rename_i hle
     rw [List.mem_map] at h
     obtain ⟨cs', h1, h2⟩ := h
     obtain ⟨rfl, rfl⟩ := List.cons.inj h2
     have ih := (Bxo L).1 h1
     unfold chF
     rw [if_pos hs, ih, Option.map_some]
     have := Avr L pl t ts m s hs
     congr 1
     omega
    ·simp at h
   ·intro h
    have h0 := h
    unfold chF at h
    split at h
    ·rename_i hc
     rw [Option.map_eq_some_iff] at h
     obtain ⟨k, h1, h2⟩ := h
     have h3 := Dqt L h1
     have h4 := Avr L pl t ts m c hc
     refine ⟨c, hc, ?_⟩
     rw [if_pos (by omega), List.mem_map]
     exact ⟨cs, (Bxo L).2 (by rw [h1]; congr 1; omega), rfl⟩
    ·cases h
theorem Cka (L : Nat) {pl : Int} (h1 : 1 <= pl) : ∀ (ts : List Int) (m : Nat), ts.length <= L -> Axl L pl ts m ≠ []
 | [], _, _ => by simp [Axl]
 | t :: ts, m, hl => by
  obtain ⟨s, hs, he⟩ := Awz L pl h1 t ts m hl
  have ih := Cka L h1 ts (Aqv m s t) (by simp at hl; omega)
  obtain ⟨cs, hcs⟩ := List.exists_mem_of_ne_nil _ ih
  have : (s :: cs) ∈ Axl L pl (t :: ts) m := by
   unfold Axl
   rw [List.mem_flatMap]
   refine ⟨s, hs, ?_⟩
   rw [if_pos (by omega)]
   exact List.mem_map.2 ⟨cs, hcs, rfl⟩
  exact List.ne_nil_of_mem this
def Lx : List Int -> List Int -> Prop
 | a :: xs, b :: ys => a < b ∨ (a = b /\ Lx xs ys)
 | _, _ => False
theorem Lx.trans : ∀ {a b c : List Int}, Lx a b -> Lx b c -> Lx a c
 | a :: xs, b :: ys, c :: zs, h, h' => by
  unfold Lx at *
  rcases h with h | ⟨rfl, h⟩ <;> rcases h' with h' | ⟨rfl, h'⟩
  ·exact .inl (by omega)
  ·exact .inl h
  ·exact .inl h'
  ·exact .inr ⟨rfl, h.trans h'⟩
theorem Lx.irr : ∀ {a : List Int}, ¬ Lx a a
 | [], h => by unfold Lx at h; exact h
 | a :: xs, h => by
  unfold Lx at h
  rcases h with h | ⟨_, h⟩
  ·omega
  ·exact Lx.irr h
theorem Lx.asymm {a b : List Int} (h : Lx a b) (h' : Lx b a) : False := (h.trans h').irr
theorem Ckb (L : Nat) (pl : Int) : ∀ (ts : List Int) (m : Nat), (Axl L pl ts m).Pairwise Lx
 | [], _ => List.pairwise_singleton _ _
 | t :: ts, m => by
  unfold Axl
  rw [List.pairwise_flatMap]
  refine ⟨fun s hs => ?_, ?_⟩
  ·split
   ·rw [List.pairwise_map]
    exact (Ckb L pl ts _).imp fun h => by unfold Lx; exact .inr ⟨rfl, h⟩
   ·exact List.Pairwise.nil
  ·refine (Dqc pl m t).imp fun {a b} hab x hx y hy => ?_
   have hx' : ∃ xs, x = a :: xs := by
    split at hx
    ·obtain ⟨xs, _, rfl⟩ := List.mem_map.1 hx; exact ⟨xs, rfl⟩
    ·simp at hx
   have hy' : ∃ ys, y = b :: ys := by
    split at hy
    ·obtain ⟨ys, _, rfl⟩ := List.mem_map.1 hy; exact ⟨ys, rfl⟩
    ·simp at hy
   obtain ⟨xs, rfl⟩ := hx'
   obtain ⟨ys, rfl⟩ := hy'
   unfold Lx
   exact .inl hab
theorem Dj6 {α : Type} {R : α -> α -> Prop} (hi : ∀ a, ¬ R a a) (ha : ∀ a b, R a b -> R b a -> False) : ∀ {l l' : List α}, l.Pairwise R -> l'.Pairwise R -> (∀ x, x ∈ l ↔ x ∈ l') -> l = l'
 | [], [], _, _, _ => rfl
 | [], y :: l', _, _, h => absurd ((h y).2 List.mem_cons_self) (by simp)
 | x :: l, [], _, _, h => absurd ((h x).1 List.mem_cons_self) (by simp)
 | x :: l, y :: l', h1, h2, h => by
  rw [List.pairwise_cons] at h1 h2
  have hxy : x = y := by
   rcases List.mem_cons.1 ((h x).1 List.mem_cons_self) with e | hx
   ·exact e
   ·rcases List.mem_cons.1 ((h y).2 List.mem_cons_self) with e | hy
    ·exact e.symm
    ·exact (ha x y (h1.1 y hy) (h2.1 x hx)).elim
  subst hxy
  congr 1
  refine Dj6 hi ha h1.2 h2.2 fun z => ⟨fun hz => ?_, fun hz => ?_⟩
  ·rcases List.mem_cons.1 ((h z).1 (List.mem_cons_of_mem _ hz)) with rfl | hz'
   ·exact absurd (h1.1 z hz) (hi z)
   ·exact hz'
  ·rcases List.mem_cons.1 ((h z).2 (List.mem_cons_of_mem _ hz)) with rfl | hz'
   ·exact absurd (h2.1 z hz) (hi z)
   ·exact hz'
theorem By2 (L : Nat) {pl : Int} (h1 : 1 <= pl) : ∀ (ts : List Int) (m : Nat), ts.length <= L -> (Axl L pl ts m).head? = some (Aj9 L pl ts m)
 | [], _, _ => rfl
 | t :: ts, m, hl => by
  have key : ∀ (l : List Int), (∃ s ∈ l, Azf m t + optF L pl ts (Aqv m s t) <= optF L pl (t :: ts) m) ->
    (l.flatMap fun s => if Azf m t + optF L pl ts (Aqv m s t) <= optF L pl (t :: ts) m then (Axl L pl ts (Aqv m s t)).map (s :: ·) else []).head? =
     some (((l.find? fun s => Azf m t + optF L pl ts (Aqv m s t) <= optF L pl (t :: ts) m).getD (-1)) :: Aj9 L pl ts (Aqv m ((l.find? fun s => Azf m t + optF L pl ts (Aqv m s t) <= optF L pl (t :: ts) m).getD (-1)) t)) := by
   intro l
   induction l with
   | nil => rintro ⟨s, hs, _⟩; cases hs
   | cons a l ih =>
    rintro ⟨s, hs, hle⟩
    rw [List.flatMap_cons, List.find?_cons]
    by_cases ha : Azf m t + optF L pl ts (Aqv m a t) <= optF L pl (t :: ts) m
    ·simp only [ha, if_true, decide_true, Option.getD_some]
     have ih2 := By2 L h1 ts (Aqv m a t) (by simp at hl; omega)
     rw [List.head?_append, List.head?_map, ih2]
     rfl
    ·simp only [ha, if_false, decide_false, List.nil_append]
     refine ih ⟨s, ?_, hle⟩
     rcases List.mem_cons.1 hs with rfl | hs
     ·exact absurd hle ha
     ·exact hs
  obtain ⟨s, hs, he⟩ := Awz L pl h1 t ts m hl
  unfold Axl Aj9
  exact key _ ⟨s, hs, by omega⟩
theorem Dqh {pl : Int} {ts start : List Int} (L : Nat) (hL : ts.length <= L) (h1 : 1 <= pl) (hb : ∀ t ∈ ts, 0 <= t /\ t < 6) (hs : ∀ y ∈ start, 0 <= y /\ y < 6) (hl : (start.length : Int) <= pl) : (rrun pl 3 ts (rs0 start) ts.length).f = optF L pl ts (oOf start) := by
 have := Byb (s0 := rs0 start) L hL h1 hb (Cv3 hs hl) ts.length (Nat.le_refl _)
 rw [List.drop_length] at this
 simpa [rs0, optF] using this.symm
def Axb (pl : Int) : List Int -> List Int -> List Int -> Option Nat
 | _, [], [] => some 0
 | o, t :: ts, c :: cs =>
  if t ∈ o then (if c = -1 then Axb pl o ts cs else none)
  else if (o.length : Int) < pl then (if c = -1 then (Axb pl (o ++ [t]) ts cs).map (1 + ·) else none)
  else if c ∈ o then (Axb pl (o.erase c ++ [t]) ts cs).map (1 + ·) else none
 | _, _, _ => none
structure OffA (o : List Int) (m : Nat) : Prop where
 mem : ∀ x, inO m x ↔ x ∈ o
 nd : o.Nodup
theorem OffA.len {o : List Int} {m : Nat} (h : OffA o m) : Aq4 m = o.length := by
 rw [<- Akx]
 have hn : (Ax4 m).Nodup := (Cxy m).imp fun h => by omega
 exact ((List.perm_ext_iff_of_nodup hn h.nd).2 fun x => by rw [Azg, h.mem]).length_eq
theorem Bqe {pl : Int} : ∀ (ts cs o : List Int) (m : Nat), OffA o m -> (∀ t ∈ ts, 0 <= t /\ t < 6) -> Axb pl o ts cs = chF pl ts m cs
 | [], [], _, _, _, _ => by simp [Axb, chF]
 | [], _ :: _, _, _, _, _ => by simp [Axb, chF]
 | _ :: _, [], _, _, _, _ => by simp [Axb, chF]
 | t :: ts, c :: cs, o, m, h, hb => by
  have ht := hb t List.mem_cons_self
  have hb' : ∀ x ∈ ts, 0 <= x /\ x < 6 := fun x hx => hb x (List.mem_cons_of_mem _ hx)
  have hl := h.len
  unfold Axb chF
  by_cases hto : t ∈ o
  ·rw [if_pos hto]
   obtain ⟨h1, h2⟩ := Ajj (pl := pl) ht.1 ht.2 ((h.mem t).2 hto)
   rw [h1, h2]
   simp only [List.mem_singleton]
   by_cases hc : c = -1
   ·subst hc
    rw [if_pos rfl, if_pos rfl]
    have h3 : OffA o (Aqv m (-1) t) := ⟨fun x => by
     rw [Ajm (by omega) (by omega) ht.1 ht.2, h.mem]
     exact ⟨fun h => h.elim (fun e => e ▸ hto) fun h => h.1, fun hx => .inr ⟨hx, Aja ((h.mem x).2 hx)⟩⟩, h.nd⟩
    rw [Bqe ts cs o _ h3 hb']
    cases chF pl ts (Aqv m (-1) t) cs <;> simp
   ·rw [if_neg hc, if_neg hc]
  ·rw [if_neg hto]
   obtain ⟨h1, h2⟩ := Aza (pl := pl) (fun hh => hto ((h.mem t).1 hh)) ht.1 ht.2
   rw [h1, h2]
   by_cases hf : (o.length : Int) < pl
   ·rw [if_pos hf, if_neg (show ¬ pl <= Aq4 m by omega)]
    simp only [List.mem_singleton]
    by_cases hc : c = -1
    ·subst hc
     rw [if_pos rfl, if_pos rfl]
     have h3 : OffA (o ++ [t]) (Aqv m (-1) t) := ⟨fun x => by
      rw [Ajm (by omega) (by omega) ht.1 ht.2, h.mem, List.mem_append, List.mem_singleton]
      exact ⟨fun hh => hh.elim .inr fun hh => .inl hh.1, fun hx => hx.elim (fun hx => .inr ⟨hx, Aja ((h.mem x).2 hx)⟩) .inl⟩, by
      rw [List.nodup_append]
      exact ⟨h.nd, List.pairwise_singleton _ _, fun a ha b hb e => hto (by rw [List.mem_singleton] at hb; rw [<- hb, <- e]; exact ha)⟩⟩
     rw [Bqe ts cs _ _ h3 hb']
    ·rw [if_neg hc, if_neg hc]
   ·rw [if_neg hf, if_pos (show pl <= Aq4 m by omega)]
    simp only [Azg, h.mem]
    by_cases hc : c ∈ o
    ·rw [if_pos hc, if_pos hc]
     have hcr := (h.mem c).2 hc
     have hcb : 0 <= c /\ c < 6 := ⟨hcr.1, hcr.2.1⟩
     have h3 : OffA (o.erase c ++ [t]) (Aqv m c t) := ⟨fun x => by
      rw [Ajm (by omega) hcb.2 ht.1 ht.2, h.mem, List.mem_append, List.mem_singleton, h.nd.mem_erase_iff]
      exact ⟨fun hh => hh.elim .inr fun hh => .inl ⟨hh.2, hh.1⟩, fun hx => hx.elim (fun hx => .inr ⟨hx.2, hx.1⟩) .inl⟩, by
      rw [List.nodup_append]
      exact ⟨h.nd.erase _, List.pairwise_singleton _ _, fun a ha b hb e => hto (by rw [List.mem_singleton] at hb; rw [<- hb, <- e]; exact List.mem_of_mem_erase ha)⟩⟩
     rw [Bqe ts cs _ _ h3 hb']
    ·rw [if_neg hc, if_neg hc]
theorem Bz9 {pl : Int} : ∀ {ts cs o : List Int}, ts.length ≠ cs.length -> Axb pl o ts cs = none
 | [], [], _, h => absurd rfl h
 | [], _ :: _, _, _ => by simp [Axb]
 | _ :: _, [], _, _ => by simp [Axb]
 | t :: ts, c :: cs, o, h => by
  simp only [List.length_cons] at h
  have ih := fun o => Bz9 (pl := pl) (ts := ts) (cs := cs) (o := o) (by omega)
  simp [Axb, ih]
theorem Cxn {c : Int} : ∀ (o : List Int) (k : Nat), o[k]? = some c -> c ∉ o.take k -> o.take k ++ o.drop (k + 1) = o.erase c
 | [], k, h, _ => by simp at h
 | x :: o, 0, h, _ => by
  simp only [List.getElem?_cons_zero, Option.some.injEq] at h
  subst h
  simp
 | x :: o, k + 1, h, hn => by
  have hx : x ≠ c := fun e => hn (by simp [e])
  simp only [List.getElem?_cons_succ] at h
  rw [List.take_succ_cons, List.drop_succ_cons, List.cons_append, Cxn o k h (fun hh => hn (by simp [hh])), List.erase_cons_tail (by simpa using hx)]
theorem offA_start {start : List Int} (h : ∀ y ∈ start, 0 <= y /\ y < 6) (hn : start.Nodup) : OffA start (oOf start) := ⟨Cv4 h, hn⟩
def Azd := And.intro (fun H => Aq5 (H := H) Tryz.underlying22) (And.intro (fun H => Aqq (H := H) Tryz.underlying22 Tryz.sizeOf3) (And.intro (fun H => Aqd (H := H) Tryz.underlying3 rfl) (And.intro (fun H => Aqh (H := H) Tryz.underlying120 (i := 2) rfl (off := 2) rfl Tryz.sizeOf4) (And.intro (fun H => Aqd (H := H) Tryz.underlying4 rfl) (And.intro (fun H => Aqh (H := H) Tryz.underlying120 (i := 0) rfl (off := 0) rfl Tryz.sizeOf3) (And.intro (fun H => Axo (H := H) Tryz.sizeOf3) (And.intro (fun H => Aqh (H := H) Tryz.underlying120 (i := 1) rfl (off := 1) rfl Tryz.sizeOf3) (And.intro (fun H => Aw8 (H := H) Tryz.sizeOf4) (And.intro @Bvl @Cqn)))))))))
structure Bd where
 lo : Int
 hi : Int
 some : Bool
def Akv (b : Bd) (x : Int) : Bd := if b.some then ⟨min b.lo x, max b.hi x, true⟩ else ⟨x, x, true⟩
abbrev bdO (b : Bd) : Obj := .cells #[.int .i64 b.lo, .int .i64 b.hi, .bool b.some] 120 (0, 0)
theorem Bkt (main : Md) (H : Hp) (bb : Nat) (b : Bd) (v : Value) (xs : List Int) (hv : SlI H v xs) (vb : H bb = some (true, bdO b)) (hl : xs.length <= 1000) :
  FnX Tryz.prog main 122 #[.pointer (some ⟨bb, 0, none⟩), v] H fun e H' => e = .returned (.tuple #[]) /\ H' bb = some (true, bdO (xs.foldl Akv b)) /\ ∀ x, x ≠ bb -> H' x = H x := by
 obtain ⟨a, cap, rfl, hc, hx⟩ := hv
 refine Aqk Tryz.func122 rfl Tryz.ntmps122 (by simp) ?_
 (refine @unH _ ?_; refine zA Azd ?_; (repeat (refine inC ?_; intro hc)); try (refine inK ?_; intro K hK))
 refine Axe (fun w a' H' => ∃ e k, w = xs.length - k /\ k <= xs.length /\ a' = act 47 e [] /\ e 0 = .pointer (some ⟨bb, 0, none⟩) /\ e 6 = .slice a xs.length cap /\ e 7 = .int .i64 xs.length /\ e 8 = .int .i64 (k : Nat) /\ H' bb = some (true, bdO ((xs.take k).foldl Akv b)) /\ ∀ x, x ≠ bb -> H' x = H x) (n := xs.length) ?_ ?_
 ·exact ⟨_, 0, by omega, by omega, rfl, rfl, rfl, rfl, rfl, vb, fun _ _ => rfl⟩
 ·rintro w a' H' ⟨e, k, rfl, hk, rfl, e0, e6, e7, e8, vb', hoth⟩
  by_cases hlt : k < xs.length
  ·obtain ⟨rb, o, p, c, fr, rfl, hb, hx'⟩ := hx k xs[k] (List.getElem?_eq_getElem hlt)
   have hcx : c[o + (k : Int).toNat * 1]? = some (.int .i64 xs[k]) := by simpa using hx'
   have nrb : rb ≠ bb := fun h => by rw [h, vb] at hb; cases hb
   have hb' : H' rb = _ := (hoth rb nrb).trans hb
   have hstep : (xs.take (k + 1)).foldl Akv b = Akv ((xs.take k).foldl Akv b) xs[k] := by rw [List.take_add_one, List.getElem?_eq_getElem hlt, List.foldl_append]; rfl
   generalize (xs.take k).foldl Akv b = B at *
   generalize xs[k] = x at *
   obtain ⟨lo, hi, sm⟩ := B
   replace hoth : Aqs _ := hoth
   simp only [Akv] at hstep
   cases sm with
   | false =>
    simp only [Bool.false_eq_true, if_false] at hstep
    replace hstep : Aqs _ := hstep
    clear hb hx
    (refine @unH _ ?_; refine zA Azd ?_; (repeat (refine inC ?_; intro hc)); try (refine inK ?_; intro K hK))
    obtain ⟨H1, hG⟩ : ∃ H1, H1 = H'.set bb (.cells #[.int .i64 x, .int .i64 x, .bool true] 120 (0, 0)) := ⟨_, rfl⟩
    rw [<- hG]
    have v1 := Aqf hG.symm
    have ho1 : Aqs (∀ y, y ≠ bb -> H1 y = H y) := fun y hy => by rw [hG, Aqp hy]; exact (show ∀ y, y ≠ bb -> H' y = H y from hoth) y hy
    clear hG vb' hoth hb'
    refine Ajl (fun HX => HX bb = some (true, .cells #[.int .i64 x, .int .i64 x, .bool true] 120 (0, 0))) [16, 19] (.free 0 (.free 1 (.free 2 (.free 3 (.free 4 (.take 5 (.free 6 (.free 7 (.free 8 (.free 9 (.free 10 (.take 11 (.free 12 (.free 13 (.free 14 (.free 15 (.one 16 (.free 17 (.free 18 (.one 19 .nil)))))))))))))))))))) (by kernel_rfl) (by kernel_rfl) (by decide) (by kernel_rfl) ?_; intro K hK
    (iterate 5 (apply Ax5 rfl rfl rfl; (focus (intro HX; simp -implicitDefEqProofs (disch := first | omega | (simp only [qd] <;> omega)) only [xq, ↓xp, qc, Nat.reduceAdd, List.range, List.range.loop, fine, Nat.reduceEqDiff, ↓reduceIte, yielded, reduceCtorEq, Nat.reduceLT, Nat.reduceMul, Nat.reduceSub, one, Nat.reduceLeDiff, Aqa, Azd, aq, ↓ap, qe0, qe1, qe2, *, -hK, Aq0] <;> (first | exact rfl | exact ⟨rfl, rfl⟩ | exact ⟨rfl, trivial⟩))); simp -implicitDefEqProofs (disch := first | omega | (simp only [qd] <;> omega)) only [Aqn, Aqc]))
    (apply Axd rfl rfl rfl ‹_›; (focus (intro HX hHX; simp -implicitDefEqProofs (disch := first | omega | (simp only [qd] <;> omega)) only [xq, ↓xp, qc, Nat.reduceAdd, List.range, List.range.loop, fine, Nat.reduceEqDiff, ↓reduceIte, yielded, reduceCtorEq, Nat.reduceLT, Nat.reduceMul, Nat.reduceSub, one, Nat.reduceLeDiff, Aqa, Azd, aq, ↓ap, qe0, qe1, qe2, *, -hK, Aq0] <;> (first | exact rfl | exact ⟨rfl, rfl⟩ | exact ⟨rfl, trivial⟩))); simp -implicitDefEqProofs (disch := first | omega | (simp only [qd] <;> omega)) only [Aqn, Aqc])
    (iterate 5 (apply Ax5 rfl rfl rfl; (focus (intro HX; simp -implicitDefEqProofs (disch := first | omega | (simp only [qd] <;> omega)) only [xq, ↓xp, qc, Nat.reduceAdd, List.range, List.range.loop, fine, Nat.reduceEqDiff, ↓reduceIte, yielded, reduceCtorEq, Nat.reduceLT, Nat.reduceMul, Nat.reduceSub, one, Nat.reduceLeDiff, Aqa, Azd, aq, ↓ap, qe0, qe1, qe2, *, -hK, Aq0] <;> (first | exact rfl | exact ⟨rfl, rfl⟩ | exact ⟨rfl, trivial⟩))); simp -implicitDefEqProofs (disch := first | omega | (simp only [qd] <;> omega)) only [Aqn, Aqc]))
    (apply Axd rfl rfl rfl ‹_›; (focus (intro HX hHX; simp -implicitDefEqProofs (disch := first | omega | (simp only [qd] <;> omega)) only [xq, ↓xp, qc, Nat.reduceAdd, List.range, List.range.loop, fine, Nat.reduceEqDiff, ↓reduceIte, yielded, reduceCtorEq, Nat.reduceLT, Nat.reduceMul, Nat.reduceSub, one, Nat.reduceLeDiff, Aqa, Azd, aq, ↓ap, qe0, qe1, qe2, *, -hK, Aq0] <;> (first | exact rfl | exact ⟨rfl, rfl⟩ | exact ⟨rfl, trivial⟩))); simp -implicitDefEqProofs (disch := first | omega | (simp only [qd] <;> omega)) only [Aqn, Aqc])
    (iterate 4 (apply Ax5 rfl rfl rfl; (focus (intro HX; simp -implicitDefEqProofs (disch := first | omega | (simp only [qd] <;> omega)) only [xq, ↓xp, qc, Nat.reduceAdd, List.range, List.range.loop, fine, Nat.reduceEqDiff, ↓reduceIte, yielded, reduceCtorEq, Nat.reduceLT, Nat.reduceMul, Nat.reduceSub, one, Nat.reduceLeDiff, Aqa, Azd, aq, ↓ap, qe0, qe1, qe2, *, -hK, Aq0] <;> (first | exact rfl | exact ⟨rfl, rfl⟩ | exact ⟨rfl, trivial⟩))); simp -implicitDefEqProofs (disch := first | omega | (simp only [qd] <;> omega)) only [Aqn, Aqc]))
    refine Aq6 ?_
    (refine @unH _ ?_; refine zX Azd ?_)
    refine ⟨.inl (by decide), ?_⟩
    (iterate 2 (apply Ax5 rfl rfl rfl; (focus (intro HX; simp -implicitDefEqProofs (disch := first | omega | (simp only [qd] <;> omega)) only [xq, ↓xp, qc, Nat.reduceAdd, List.range, List.range.loop, fine, Nat.reduceEqDiff, ↓reduceIte, yielded, reduceCtorEq, Nat.reduceLT, Nat.reduceMul, Nat.reduceSub, one, Nat.reduceLeDiff, Aqa, Azd, aq, ↓ap, qe0, qe1, qe2, *, -hK, Aq0] <;> (first | exact rfl | exact ⟨rfl, rfl⟩ | exact ⟨rfl, trivial⟩))); simp -implicitDefEqProofs (disch := first | omega | (simp only [qd] <;> omega)) only [Aqn, Aqc]))
    refine Aq6 ?_
    (refine @unH _ ?_; refine zX Azd ?_)
    refine ⟨.inl (by decide), ?_⟩
    refine Azw (hK _ _ ?_)
    clear hK K
    (try simp only [nq, ↓reduceIte, Nat.reduceEqDiff])
    (refine @unH _ ?_; refine zA Azd ?_; (repeat (refine inC ?_; intro hc)); try (refine inK ?_; intro K hK))
    refine ⟨_, by omega, _, k + 1, rfl, by omega, rfl, e0, e6, e7, rfl, ?_, fun y hy => (Aqp hy).trans ((show ∀ y, y ≠ bb -> H1 y = H y from ho1) y hy)⟩
    rw [Aqw, show (xs.take (k + 1)).foldl Akv b = _ from hstep, bdO]
    simp only [Option.some.injEq, Prod.mk.injEq, true_and, Obj.cells.injEq, Array.mk.injEq, List.cons.injEq, Value.int.injEq, and_true]
    split <;> omega
   | true =>
    simp only [if_true] at hstep
    replace hstep : Aqs _ := hstep
    clear hb hx
    (refine @unH _ ?_; refine zA Azd ?_; (repeat (refine inC ?_; intro hc)); try (refine inK ?_; intro K hK))
    have v1 := vb'
    simp only [bdO] at v1
    have ho1 := hoth
    clear vb' hoth hb'
    refine Ajl (fun HX => HX bb = some (true, .cells #[.int .i64 lo, .int .i64 hi, .bool true] 120 (0, 0))) [16, 19] (.free 0 (.free 1 (.free 2 (.free 3 (.free 4 (.take 5 (.free 6 (.free 7 (.free 8 (.free 9 (.free 10 (.take 11 (.free 12 (.free 13 (.free 14 (.free 15 (.one 16 (.free 17 (.free 18 (.one 19 .nil)))))))))))))))))))) (by kernel_rfl) (by kernel_rfl) (by decide) (by kernel_rfl) ?_; intro K hK
    (iterate 5 (apply Ax5 rfl rfl rfl; (focus (intro HX; simp -implicitDefEqProofs (disch := first | omega | (simp only [qd] <;> omega)) only [xq, ↓xp, qc, Nat.reduceAdd, List.range, List.range.loop, fine, Nat.reduceEqDiff, ↓reduceIte, yielded, reduceCtorEq, Nat.reduceLT, Nat.reduceMul, Nat.reduceSub, one, Nat.reduceLeDiff, Aqa, Azd, aq, ↓ap, qe0, qe1, qe2, *, -hK, Aq0] <;> (first | exact rfl | exact ⟨rfl, rfl⟩ | exact ⟨rfl, trivial⟩))); simp -implicitDefEqProofs (disch := first | omega | (simp only [qd] <;> omega)) only [Aqn, Aqc]))
    (apply Axd rfl rfl rfl ‹_›; (focus (intro HX hHX; simp -implicitDefEqProofs (disch := first | omega | (simp only [qd] <;> omega)) only [xq, ↓xp, qc, Nat.reduceAdd, List.range, List.range.loop, fine, Nat.reduceEqDiff, ↓reduceIte, yielded, reduceCtorEq, Nat.reduceLT, Nat.reduceMul, Nat.reduceSub, one, Nat.reduceLeDiff, Aqa, Azd, aq, ↓ap, qe0, qe1, qe2, *, -hK, Aq0] <;> (first | exact rfl | exact ⟨rfl, rfl⟩ | exact ⟨rfl, trivial⟩))); simp -implicitDefEqProofs (disch := first | omega | (simp only [qd] <;> omega)) only [Aqn, Aqc])
    (iterate 5 (apply Ax5 rfl rfl rfl; (focus (intro HX; simp -implicitDefEqProofs (disch := first | omega | (simp only [qd] <;> omega)) only [xq, ↓xp, qc, Nat.reduceAdd, List.range, List.range.loop, fine, Nat.reduceEqDiff, ↓reduceIte, yielded, reduceCtorEq, Nat.reduceLT, Nat.reduceMul, Nat.reduceSub, one, Nat.reduceLeDiff, Aqa, Azd, aq, ↓ap, qe0, qe1, qe2, *, -hK, Aq0] <;> (first | exact rfl | exact ⟨rfl, rfl⟩ | exact ⟨rfl, trivial⟩))); simp -implicitDefEqProofs (disch := first | omega | (simp only [qd] <;> omega)) only [Aqn, Aqc]))
    (apply Axd rfl rfl rfl ‹_›; (focus (intro HX hHX; simp -implicitDefEqProofs (disch := first | omega | (simp only [qd] <;> omega)) only [xq, ↓xp, qc, Nat.reduceAdd, List.range, List.range.loop, fine, Nat.reduceEqDiff, ↓reduceIte, yielded, reduceCtorEq, Nat.reduceLT, Nat.reduceMul, Nat.reduceSub, one, Nat.reduceLeDiff, Aqa, Azd, aq, ↓ap, qe0, qe1, qe2, *, -hK, Aq0] <;> (first | exact rfl | exact ⟨rfl, rfl⟩ | exact ⟨rfl, trivial⟩))); simp -implicitDefEqProofs (disch := first | omega | (simp only [qd] <;> omega)) only [Aqn, Aqc])
    (iterate 4 (apply Ax5 rfl rfl rfl; (focus (intro HX; simp -implicitDefEqProofs (disch := first | omega | (simp only [qd] <;> omega)) only [xq, ↓xp, qc, Nat.reduceAdd, List.range, List.range.loop, fine, Nat.reduceEqDiff, ↓reduceIte, yielded, reduceCtorEq, Nat.reduceLT, Nat.reduceMul, Nat.reduceSub, one, Nat.reduceLeDiff, Aqa, Azd, aq, ↓ap, qe0, qe1, qe2, *, -hK, Aq0] <;> (first | exact rfl | exact ⟨rfl, rfl⟩ | exact ⟨rfl, trivial⟩))); simp -implicitDefEqProofs (disch := first | omega | (simp only [qd] <;> omega)) only [Aqn, Aqc]))
    refine Aq6 ?_
    (refine @unH _ ?_; refine zX Azd ?_)
    refine ⟨.inl (by decide), ?_⟩
    (iterate 2 (apply Ax5 rfl rfl rfl; (focus (intro HX; simp -implicitDefEqProofs (disch := first | omega | (simp only [qd] <;> omega)) only [xq, ↓xp, qc, Nat.reduceAdd, List.range, List.range.loop, fine, Nat.reduceEqDiff, ↓reduceIte, yielded, reduceCtorEq, Nat.reduceLT, Nat.reduceMul, Nat.reduceSub, one, Nat.reduceLeDiff, Aqa, Azd, aq, ↓ap, qe0, qe1, qe2, *, -hK, Aq0] <;> (first | exact rfl | exact ⟨rfl, rfl⟩ | exact ⟨rfl, trivial⟩))); simp -implicitDefEqProofs (disch := first | omega | (simp only [qd] <;> omega)) only [Aqn, Aqc]))
    refine Aq6 ?_
    (refine @unH _ ?_; refine zX Azd ?_)
    refine ⟨.inl (by decide), ?_⟩
    refine Azw (hK _ _ ?_)
    clear hK K
    (try simp only [nq, ↓reduceIte, Nat.reduceEqDiff])
    (refine @unH _ ?_; refine zA Azd ?_; (repeat (refine inC ?_; intro hc)); try (refine inK ?_; intro K hK))
    refine ⟨_, by omega, _, k + 1, rfl, by omega, rfl, e0, e6, e7, rfl, ?_, fun y hy => (Aqp hy).trans ((show ∀ y, y ≠ bb -> H' y = H y from ho1) y hy)⟩
    rw [Aqw, show (xs.take (k + 1)).foldl Akv b = _ from hstep, bdO]
    simp only [Option.some.injEq, Prod.mk.injEq, true_and, Obj.cells.injEq, Array.mk.injEq, List.cons.injEq, Value.int.injEq, and_true]
    constructor <;> (split <;> omega)
  ·obtain rfl : k = xs.length := by omega
   (refine @unH _ ?_; refine zA Azd ?_; (repeat (refine inC ?_; intro hc)); try (refine inK ?_; intro K hK))
   (refine @unH _ ?_; refine zD Tryz.results122 ?_)
   refine ⟨by trivial, by rw [List.take_length] at vb'; exact vb', hoth⟩
def Axi := And.intro (fun H => Aqh (H := H) Tryz.underlying105 (i := 0) rfl (off := 0) rfl Tryz.sizeOf3) (And.intro (fun H => Aqd (H := H) Tryz.underlying3 rfl) (And.intro (fun H => Aqd (H := H) Tryz.underlying78 rfl) (And.intro (fun H => Aqh (H := H) Tryz.underlying97 (i := 1) rfl (off := 4) rfl Tryz.sizeOf22) (And.intro (fun H => Aqd (H := H) Tryz.underlying22 rfl) (And.intro (fun H => Aq5 (H := H) Tryz.underlying22) (And.intro (fun H => Aqd (H := H) Tryz.underlying158 rfl) (And.intro (fun H => Aqx (H := H) Tryz.underlying85 rfl Tryz.sizeOf85) (And.intro (fun H => Aqx (H := H) Tryz.underlying105 rfl Tryz.sizeOf105) (And.intro @Bzl (And.intro @Axp (And.intro (fun H => Aqh (H := H) Tryz.underlying105 (i := 1) rfl (off := 1) rfl Tryz.sizeOf92) (And.intro (fun H => Aqd (H := H) Tryz.underlying92 rfl) (And.intro @Bzm (And.intro (fun H => Aqq (H := H) Tryz.underlying22 Tryz.sizeOf3) (And.intro @Bzn (And.intro (fun H => Aq1 (H := H) (P := Tryz.prog) (h := Tryz.zeroValue105)) (And.intro (fun H => Aq3 (H := H) Tryz.sizeOf105) (And.intro @Bqa (And.intro (fun H => Ax6 (H := H) Tryz.underlying85 Tryz.sizeOf3) (And.intro (fun H => Axo (H := H) Tryz.sizeOf3) (fun H => Aqd (H := H) Tryz.underlying159 rfl)))))))))))))))))))))
theorem Bwk (main : Md) {S : Nat -> Prop} {A : List Int -> Prop} {T : Bool -> List (List Int) -> Hp -> Prop} {yf : Fn} {yi yc : Array Value} {pl pieces : Int} {sv cv tv : Value} {ts : List Int} {thisb db mb yb ab gb : Nat} (hdm : db ≠ mb) (hln : ts.length <= 8) (hts6 : ∀ t ∈ ts, 0 <= t /\ t < 6) (h1 : 1 <= pl)
  (hC : Akn Tryz.prog main (.func yf yi yc) S (fun H v xs => v = .agg (ints xs).toArray) A T) (hgo : ∀ L H, ¬ T false L H) (hA : ∀ l, l.length = 8 -> A l) :
  ∀ (n c m : Nat) (base : Hp) (xs : List Int) (L : List (List Int)) (H : Hp), ts.length - c = n -> c <= ts.length -> m < 64 -> Akk base S T (.func yf yi yc) pl pieces sv cv tv ts thisb db mb yb ab gb true L xs H ->
   FnX Tryz.prog main 117 #[Avv c m, .pointer (some ⟨thisb, 0, none⟩), .pointer (some ⟨yb, 0, none⟩), .pointer (some ⟨ab, 0, none⟩), .pointer (some ⟨gb, 0, none⟩)] H fun e H' => e = .returned (.bool true) /\
    ∃ xs', xs'.take c = xs.take c /\ xs'.drop ts.length = xs.drop ts.length /\ Akk base S T (.func yf yi yc) pl pieces sv cv tv ts thisb db mb yb ab gb true (L ++ (Axl ts.length pl (ts.drop c) m).map fun cs => xs.take c ++ cs ++ xs.drop ts.length) xs' H' := by
 intro n
 induction n using Nat.strongRecOn with
 | _ n ih =>
 intro c m base xs L H hn hc hm hP
 simp only [Avv]
 refine Aqk Tryz.func117 rfl Tryz.ntmps117 (by simp) ?_
 (refine @unH _ ?_; refine zS Axi ?_; (repeat (refine inC ?_; intro hc)); try (refine inK ?_; intro K hK))
 (intro sb hsb; generalize hG : Hp.set _ sb _ = H1; have lH1 := Aqg hG hsb; have vsb := Aqf hG; clear hG)
 have hP1 := hP.le hC lH1
 have nsb : ¬ S sb := fun h => hC.ex _ _ _ _ hP.cl h hsb
 have nsm : sb ≠ mb := fun e => by obtain ⟨es, cl, h1, h2⟩ := hP.known; rw [e, h1] at hsb; cases hsb
 clear hP lH1 hsb
 ((try (refine @unH _ ?_; refine zX Axi ?_)); (try (refine hK _ _ ?_; clear hK K; (try simp only [nq, ↓reduceIte, Nat.reduceEqDiff]))); refine @unH _ ?_; refine zS Axi ?_; (repeat (refine inC ?_; intro hc)); try (refine inK ?_; intro K hK))
 have vsb0 := vsb
 have vth := hP1.th
 have vdb := hP1.day
 obtain ⟨ta, tc, rfl, htc, _⟩ := id hP1.tr
 simp only [dayO] at vdb
 refine Axq (Aql (Aql ?_))
 (refine Az2 8 [(true, 0), (true, 1), (true, 2), (true, 3), (true, 4), (true, 5), (true, 6), (true, 7)] (by kernel_rfl) (by kernel_rfl) (by simp) (by kernel_rfl) ?_; intro K hK; (iterate 8 (refine @unH _ ?_; refine z3 Axi ?_)); refine Ax1 (hK _ _ ?_); clear hK K; (try simp only [nq, ↓reduceIte, Nat.reduceEqDiff]))
 by_cases hce : c = ts.length
 ·subst hce
  have vyb := hP1.vy
  have vab := hP1.va
  (refine @unH _ ?_; refine zA Axi ?_; (repeat (refine inC ?_; intro hc)); try (refine inK ?_; intro K hK))
  have htk : List.take 8 (ints xs) = ints xs := List.take_of_length_le (by rw [Aq7, hP1.l8]; omega)
  rw [htk]
  refine ⟨by rw [Aq7, hP1.l8]; omega, Bj3.use (hC.call L H1 _ xs hP1.cl rfl (hA _ hP1.l8)) ?_⟩
  rintro _ H2 ⟨t, rfl, hT, hk⟩
  cases t with
  | false => exact absurd hT (hgo _ H2)
  | true =>
   have hP2 : Akk base S T (.func yf yi yc) pl pieces sv cv (.slice ta ts.length tc) ts thisb db mb yb ab gb true (L ++ [xs]) xs H2 := by
    refine { hP1 with cl := hT, th := hk _ _ hP1.nth hP1.th, day := hk _ _ hP1.nd hP1.day, tr := hP1.tr.kept (fun hne b x hb hx => hk _ _ (hP1.nt hne b hb) hx), known := ?_, vy := hk _ _ hP1.ny hP1.vy, va := hk _ _ hP1.na hP1.va, vg := hk _ _ hP1.ng hP1.vg, fr := fun b x h0 h1 h2 hx => hk _ _ h0 (hP1.fr b x h0 h1 h2 hx) }
    obtain ⟨es, cl, h1, h2⟩ := hP1.known
    exact ⟨es, cl, hk _ _ hP1.nm h1, h2⟩
   clear hk htk vyb vab vth vdb vsb vsb0 hP1
   ((try (refine @unH _ ?_; refine zX Axi ?_)); (try (refine hK _ _ ?_; clear hK K; (try simp only [nq, ↓reduceIte, Nat.reduceEqDiff]))); refine @unH _ ?_; refine zA Axi ?_; (repeat (refine inC ?_; intro hc)); try (refine inK ?_; intro K hK))
   (refine @unH _ ?_; refine z9 Tryz.results117 ?_)
   refine ⟨by trivial, xs, rfl, rfl, ?_⟩
   rw [List.drop_length]
   simpa [Axl] using hP2
 ·have hlt : c < ts.length := by omega
  have hct : ts[c]? = some ts[c] := List.getElem?_eq_getElem hlt
  have hdrop : ts.drop c = ts[c] :: ts.drop (c + 1) := List.drop_eq_getElem_cons hlt
  generalize ts[c] = t at hct hdrop
  have ht6 := hts6 t (List.mem_of_getElem? hct)
  have hneeds := Ayi main H1 db pl pieces sv cv _ ts mb hP1.day hP1.tr c m t hct ht6.1 ht6.2 hm
  (refine @unH _ ?_; refine zS Axi ?_; (repeat (refine inC ?_; intro hc)); try (refine inK ?_; intro K hK))
  refine hneeds.runs.mono ?_
  rintro _ H2 ⟨rfl, lH2⟩
  have hP2 := hP1.le hC lH2
  have vsb2 := lH2 _ _ vsb
  have vth2 := hP2.th
  have vdb2 := hP2.day
  simp only [dayO] at vdb2
  clear hneeds hP1 vth vdb vsb vsb0 lH2
  ((try (refine @unH _ ?_; refine zX Axi ?_)); (try (refine hK _ _ ?_; clear hK K; (try simp only [nq, ↓reduceIte, Nat.reduceEqDiff]))); refine @unH _ ?_; refine zS Axi ?_; (repeat (refine inC ?_; intro hc)); try (refine inK ?_; intro K hK))
  (intro lb hlb; generalize hG : Hp.set _ lb _ = H3; have lH3 := Aqg hG hlb; have vlb := Aqf hG; clear hG)
  have hP3 := hP2.le hC lH3
  have nlS : ¬ S lb := fun h => hC.ex _ _ _ _ hP2.cl h hlb
  have nlm : lb ≠ mb := fun e => by obtain ⟨es, cl, h1, h2⟩ := hP2.known; rw [e, h1] at hlb; cases hlb
  have nla : lb ≠ ab := fun e => by have h := hP2.va; rw [<- e, hlb] at h; cases h
  have vsb3 := lH3 _ _ vsb2
  clear lH3 hP2 vsb2 vth2 vdb2 hlb
  ((try (refine @unH _ ?_; refine zX Axi ?_)); (try (refine hK _ _ ?_; clear hK K; (try simp only [nq, ↓reduceIte, Nat.reduceEqDiff]))); refine @unH _ ?_; refine zS Axi ?_; (repeat (refine inC ?_; intro hc)); try (refine inK ?_; intro K hK))
  refine Akf (fun a' H' => ∃ e, a' = act 65 e [] /\ e 1 = .pointer (some ⟨thisb, 0, none⟩) /\ e 2 = .pointer (some ⟨yb, 0, none⟩) /\ e 3 = .pointer (some ⟨ab, 0, none⟩) /\ e 4 = .pointer (some ⟨gb, 0, none⟩) /\ e 5 = .pointer (some ⟨sb, 0, none⟩) /\ e 8 = .bool (!m.testBit t.toNat && decide (pl <= Aq4 m)) /\ e 9 = .slice (some ⟨lb, 0, none⟩) 1 1 /\ e 10 = .int .i64 (Azf m t : Nat) /\ H' = H3) ?_ ?_
  ·cases htb : m.testBit t.toNat
   ·have hcost : Azf m t = 1 := by simp [Azf, htb]
    rw [hcost]
    (refine @unH _ ?_; refine zA Axi ?_; (repeat (refine inC ?_; intro hc)); try (refine inK ?_; intro K hK))
    all_goals exact ⟨_, rfl, rfl, rfl, rfl, rfl, rfl, rfl, rfl, rfl, by trivial⟩
   ·have hcost : Azf m t = 0 := by simp [Azf, htb]
    rw [hcost]
    (refine @unH _ ?_; refine zA Axi ?_; (repeat (refine inC ?_; intro hc)); try (refine inK ?_; intro K hK))
    all_goals exact ⟨_, rfl, rfl, rfl, rfl, rfl, rfl, rfl, rfl, rfl, by trivial⟩
  ·rintro a' H' ⟨e, rfl, e1, e2, e3, e4, e5, e8, e9, e10, rfl⟩
   have vlb3 := vlb
   have hl1 : SlI H' (.slice (some ⟨lb, 0, none⟩) 1 1) [-1] := ⟨some ⟨lb, 0, none⟩, 1, rfl, by simp, fun i x hi => ⟨lb, 0, true, _, (0, 0), rfl, vlb3, by
    cases i with
    | zero => simp at hi; subst hi; rfl
    | succ i => simp at hi⟩⟩
   clear vlb vlb3
   refine Akf (fun a' H'' => ∃ e lv, a' = act 65 e [] /\ e 1 = .pointer (some ⟨thisb, 0, none⟩) /\ e 2 = .pointer (some ⟨yb, 0, none⟩) /\ e 3 = .pointer (some ⟨ab, 0, none⟩) /\ e 4 = .pointer (some ⟨gb, 0, none⟩) /\ e 5 = .pointer (some ⟨sb, 0, none⟩) /\ e 9 = lv /\ SlI H'' lv (Axz pl m t) /\ (∀ b, rowB lv = some b -> ¬ S b /\ b ≠ mb /\ b ≠ ab) /\ e 10 = .int .i64 (Azf m t : Nat) /\ H'.le H'') ?_ ?_
   ·cases hcan : (!m.testBit t.toNat && decide (pl <= Aq4 m))
    ·have hopt : Axz pl m t = [-1] := by
      unfold Axz
      split
      ·rfl
      ·rw [if_neg]
       rename_i h
       simpa [h] using hcan
     rw [hopt]
     rw [hcan] at e8
     clear hcan
     (refine @unH _ ?_; refine zA Axi ?_; (repeat (refine inC ?_; intro hc)); try (refine inK ?_; intro K hK))
     all_goals exact ⟨_, _, rfl, e1, e2, e3, e4, e5, e9, hl1, fun b hb => (by cases hb; exact ⟨nlS, nlm, nla⟩), e10, Hp.le_refl _⟩
    ·have hopt : Axz pl m t = Ax4 m := by
      simp only [Bool.and_eq_true, Bool.not_eq_true', decide_eq_true_eq] at hcan
      unfold Axz
      rw [if_neg (by rw [hcan.1]; simp), if_pos hcan.2]
     rw [hopt]
     rw [hcan] at e8
     clear hcan hl1
     (refine @unH _ ?_; refine zA Axi ?_; (repeat (refine inC ?_; intro hc)); try (refine inK ?_; intro K hK))
     refine (Bkh main H' m hm).runs.mono ?_
     rintro _ H4 ⟨lv, rfl, hlv, lH4, hlf⟩
     obtain ⟨lva, lvc, rfl, _, _⟩ := id hlv
     ((try (refine @unH _ ?_; refine zX Axi ?_)); (try (refine hK _ _ ?_; clear hK K; (try simp only [nq, ↓reduceIte, Nat.reduceEqDiff]))); refine @unH _ ?_; refine zA Axi ?_; (repeat (refine inC ?_; intro hc)); try (refine inK ?_; intro K hK))
     all_goals exact ⟨_, _, rfl, e1, e2, e3, e4, e5, rfl, hlv, fun b hb => by
      have hbn : H' b = none := by
       cases lva with
       | none => cases hb
       | some x => cases hb; exact hlf _ _ _ rfl
      exact ⟨fun h => hC.ex _ _ _ _ hP3.cl h hbn, fun e => (by obtain ⟨es, cl, h1, h2⟩ := hP3.known; rw [e, h1] at hbn; cases hbn), fun e => (by have h := hP3.va; rw [<- e, hbn] at h; cases h)⟩, e10, lH4⟩
   ·rintro a' H4 ⟨e, lv, rfl, e1, e2, e3, e4, e5, e9, hlv, hlf, e10, lH4⟩
    have hP4 := hP3.le hC lH4
    have vsb4 := lH4 _ _ vsb3
    clear hP3 vsb3 lH4 hl1
    have hos6 : ∀ x ∈ Axz pl m t, -1 <= x /\ x < 6 := fun x hx => by
     unfold Axz at hx
     split at hx
     ·rw [List.mem_singleton.1 hx]; omega
     ·split at hx
      ·have := Aji hx; omega
      ·rw [List.mem_singleton.1 hx]; omega
    have hol : (Axz pl m t).length <= 1000 := by
     unfold Axz
     split
     ·simp
     ·split
      ·rw [Akx]; have := Awy m hm; omega
      ·simp
    have hbest := Awz ts.length pl h1 t (ts.drop (c + 1)) m (by rw [<- hdrop, List.length_drop]; omega)
    have hbs : Axl ts.length pl (ts.drop c) m = (Axz pl m t).flatMap fun s => if Azf m t + optF ts.length pl (ts.drop (c + 1)) (Aqv m s t) <= optF ts.length pl (t :: ts.drop (c + 1)) m then (Axl ts.length pl (ts.drop (c + 1)) (Aqv m s t)).map (s :: ·) else [] := by
     rw [hdrop]; rfl
    have hcost : Azf m t <= 1 := by unfold Azf; split <;> omega
    obtain ⟨lva, lvc, rfl, _, _⟩ := id hlv
    generalize Axz pl m t = os at *
    generalize Azf m t = k at *
    obtain ⟨F, hF⟩ : ∃ F : Int -> List (List Int), F = fun s => if k + optF ts.length pl (ts.drop (c + 1)) (Aqv m s t) <= optF ts.length pl (t :: ts.drop (c + 1)) m then (Axl ts.length pl (ts.drop (c + 1)) (Aqv m s t)).map fun cs => xs.take c ++ (s :: cs) ++ xs.drop ts.length else [] := ⟨_, rfl⟩
    have hFS : (os.flatMap fun s => if k + optF ts.length pl (ts.drop (c + 1)) (Aqv m s t) <= optF ts.length pl (t :: ts.drop (c + 1)) m then (Axl ts.length pl (ts.drop (c + 1)) (Aqv m s t)).map (s :: ·) else []).map (fun cs => xs.take c ++ cs ++ xs.drop ts.length) = os.flatMap F := by
     rw [List.map_flatMap, hF]
     congr 1
     funext s
     split
     ·rw [List.map_map]; rfl
     ·rfl
    rw [<- hbs] at hFS
    replace hFS : Aqs _ := hFS
    replace hF : Aqs _ := hF
    replace hgo : Aqs _ := hgo
    replace hA : Aqs _ := hA
    replace ih : Aqs _ := ih
    clear hbs hbest
    (refine @unH _ ?_; refine zA Axi ?_; (repeat (refine inC ?_; intro hc)); try (refine inK ?_; intro K hK))
    refine Axe (fun w a' H' => ∃ e i ys, w = os.length - i /\ i <= os.length /\ a' = act 65 e [] /\ e 1 = .pointer (some ⟨thisb, 0, none⟩) /\ e 2 = .pointer (some ⟨yb, 0, none⟩) /\ e 3 = .pointer (some ⟨ab, 0, none⟩) /\ e 4 = .pointer (some ⟨gb, 0, none⟩) /\ e 5 = .pointer (some ⟨sb, 0, none⟩) /\ e 10 = .int .i64 k /\ e 37 = .slice lva os.length lvc /\ e 38 = .int .i64 os.length /\ e 39 = .int .i64 (i : Nat) /\ SlI H' (.slice lva os.length lvc) os /\ H' sb = some (true, .cells #[.int .i64 c, .int .u8 m] 105 (0, 0)) /\ Aqs (ys.take c = xs.take c /\ ys.drop ts.length = xs.drop ts.length) /\ Akk base S T (.func yf yi yc) pl pieces sv cv (.slice ta ts.length tc) ts thisb db mb yb ab gb true (L ++ (os.take i).flatMap F) ys H') (n := os.length) ?_ ?_
    ·exact ⟨_, 0, xs, by omega, by omega, rfl, e1, e2, e3, e4, e5, e10, rfl, rfl, rfl, hlv, vsb4, ⟨rfl, rfl⟩, by simpa using hP4⟩
    ·clear e1 e2 e3 e4 e5 e9 e10 hlv vsb4 hP4
     rintro w a' H5 ⟨e, i, ys, rfl, hi, rfl, e1, e2, e3, e4, e5, e10, e37, e38, e39, hlv, vsb5, hys, hP5⟩
     by_cases hlt2 : i < os.length
     ·obtain ⟨b6, o6, p6, c6, fr6, hlva, hb6, hc6⟩ := SlI.get hlv (List.getElem?_eq_getElem hlt2)
      have hsi := List.getElem?_eq_getElem hlt2
      have hs6 := hos6 os[i] (List.getElem_mem hlt2)
      generalize os[i] = s at *
      subst hlva
      have vth5 := hP5.th
      have hc6' : c6[o6 + (i : Int).toNat * 1]? = some (.int .i64 s) := by simpa using hc6
      have hnext := Akr main H5 db pl pieces sv cv _ ts mb hP5.day hP5.tr (by omega) c m s t hct ht6.1 ht6.2 hm hs6.2
      simp only [Avv] at hnext
      (refine @unH _ ?_; refine zA Axi ?_; (repeat (refine inC ?_; intro hc)); try (refine inK ?_; intro K hK))
      refine hnext.runs.mono ?_
      rintro _ H6 ⟨rfl, lH6⟩
      have hP6 := hP5.le hC lH6
      have vsb6 := lH6 _ _ vsb5
      have hlv6 := hlv.le lH6
      have hm' := Ak9 (sent := s) hm hs6.2 ht6.1 ht6.2
      clear hnext hP5 vsb5 hlv vth5 hb6 hc6 hc6' lH6
      ((try (refine @unH _ ?_; refine zX Axi ?_)); (try (refine hK _ _ ?_; clear hK K; (try simp only [nq, ↓reduceIte, Nat.reduceEqDiff]))); refine @unH _ ?_; refine zA Axi ?_; (repeat (refine inC ?_; intro hc)); try (refine inK ?_; intro K hK))
      (intro nb hnb; generalize hG : Hp.set _ nb _ = H7; have lH7 := Aqg hG hnb; have vnb := Aqf hG; clear hG)
      have hP7 := hP6.le hC lH7
      have vsb7 := lH7 _ _ vsb6
      have hlv7 := hlv6.le lH7
      have nnm : nb ≠ mb := fun e => by obtain ⟨es, cl, h1, h2⟩ := hP6.known; rw [e, h1] at hnb; cases hnb
      clear hP6 vsb6 hlv6 lH7 hnb
      ((try (refine @unH _ ?_; refine zX Axi ?_)); (try (refine hK _ _ ?_; clear hK K; (try simp only [nq, ↓reduceIte, Nat.reduceEqDiff]))); refine @unH _ ?_; refine zS Axi ?_; (repeat (refine inC ?_; intro hc)); try (refine inK ?_; intro K hK))
      have vth7 := hP7.th
      repeat refine Aql ?_
      refine Aye (fun HX => HX thisb = some (true, .cells #[.pointer (some ⟨db, 0, none⟩)] 78 (0, 0)) /\ HX nb = some (true, .cells #[.int .i64 (c + 1 : Nat), .int .u8 (Aqv m s t : Nat)] 105 (0, 0)) /\ HX sb = some (true, .cells #[.int .i64 c, .int .u8 m] 105 (0, 0))) 9 [(true, 0), (true, 1), (true, 2), (true, 5), (true, 6), (false, 3), (true, 4), (false, 7), (true, 8)] (by kernel_rfl) (by kernel_rfl) (by simp) (by kernel_rfl) ?_; intro K hK
      (iterate 5 (apply Ajc rfl rfl rfl (by exact ⟨vth7, vnb, vsb7⟩); (focus (intro HX hHX; have hX1 := hHX.1; have hX2 := hHX.2; clear hHX; simp -implicitDefEqProofs (disch := first | omega | (simp only [qd] <;> omega)) only [xq, ↓xp, qc, Nat.reduceAdd, List.range, List.range.loop, fine, Nat.reduceEqDiff, ↓reduceIte, yielded, reduceCtorEq, Nat.reduceLT, Nat.reduceMul, Nat.reduceSub, one, Nat.reduceLeDiff, Aqa, Axi, aq, ↓ap, qe0, qe1, qe2, *, -hK, Aq0] <;> (first | exact rfl | exact ⟨rfl, rfl⟩ | exact ⟨rfl, trivial⟩))); simp -implicitDefEqProofs (disch := first | omega | (simp only [qd] <;> omega)) only [Aqn, Aqc]))
      refine Ajk ?_
      (refine @unH _ ?_; refine zX Axi ?_)
      have hl1 := Ajt main db pl pieces sv cv _ ts mb hdm (by omega) hts6 (ts.length - (c + 1)) (c + 1) (Aqv m s t) H7 rfl (by omega) hm' hP7.day hP7.tr hP7.known
      simp only [Avv] at hl1
      refine hl1.runs.mono ?_
      rintro _ H8 ⟨rfl, hL8, hk8⟩
      have hP8 := hP7.lex hC hL8 hk8
      have vnb8 := hL8.keeps vnb nnm
      have vsb8 := hL8.keeps vsb7 nsm
      have vth8 := hP8.th
      have hlv8 := hlv7.lexMap hL8 (show H7 mb = some (true, _) from (Classical.choose_spec (Classical.choose_spec hP7.known)).1)
      clear hl1 hP7 vnb vsb7 vth7 hlv7 hL8 hk8
      (refine @unH _ ?_; refine zX Axi ?_)
      refine ⟨.inr trivial, ?_⟩
      have w1 : IntKind.i64.wrap ((k : Int) + (optF ts.length pl (ts.drop (c + 1)) (Aqv m s t) : Nat)) = (k : Int) + (optF ts.length pl (ts.drop (c + 1)) (Aqv m s t) : Nat) := w64 _ (by omega) (by have := Bqi ts.length pl (ts.drop (c + 1)) (Aqv m s t); have := List.length_drop (i := c + 1) (l := ts); omega)
      (iterate 1 (apply Ajc rfl rfl rfl (by exact ⟨vth8, vnb8, vsb8⟩); (focus (intro HX hHX; have hX1 := hHX.1; have hX2 := hHX.2; clear hHX; simp -implicitDefEqProofs (disch := first | omega | (simp only [qd] <;> omega)) only [xq, ↓xp, qc, Nat.reduceAdd, List.range, List.range.loop, fine, Nat.reduceEqDiff, ↓reduceIte, yielded, reduceCtorEq, Nat.reduceLT, Nat.reduceMul, Nat.reduceSub, one, Nat.reduceLeDiff, Aqa, Axi, aq, ↓ap, qe0, qe1, qe2, *, -hK, Aq0] <;> (first | exact rfl | exact ⟨rfl, rfl⟩ | exact ⟨rfl, trivial⟩))); simp -implicitDefEqProofs (disch := first | omega | (simp only [qd] <;> omega)) only [Aqn, Aqc]))
      refine Ajk ?_
      (refine @unH _ ?_; refine zX Axi ?_)
      have hl2 := Ajt main db pl pieces sv cv _ ts mb hdm (by omega) hts6 (ts.length - c) c m H8 rfl (by omega) hm hP8.day hP8.tr hP8.known
      simp only [Avv] at hl2
      refine hl2.runs.mono ?_
      rintro _ H9 ⟨rfl, hL9, hk9⟩
      have hP9 := hP8.lex hC hL9 hk9
      have vnb9 := hL9.keeps vnb8 nnm
      have vsb9 := hL9.keeps vsb8 nsm
      have vth9 := hP9.th
      have hlv9 := hlv8.lexMap hL9 (show H8 mb = some (true, _) from (Classical.choose_spec (Classical.choose_spec hP8.known)).1)
      clear hl2 hP8 vnb8 vsb8 vth8 hlv8 hL9 hk9
      rw [hdrop]
      (refine @unH _ ?_; refine zX Axi ?_)
      refine ⟨.inr trivial, ?_⟩
      (iterate 1 (apply Ajc rfl rfl rfl (by exact ⟨vth9, vnb9, vsb9⟩); (focus (intro HX hHX; have hX1 := hHX.1; have hX2 := hHX.2; clear hHX; simp -implicitDefEqProofs (disch := first | omega | (simp only [qd] <;> omega)) only [xq, ↓xp, qc, Nat.reduceAdd, List.range, List.range.loop, fine, Nat.reduceEqDiff, ↓reduceIte, yielded, reduceCtorEq, Nat.reduceLT, Nat.reduceMul, Nat.reduceSub, one, Nat.reduceLeDiff, Aqa, Axi, aq, ↓ap, qe0, qe1, qe2, *, -hK, Aq0] <;> (first | exact rfl | exact ⟨rfl, rfl⟩ | exact ⟨rfl, trivial⟩))); simp -implicitDefEqProofs (disch := first | omega | (simp only [qd] <;> omega)) only [Aqn, Aqc]))
      refine Ax1 (hK _ _ ?_)
      clear hK K w1
      (try simp only [nq, ↓reduceIte, Nat.reduceEqDiff])
      by_cases hbad : k + optF ts.length pl (ts.drop (c + 1)) (Aqv m s t) <= optF ts.length pl (t :: ts.drop (c + 1)) m
      ·
       have vab9 := hP9.va
       have vgb9 := hP9.vg
       have hxl := hP9.l8
       have hil : (ints ys).length = 8 := by rw [Aq7]; exact hxl
       have hc8 : c < (ints ys).length := by omega
       have nga : gb ≠ ab := fun e => by rw [e, vab9] at vgb9; simp at vgb9
       have nsa : sb ≠ ab := fun e => by rw [e, vab9] at vsb9; simp at vsb9
       have nna : nb ≠ ab := fun e => by rw [e, vab9] at vnb9; simp at vnb9
       have hset : (ints ys).set c (.int .i64 s) = ints (ys.set c s) := Az7 _ _ _
       have hFs : Aqs (F s = (Axl ts.length pl (ts.drop (c + 1)) (Aqv m s t)).map fun cs => xs.take c ++ (s :: cs) ++ xs.drop ts.length) := by
        have h : F = _ := hF
        show F s = _
        rw [h]
        simp only [hbad, if_true]
       (refine @unH _ ?_; refine zA Axi ?_; (repeat (refine inC ?_; intro hc)); try (refine inK ?_; intro K hK))
       have hP10 : Akk base S T (.func yf yi yc) pl pieces sv cv (.slice ta ts.length tc) ts thisb db mb yb ab gb true (L ++ (os.take i).flatMap F) (ys.set c s) (H9.set ab (.cells (ints (ys.set c s)).toArray 85 (0, 0))) := hP9.put hC c s
       have hlv10 : SlI (H9.set ab (.cells (ints (ys.set c s)).toArray 85 (0, 0))) (.slice (some ⟨b6, o6, none⟩) os.length lvc) os := hlv9.set fun p c fr h => by rw [vab9] at h; cases h
       have vsb10 : (H9.set ab (.cells (ints (ys.set c s)).toArray 85 (0, 0))) sb = _ := (Aqp nsa).trans vsb9
       have hP10b : Akk (H9.set ab (.cells (ints (ys.set c s)).toArray 85 (0, 0))) S T (.func yf yi yc) pl pieces sv cv (.slice ta ts.length tc) ts thisb db mb yb ab gb true (L ++ (os.take i).flatMap F) (ys.set c s) (H9.set ab (.cells (ints (ys.set c s)).toArray 85 (0, 0))) := { hP10 with fr := fun b x _ _ _ hx => hx }
       generalize H9.set ab (.cells (ints (ys.set c s)).toArray 85 (0, 0)) = H10 at *
       clear nna vnb9 vsb9 vgb9 hlv9 vth9 vab9 nga hP9 hset
       have hrec := (show ∀ n', n' < n -> _ from ih) (ts.length - (c + 1)) (by omega) (c + 1) (Aqv m s t) H10 (ys.set c s) _ H10 rfl (by omega) hm' hP10b
       rw [Bzo, Ax8]
       simp only [Array.empty_append, List.append_toArray, List.cons_append, List.nil_append]
       simp only [Avv] at hrec
       refine hrec.runs.mono ?_
       rintro _ H11 ⟨rfl, zs, hz1, hz2, hP11⟩
       obtain ⟨hy1, hy2⟩ := (show ys.take c = xs.take c /\ ys.drop ts.length = xs.drop ts.length from hys)
       have hlv11 := hlv10.kept (fun _ b x hb hx => hP11.fr b x (hlf b hb).1 (hlf b hb).2.1 (hlf b hb).2.2 hx)
       have vsb11 := hP11.fr sb _ nsb nsm nsa vsb10
       have hP12 : Akk base S T (.func yf yi yc) pl pieces sv cv (.slice ta ts.length tc) ts thisb db mb yb ab gb true (L ++ (os.take (i + 1)).flatMap F) zs H11 := by
        have h12 : Akk base S T (.func yf yi yc) pl pieces sv cv (.slice ta ts.length tc) ts thisb db mb yb ab gb true _ zs H11 := { hP11 with fr := fun b x h0 h1 h2 hx => hP11.fr b x h0 h1 h2 (hP10.fr b x h0 h1 h2 hx) }
        have hl : L ++ (os.take (i + 1)).flatMap F = L ++ (os.take i).flatMap F ++ (Axl ts.length pl (ts.drop (c + 1)) (Aqv m s t)).map fun cs => (ys.set c s).take (c + 1) ++ cs ++ (ys.set c s).drop ts.length := by
         rw [List.take_add_one, hsi, Option.toList_some, List.flatMap_append, List.flatMap_singleton, show F s = _ from hFs, List.append_assoc, List.drop_set_of_lt (by omega), Awe _ _ _ (by omega), hy1, hy2]
         simp
        rw [hl]
        exact h12
       have hzs : Aqs (zs.take c = xs.take c /\ zs.drop ts.length = xs.drop ts.length) := by
        refine ⟨?_, ?_⟩
        ·have := congrArg (List.take c) hz1
         rw [List.take_take, List.take_take, Nat.min_eq_left (by omega), List.take_set_of_le (Nat.le_refl _)] at this
         exact this.trans hy1
        ·rw [hz2, List.drop_set_of_lt (by omega)]; exact hy2
       clear hrec hP10 hP10b hP11 hlv10 vsb10 hz1 hz2 hy1 hy2 hFs
       ((try (refine @unH _ ?_; refine zX Axi ?_)); (try (refine hK _ _ ?_; clear hK K; (try simp only [nq, ↓reduceIte, Nat.reduceEqDiff]))); refine @unH _ ?_; refine zA Axi ?_; (repeat (refine inC ?_; intro hc)); try (refine inK ?_; intro K hK))
       refine ⟨_, ?_, _, i + 1, zs, rfl, by omega, rfl, e1, e2, e3, e4, e5, e10, e37, e38, rfl, hlv11, vsb11, hzs, hP12⟩
       omega
      ·have hFs : F s = [] := by
        have h : F = _ := hF
        rw [h]
        simp only [hbad, if_false]
       have hP12 : Akk base S T (.func yf yi yc) pl pieces sv cv (.slice ta ts.length tc) ts thisb db mb yb ab gb true (L ++ (os.take (i + 1)).flatMap F) ys H9 := by
        rw [List.take_add_one, hsi, Option.toList_some, List.flatMap_append, List.flatMap_singleton, hFs, List.append_nil]
        exact hP9
       replace hFs : Aqs _ := hFs
       (refine @unH _ ?_; refine zA Axi ?_; (repeat (refine inC ?_; intro hc)); try (refine inK ?_; intro K hK))
       refine ⟨_, ?_, _, i + 1, ys, rfl, by omega, rfl, e1, e2, e3, e4, e5, e10, e37, e38, rfl, hlv9, vsb9, hys, hP12⟩
       omega
     ·obtain rfl : i = os.length := by omega
      (refine @unH _ ?_; refine zA Axi ?_; (repeat (refine inC ?_; intro hc)); try (refine inK ?_; intro K hK))
      (refine @unH _ ?_; refine z9 Tryz.results117 ?_)
      obtain ⟨hy1, hy2⟩ := (show ys.take c = xs.take c /\ ys.drop ts.length = xs.drop ts.length from hys)
      refine ⟨by trivial, ys, hy1, hy2, ?_⟩
      have h : _ = os.flatMap F := hFS
      rw [h]
      rw [List.take_length] at hP5
      exact hP5
end Go.Proofs.YtgniilnljeedlaaGreatDoor
end
