/- Texts WLaw WLink Keep RefA RefC VBest Follow LawVN LawVS VAdd VChoose. -/
import Derived.Test.YtgniilnljeedlaaGreatDoorJ17
import Derived.Test.YtgniilnljeedlaaGreatDoorChecked
import Derived.Conc.WgLib
set_option linter.defProp false
set_option linter.unusedSimpArgs false
set_option linter.unusedVariables false
set_option maxRecDepth 100000
set_option maxHeartbeats 2000000
section
namespace Go.X
open Go
open Go.Conc
theorem FnX.goodW {P : Program} {f : FuncId} {fn : Func} {args : Array Value} {W : World} {v₀ : Value} (h : FnX P (.wg P) f args (Bqs W) fun e _ => e = .returned v₀) (hf : P.funcs[f]? = some fn)
  (hr : ∀ tmps w v w', (results fn tmps).run P w = .ok v w' -> w' = w) (hi : P.inits.idxOf? f = none) :
  Ends P (fun v w => v = v₀ /\ Base W w) (solo (G (Frame.enter P f args .normal) []) W) #[] := by
 rw [solo_eq_crowd]
 have hW0 := h [] (fun g H => ∃ fr, g = G fr [] /\ fr.fn = f /\ Leaving P fr H fun e _ => e = .returned v₀) fun fr H' hfn hl => .stop ⟨fr, rfl, hfn, hl⟩ (Hp.le_refl _)
 have hI : WI P W .idle (Bqs W) #[G (Frame.enter P f args .normal) []] W #[] [] 0 (fun _ => .off 0) (fun _ => False) := by
  refine ⟨⟨fun x K hx => ?_, fun x y K K' hxy hx hy => ?_, fun x K hx b p o hb i a ha => (by simp [touchAt, Trace.act?] at ha), past_nil.clean, fun i a b ha => (by simp [touchAt, Trace.act?] at ha)⟩, rfl, fun i x hx => (by simp at hx), fun _ _ => rfl, rfl, fun i a ha => (by simp [touchAt, Trace.act?] at ha), fun i op a h => (by simp at h), fun y hy => hy.elim, ⟨rfl, rfl, Nat.le_refl _, fun _ _ => rfl⟩, fun x K b o hx hb => ?_, fun _ _ => rfl, rfl, fun _ i x K _ hq => (by cases hq), fun i x K st _ hq => (by cases hq), fun i => ⟨0, rfl⟩⟩
  ·by_cases hx0 : x = 0
   ·subst hx0; cases hx
    exact fun b p o hb => (Bqt hb).2
   ·simp [hpW, hx0, PhW.mem] at hx
  ·by_cases hx0 : x = 0
   ·by_cases hy0 : y = 0
    ·exact absurd (hx0.trans hy0.symm) hxy
    ·simp [hpW, hy0, PhW.mem] at hy
   ·simp [hpW, hx0, PhW.mem] at hx
  ·by_cases hx0 : x = 0
   ·subst hx0; cases hx
    exact absurd (Bqt hb).1 (by simp)
   ·simp [hpW, hx0, PhW.mem] at hx
 refine FanW.ends (W := W) ?_ hW0.fanW _ _ _ _ _ _ _ _ hI rfl
 rintro g H ⟨fr, rfl, hfn, hl⟩
 refine ⟨rfl, fun w hsat hB => ?_⟩
 rcases hl with ⟨hm, hd, hk, fn', hf', hres⟩ | ⟨ch, _, _, _, _, hres⟩
 ·obtain rfl : fn' = fn := Option.some.inj (hf'.symm.trans (by rw [hfn]; exact hf))
  obtain ⟨es, w', H', hmv, r, hrun, hd'⟩ := Ak7 _ w hsat hres
  have hr0 : (results fn' fr.tmps).runT P w #[] = (r, es) := by rw [hrun #[]]; simp
  rcases hd' with ⟨v, rfl, hv⟩ | ⟨v, _, hv⟩
  ·have hrun' : (results fn' fr.tmps).run P w = .ok v w' := by
    have := congrArg Prod.fst hr0
    simpa using this
   have := hr _ _ _ _ hrun'
   subst this
   have hv' : v = v₀ := by injection hv
   subst hv'
   refine ⟨v, seen P fr.fn es, ?_, ?_, rfl, hB⟩
   ·have hi' : P.inits.idxOf? fr.fn = none := by rw [hfn]; exact hi
    simp [G, stepG, unwind, doReturn, hm, hd, hk, hf', hr0, hi', GStep.after, -Sem.runT_eq]
   ·have hq := hmv.seen (P := P) fr.fn
    exact ⟨hsat, hq.size, fun _ _ _ => rfl, fun b p o' hb => .inl ⟨o', hb, fun _ => rfl⟩, rfl, rfl, rfl, hq.evs, hq.low⟩
  ·exact hv.elim
 ·cases hres
end Go.X
end
section
namespace Go.Proofs.YtgniilnljeedlaaGreatDoor
open Go
def lk : Go.Conc.Lib.WgLink := { add := 123, done := 125, wait := 128, relMerge := 140, disable := 141, enable := 142, inBubble := 143, associate := 144, fatal := 145, uOr := 146, uAdd := 147, raceRead := 148, uLoad := 149, uStore := 150, disassociate := 151, semrelease := 152, acquire := 155, isAssociated := 156, uCas := 157, raceWrite := 158, semacquire := 159, orU64 := 163, addU64 := 164, loadU64 := 165, storeU64 := 166, casU64 := 167, tWgP := 196, tUP := 180, tAssoc := 198, tWg := 174, tAU := 171, tU64 := 74, tUint := 163, tU32 := 172, tPU32 := 202, tPAU := 223, tPU64 := 225, tNoCopy := 167, tANoCopy := 168, tAlign64 := 169 }
theorem wgLib : Go.Conc.Lib.WgLib Tryz.prog lk :=
 ⟨Tryz.func123, Tryz.func125, Tryz.func128, Tryz.func140, Tryz.func141, Tryz.func142, Tryz.func143, Tryz.func144, Tryz.func145, Tryz.func146, Tryz.func147, Tryz.func148, Tryz.func149, Tryz.func150, Tryz.func151, Tryz.func152, Tryz.func155, Tryz.func156, Tryz.func157, Tryz.func158, Tryz.func159, Tryz.func163, Tryz.func164, Tryz.func165, Tryz.func166, Tryz.func167, Tryz.underlying196, Tryz.runUnderlying196, Tryz.sizeOf196, Tryz.isAgg196, Tryz.zeroValue196, Tryz.underlying180, Tryz.runUnderlying180, Tryz.sizeOf180, Tryz.isAgg180, Tryz.zeroValue180, Tryz.underlying198, Tryz.runUnderlying198, Tryz.sizeOf198, Tryz.isAgg198, Tryz.zeroValue198, Tryz.underlying174, Tryz.runUnderlying174, Tryz.sizeOf174, Tryz.isAgg174, Tryz.zeroValue174, Tryz.underlying171, Tryz.runUnderlying171, Tryz.sizeOf171, Tryz.isAgg171, Tryz.zeroValue171, Tryz.underlying74, Tryz.runUnderlying74, Tryz.sizeOf74, Tryz.isAgg74, Tryz.zeroValue74, Tryz.underlying163, Tryz.runUnderlying163, Tryz.sizeOf163, Tryz.isAgg163, Tryz.zeroValue163, Tryz.underlying172, Tryz.runUnderlying172, Tryz.sizeOf172, Tryz.isAgg172, Tryz.zeroValue172, Tryz.underlying202, Tryz.runUnderlying202, Tryz.sizeOf202, Tryz.isAgg202, Tryz.zeroValue202, Tryz.underlying223, Tryz.runUnderlying223, Tryz.sizeOf223, Tryz.isAgg223, Tryz.zeroValue223, Tryz.underlying225, Tryz.runUnderlying225, Tryz.sizeOf225, Tryz.isAgg225, Tryz.zeroValue225, Tryz.underlying0, Tryz.runUnderlying0, Tryz.sizeOf0, Tryz.isAgg0, Tryz.zeroValue0, Tryz.underlying3, Tryz.runUnderlying3, Tryz.sizeOf3, Tryz.isAgg3, Tryz.zeroValue3, Tryz.underlying4, Tryz.runUnderlying4, Tryz.sizeOf4, Tryz.isAgg4, Tryz.zeroValue4, Tryz.underlying9, Tryz.runUnderlying9, Tryz.sizeOf9, Tryz.isAgg9, Tryz.zeroValue9, Tryz.underlying20, Tryz.runUnderlying20, Tryz.sizeOf20, Tryz.isAgg20, Tryz.zeroValue20, Tryz.underlying21, Tryz.runUnderlying21, Tryz.sizeOf21, Tryz.isAgg21, Tryz.zeroValue21, by kernel_rfl, by kernel_rfl⟩
end Go.Proofs.YtgniilnljeedlaaGreatDoor
end
section
namespace Go.Proofs.YtgniilnljeedlaaGreatDoor
open Go Go.X
def By3 := And.intro (fun H => Aq4 (H := H) Tryz.underlying22) (And.intro (fun H => Aqq (H := H) Tryz.underlying22 Tryz.sizeOf3) (fun H => Aqd (H := H) Tryz.underlying3 rfl))
theorem Dk7 {p q : Prop} (g : q) (h : Hid q -> p := by
 intro g
 repeat' (first
 | (refine Axj rfl ?_; intro Kz hKz; simp -implicitDefEqProofs (disch := first | omega | (simp only [qd] <;> omega)) only [xq, ↓xp, qc, Nat.reduceAdd, List.range, List.range.loop, fine, Nat.reduceEqDiff, ↓reduceIte, yielded, reduceCtorEq, Nat.reduceLT, Nat.reduceMul, Nat.reduceSub, one, Nat.reduceLeDiff, Aqa, By3, aq, ↓ap, qe0, qe1, qe2, *, -g, -hKz, beq_self_eq_true]; try (refine hKz _ _ ?_; clear hKz Kz))
 | (refine Axo rfl ?_; intro Kz hKz; simp -implicitDefEqProofs (disch := first | omega | (simp only [qd] <;> omega)) only [xq, ↓xp, qc, Nat.reduceAdd, List.range, List.range.loop, fine, Nat.reduceEqDiff, ↓reduceIte, yielded, reduceCtorEq, Nat.reduceLT, Nat.reduceMul, Nat.reduceSub, one, Nat.reduceLeDiff, Aqa, By3, aq, ↓ap, qe0, qe1, qe2, *, -g, -hKz, beq_self_eq_true]; try (refine hKz _ _ ?_; clear hKz Kz; (try simp only [nq, ↓reduceIte, Nat.reduceEqDiff])))
 | (refine Aqu ?_; (try simp only [nq, ↓reduceIte, Nat.reduceEqDiff]))
 | (refine Axn ?_; (try simp only [nq, ↓reduceIte, Nat.reduceEqDiff]))
 | (refine Aq7 ?_; (try simp only [nq, ↓reduceIte, Nat.reduceEqDiff]))
 | (refine Azb ?_; (try simp only [nq, ↓reduceIte, Nat.reduceEqDiff]))
 | (refine Axv (by simp only [Aqm, Aqr, Nat.reduceEqDiff, Nat.reduceLT, ↓reduceIte, *, -g]; rfl) ?_ ?_ <;> (intro hcz; first | (exfalso; simp -implicitDefEqProofs (disch := omega) only [*, -g, bq, reduceCtorEq] at hcz; done) | (simp only [dq, qe3, qe4, qe5, qe6] at hcz) | skip))
 | (refine Axl ?_)
 | (refine Aqo ?_)
 | (refine Aql ?_))
 (try (revert Kz; refine unK ?_)); (repeat (revert hcz; refine unC ?_))
 exact Hid.out g) : Hid p := ⟨h ⟨g⟩⟩
theorem Cwz (m : Md) (H : Hp) (v : Value) (xs : List Int) (n : Int) (hv : SlI H v xs) (hl : xs.length <= 1000000) :
  FnX Tryz.prog m 50 #[v, .int .i64 n] H fun e H' => H' = H /\ ∃ r : Int, e = .returned (.int .i64 r) /\ ((r = -1 /\ n ∉ xs) ∨ ∃ k : Nat, r = k /\ k < xs.length /\ xs[k]? = some n /\ n ∉ xs.take k) := by
 have hvS := hv
 obtain ⟨a, cap, rfl, hcap, hx⟩ := hv
 refine Aqk Tryz.func50 rfl Tryz.ntmps50 (by simp) ?_
 (refine @unH _ ?_; refine zA By3 ?_; (repeat (refine inC ?_; intro hc)); try (refine inK ?_; intro K hK))
 refine Aq9 (fun w a' H' => ∃ e j, w = xs.length - j /\ j <= xs.length /\ a' = act 19 e [] /\ e 0 = .slice a xs.length cap /\ e 1 = .int .i64 n /\ e 5 = .int .i64 (j : Nat) /\ H' = H /\ n ∉ xs.take j) (n := xs.length) ?_ ?_
 ·exact ⟨_, 0, by omega, by omega, rfl, rfl, rfl, rfl, by trivial, by simp⟩
 ·rintro w a' H' ⟨e, j, rfl, hj, rfl, e0, e1, e5, hH, hno⟩
  rw [hH]; clear hH H'
  by_cases hlt : j < xs.length
  ·obtain ⟨b, o, p, c, fr, rfl, hb, hcx⟩ := hx j xs[j] (List.getElem?_eq_getElem hlt)
   have hxj := List.getElem?_eq_getElem hlt
   generalize hy : xs[j] = y at *
   have hcx' : c[o + (j : Int).toNat * 1]? = some (.int .i64 y) := by simpa using hcx
   have hno' : Aqy (n ∉ xs.take j) := hno
   have hxj' : Aqy (xs[j]? = some y) := hxj
   clear hx hno hxj hy
   by_cases hyn : y = n
   ·subst hyn
    (refine @unH _ ?_; refine Dk7 ?_; (repeat (refine inC ?_; intro hc)); try (refine inK ?_; intro K hK))
    (refine @unH _ ?_; refine z9 Tryz.results50 ?_)
    exact ⟨by trivial, _, rfl, .inr ⟨j, rfl, hlt, hxj', hno'⟩⟩
   ·have hne : (y == n) = false := beq_false_of_ne hyn
    clear hyn
    have hnext : n ∉ xs.take (j + 1) := fun h => by
     have hxj : xs[j]? = some y := hxj'
     rw [List.take_add_one, hxj] at h
     rcases List.mem_append.1 h with h | h
     ·exact hno' h
     ·rw [show n = y by simpa using h] at hne
      simp at hne
    replace hnext : Aqy _ := hnext
    (refine @unH _ ?_; refine zA By3 ?_; (repeat (refine inC ?_; intro hc)); try (refine inK ?_; intro K hK))
    exact ⟨_, by omega, _, j + 1, rfl, hlt, rfl, e0, e1, rfl, by trivial, hnext⟩
  ·obtain rfl : j = xs.length := by omega
   (refine @unH _ ?_; refine zA By3 ?_; (repeat (refine inC ?_; intro hc)); try (refine inK ?_; intro K hK))
   (refine @unH _ ?_; refine z9 Tryz.results50 ?_)
   exact ⟨by trivial, _, rfl, .inl ⟨rfl, by simpa using hno⟩⟩
def atF (xs : List Int) (n : Int) : Int := match xs.findIdx? (· == n) with
 | some k => k
 | none => -1
theorem Cki {xs : List Int} {n : Int} (h : n ∉ xs) : atF xs n = -1 := by
 unfold atF
 have e : xs.findIdx? (· == n) = none := List.findIdx?_eq_none_iff.2 (fun x hx => beq_false_of_ne fun e => h (by rw [<- e]; exact hx))
 rw [e]
theorem Dz7 {xs : List Int} {n : Int} {k : Nat} (hk : xs[k]? = some n) (hn : n ∉ xs.take k) : atF xs n = k := by
 obtain ⟨hlt, he⟩ := List.getElem?_eq_some_iff.1 hk
 unfold atF
 rw [List.findIdx?_eq_some_iff_getElem.2 ⟨hlt, by simp [he], fun j hj => by
  have : xs[j]'(by omega) ∈ xs.take k := List.mem_iff_getElem.2 ⟨j, by rw [List.length_take]; omega, by rw [List.getElem_take]⟩
  simp
  intro e
  exact hn (e ▸ this)⟩]
theorem Ckh {xs : List Int} {n : Int} (h : n ∈ xs) : 0 <= atF xs n /\ atF xs n < xs.length /\ xs[(atF xs n).toNat]? = some n := by
 unfold atF
 cases hf : xs.findIdx? (· == n) with
 | none => exact absurd h (fun hm => by have := List.findIdx?_eq_none_iff.1 hf n hm; simp at this)
 | some k =>
  obtain ⟨h1, h2, _⟩ := List.findIdx?_eq_some_iff_getElem.1 hf
  simp only [beq_iff_eq] at h2
  simp only [Int.toNat_natCast]
  refine ⟨by omega, by omega, ?_⟩
  rw [List.getElem?_eq_getElem h1, h2]
theorem atF_nonneg {xs : List Int} {n : Int} : 0 <= atF xs n ↔ n ∈ xs := by
 constructor
 ·intro h
  by_cases hm : n ∈ xs
  ·exact hm
  ·rw [Cki hm] at h; omega
 ·exact fun h => (Ckh h).1
theorem atF_bnd (xs : List Int) (n : Int) : -1 <= atF xs n /\ atF xs n < xs.length := by
 by_cases h : n ∈ xs
 ·have := Ckh h; omega
 ·rw [Cki h]; omega
theorem SlR.get {H : Hp} {a : Option Addr} {n cap : Nat} {xss : List (List Int)} (h : SlR H (.slice a n cap) xss) {i : Nat} {xs : List Int} (hx : xss[i]? = some xs) :
  ∃ (b o : Nat) (p : Bool) (c : Array Value) (fr : Nat × Nat) (w : Value), a = some ⟨b, o, none⟩ /\ H b = some (p, .cells c 22 fr) /\ c[o + i]? = some w /\ SlI H w xs := by
 obtain ⟨a', cap', he, _, hg⟩ := h
 cases he
 exact hg i xs hx
def chF (pl : Int) : List Int -> Nat -> List Int -> Option Nat
 | [], _, [] => some 0
 | t :: ts, m, c :: cs => if c ∈ Ax0 pl m t then (chF pl ts (Aqx m c t) cs).map (Azl m t + ·) else none
 | _, _, _ => none
def Axw (L : Nat) (pl : Int) : List Int -> Nat -> List (List Int)
 | [], _ => [[]]
 | t :: ts, m => (Ax0 pl m t).flatMap fun s => if Azl m t + optF L pl ts (Aqx m s t) <= optF L pl (t :: ts) m then (Axw L pl ts (Aqx m s t)).map (s :: ·) else []
theorem Dqd (m : Nat) : (Axz m).Pairwise (· < ·) := by
 unfold Axz Awr
 rw [List.pairwise_map]
 refine List.Pairwise.imp (R := (· < ·)) (fun {a b} h => by omega) ?_
 exact List.Pairwise.sublist (List.filter_sublist) List.pairwise_lt_range
theorem Ck0 {pl : Int} : ∀ {ts : List Int} {m : Nat} {cs : List Int} {k : Nat}, chF pl ts m cs = some k -> cs.length = ts.length
 | [], _, [], _, _ => rfl
 | [], _, _ :: _, _, h => by simp [chF] at h
 | _ :: _, _, [], _, h => by simp [chF] at h
 | t :: ts, m, c :: cs, k, h => by
  unfold chF at h
  split at h
  ·rw [Option.map_eq_some_iff] at h
   obtain ⟨k', h', _⟩ := h
   simp [Ck0 h']
  ·cases h
theorem Dq1 (L : Nat) {pl : Int} : ∀ {ts : List Int} {m : Nat} {cs : List Int} {k : Nat}, chF pl ts m cs = some k -> optF L pl ts m <= k
 | [], _, [], _, _ => Nat.zero_le _
 | [], _, _ :: _, _, h => by simp [chF] at h
 | _ :: _, _, [], _, h => by simp [chF] at h
 | t :: ts, m, c :: cs, k, h => by
  unfold chF at h
  split at h
  ·rename_i hc
   rw [Option.map_eq_some_iff] at h
   obtain ⟨k', h', rfl⟩ := h
   have := Dq1 L h'
   have := Avu L pl t ts m c hc
   omega
  ·cases h
theorem Bxl (L : Nat) {pl : Int} : ∀ {ts : List Int} {m : Nat} {cs : List Int}, cs ∈ Axw L pl ts m ↔ chF pl ts m cs = some (optF L pl ts m)
 | [], m, cs => by
  cases cs with
  | nil => simp [Axw, chF, optF]
  | cons c cs => simp [Axw, chF]
 | t :: ts, m, cs => by
  unfold Axw
  rw [List.mem_flatMap]
  cases cs with
  | nil =>
   simp only [chF, reduceCtorEq, iff_false]
   rintro ⟨s, _, h⟩
   split at h
   ·simp at h
   ·simp at h
  | cons c cs =>
   constructor
   ·rintro ⟨s, hs, h⟩
    split at h
    ·rename_i hle
     rw [List.mem_map] at h
     obtain ⟨cs', h1, h2⟩ := h
     obtain ⟨rfl, rfl⟩ := List.cons.inj h2
     have ih := (Bxl L).1 h1
     unfold chF
     rw [if_pos hs, ih, Option.map_some]
     have := Avu L pl t ts m s hs
     congr 1
     omega
    ·simp at h
   ·intro h
    have h0 := h
    unfold chF at h
    split at h
    ·rename_i hc
     rw [Option.map_eq_some_iff] at h
     obtain ⟨k, h1, h2⟩ := h
     have h3 := Dq1 L h1
     have h4 := Avu L pl t ts m c hc
     refine ⟨c, hc, ?_⟩
     rw [if_pos (by omega), List.mem_map]
     exact ⟨cs, (Bxl L).2 (by rw [h1]; congr 1; omega), rfl⟩
    ·cases h
theorem Dqp {pl : Int} {ts start : List Int} (L : Nat) (hL : ts.length <= L) (h1 : 1 <= pl) (hb : ∀ t ∈ ts, 0 <= t /\ t < 6) (hs : ∀ y ∈ start, 0 <= y /\ y < 6) (hl : (start.length : Int) <= pl) : (rrun pl 3 ts (rs0 start) ts.length).f = optF L pl ts (oOf start) := by
 have := Byk (s0 := rs0 start) L hL h1 hb (Byp hs hl) ts.length (Nat.le_refl _)
 rw [List.drop_length] at this
 simpa [rs0, optF] using this.symm
structure OffA (o : List Int) (m : Nat) : Prop where
 mem : ∀ x, inO m x ↔ x ∈ o
 nd : o.Nodup
theorem OffA.len {o : List Int} {m : Nat} (h : OffA o m) : Aqs m = o.length := by
 rw [<- Akz]
 have hn : (Axz m).Nodup := (Dqd m).imp fun h => by omega
 exact ((List.perm_ext_iff_of_nodup hn h.nd).2 fun x => by rw [Azm, h.mem]).length_eq
def Avb (start ts : List Int) : List Int := ts.foldl (fun fr t => if t ∈ start ∨ t ∈ fr then fr else fr ++ [t]) []
theorem Bqf (start ts : List Int) (t : Int) : Avb start (ts ++ [t]) = if t ∈ start ∨ t ∈ Avb start ts then Avb start ts else Avb start ts ++ [t] := by
 unfold Avb
 rw [List.foldl_append]
 rfl
theorem Bjz {ts : List Int} {i : Nat} (h : i < ts.length) : ts.take (i + 1) = ts.take i ++ [ts.getD i 0] := by
 rw [List.take_add_one, List.getElem?_eq_getElem h]
 simp [List.getD, List.getElem?_eq_getElem h]
theorem Bkk (start ts : List Int) (x : Int) : ∀ i, i <= ts.length -> (x ∈ Avb start (ts.take i) ↔ x ∈ ts.take i /\ x ∉ start)
 | 0, _ => by simp [Avb]
 | i + 1, h => by
  have ih := Bkk start ts x i (by omega)
  rw [Bjz (by omega), Bqf]
  by_cases hc : ts.getD i 0 ∈ start ∨ ts.getD i 0 ∈ Avb start (ts.take i)
  ·rw [if_pos hc, ih, List.mem_append, List.mem_singleton]
   constructor
   ·rintro ⟨h1, h2⟩; exact ⟨.inl h1, h2⟩
   ·rintro ⟨h1 | h1, h2⟩
    ·exact ⟨h1, h2⟩
    ·subst h1
     exact ih.1 (hc.resolve_left h2)
  ·rw [if_neg hc, List.mem_append, List.mem_append, List.mem_singleton, ih]
   constructor
   ·rintro (⟨h1, h2⟩ | h1)
    ·exact ⟨.inl h1, h2⟩
    ·subst h1; exact ⟨.inr rfl, fun hs => hc (.inl hs)⟩
   ·rintro ⟨h1 | h1, h2⟩
    ·exact .inl ⟨h1, h2⟩
    ·exact .inr h1
theorem Avy {pl r : Int} {ts : List Int} {i : Nat} {t : Int} {s : RS} : -1 <= Ajs pl r ts i t s /\ Ajs pl r ts i t s < 6 := by
 unfold Ajs
 split
 ·refine ⟨?_, Bv4 _ _⟩
  unfold Awh
  rcases Ajg (Ak0 r s.came s.asked (if r = 3 then Azf ts (i + 1) else s.later)) (Axz s.m) (-1) with h | h
  ·rw [h]; omega
  ·have := (Az5 h).1; omega
 ·omega
theorem Bju {l : List Int} {p q v : Int} (hl : l.length = 6) (hp : 0 <= p /\ p < 6) (hq : 0 <= q /\ q < 6) : (l.set p.toNat v).getD q.toNat 0 = if q = p then v else l.getD q.toNat 0 := by
 simp only [List.getD]
 by_cases h : q = p
 ·subst h
  rw [List.getElem?_set_self (by omega), if_pos rfl]
  rfl
 ·rw [List.getElem?_set_ne (by omega), if_neg h]
theorem Bkl {start : List Int} (hn : start.Nodup) (h6 : ∀ y ∈ start, 0 <= y /\ y < 6) : ∀ k, k <= start.length -> ∀ x ∈ start.take k, ∃ j : Nat, j < k /\ start[j]? = some x /\ (Aw1 start k).getD x.toNat 0 = (j : Int) - start.length
 | 0, _, x, h => by simp at h
 | k + 1, hk, x, h => by
  have gk : start.getD k 0 = start[k] := by simp [List.getD, List.getElem?_eq_getElem (show k < start.length by omega)]
  have hkb := h6 _ (List.getElem_mem (show k < start.length by omega))
  have hx := h6 x (List.mem_of_mem_take h)
  rw [List.take_add_one, List.getElem?_eq_getElem (by omega), List.mem_append] at h
  rw [Aw1, Bju (Avs start k) (gk ▸ hkb) hx, gk]
  by_cases hxk : x = start[k]
  ·rw [if_pos hxk]
   exact ⟨k, by omega, by rw [hxk]; exact List.getElem?_eq_getElem _, rfl⟩
  ·rw [if_neg hxk]
   obtain ⟨j, h1, h2, h3⟩ := Bkl hn h6 k (by omega) x (h.resolve_right (by simpa using hxk))
   exact ⟨j, by omega, h2, h3⟩
def Azd := And.intro (fun H => Aq4 (H := H) Tryz.underlying22) (And.intro (fun H => Aqq (H := H) Tryz.underlying22 Tryz.sizeOf3) (And.intro (fun H => Aqd (H := H) Tryz.underlying3 rfl) (And.intro (fun H => Aqg (H := H) Tryz.underlying120 (i := 2) rfl (off := 2) rfl Tryz.sizeOf4) (And.intro (fun H => Aqd (H := H) Tryz.underlying4 rfl) (And.intro (fun H => Aqg (H := H) Tryz.underlying120 (i := 0) rfl (off := 0) rfl Tryz.sizeOf3) (And.intro (fun H => Axk (H := H) Tryz.sizeOf3) (And.intro (fun H => Aqg (H := H) Tryz.underlying120 (i := 1) rfl (off := 1) rfl Tryz.sizeOf3) (And.intro (fun H => Ayc (H := H) Tryz.sizeOf4) (And.intro @Bvt @Cqt)))))))))
structure Bd where
 lo : Int
 hi : Int
 some : Bool
def Akx (b : Bd) (x : Int) : Bd := if b.some then ⟨min b.lo x, max b.hi x, true⟩ else ⟨x, x, true⟩
abbrev bdO (b : Bd) : Obj := .cells #[.int .i64 b.lo, .int .i64 b.hi, .bool b.some] 120 (0, 0)
theorem Bkz (main : Md) (H : Hp) (bb : Nat) (b : Bd) (v : Value) (xs : List Int) (hv : SlI H v xs) (vb : H bb = some (true, bdO b)) (hl : xs.length <= 1000) :
  FnX Tryz.prog main 122 #[.pointer (some ⟨bb, 0, none⟩), v] H fun e H' => e = .returned (.tuple #[]) /\ H' bb = some (true, bdO (xs.foldl Akx b)) /\ ∀ x, x ≠ bb -> H' x = H x := by
 obtain ⟨a, cap, rfl, hc, hx⟩ := hv
 refine Aqk Tryz.func122 rfl Tryz.ntmps122 (by simp) ?_
 (refine @unH _ ?_; refine zA Azd ?_; (repeat (refine inC ?_; intro hc)); try (refine inK ?_; intro K hK))
 refine Aq9 (fun w a' H' => ∃ e k, w = xs.length - k /\ k <= xs.length /\ a' = act 47 e [] /\ e 0 = .pointer (some ⟨bb, 0, none⟩) /\ e 6 = .slice a xs.length cap /\ e 7 = .int .i64 xs.length /\ e 8 = .int .i64 (k : Nat) /\ H' bb = some (true, bdO ((xs.take k).foldl Akx b)) /\ ∀ x, x ≠ bb -> H' x = H x) (n := xs.length) ?_ ?_
 ·exact ⟨_, 0, by omega, by omega, rfl, rfl, rfl, rfl, rfl, vb, fun _ _ => rfl⟩
 ·rintro w a' H' ⟨e, k, rfl, hk, rfl, e0, e6, e7, e8, vb', hoth⟩
  by_cases hlt : k < xs.length
  ·obtain ⟨rb, o, p, c, fr, rfl, hb, hx'⟩ := hx k xs[k] (List.getElem?_eq_getElem hlt)
   have hcx : c[o + (k : Int).toNat * 1]? = some (.int .i64 xs[k]) := by simpa using hx'
   have nrb : rb ≠ bb := fun h => by rw [h, vb] at hb; cases hb
   have hb' : H' rb = _ := (hoth rb nrb).trans hb
   have hstep : (xs.take (k + 1)).foldl Akx b = Akx ((xs.take k).foldl Akx b) xs[k] := by rw [List.take_add_one, List.getElem?_eq_getElem hlt, List.foldl_append]; rfl
   generalize (xs.take k).foldl Akx b = B at *
   generalize xs[k] = x at *
   obtain ⟨lo, hi, sm⟩ := B
   replace hoth : Aqy _ := hoth
   simp only [Akx] at hstep
   cases sm with
   | false =>
    simp only [Bool.false_eq_true, if_false] at hstep
    replace hstep : Aqy _ := hstep
    clear hb hx
    (refine @unH _ ?_; refine zA Azd ?_; (repeat (refine inC ?_; intro hc)); try (refine inK ?_; intro K hK))
    obtain ⟨H1, hG⟩ : ∃ H1, H1 = H'.set bb (.cells #[.int .i64 x, .int .i64 x, .bool true] 120 (0, 0)) := ⟨_, rfl⟩
    rw [<- hG]
    have v1 := Aqf hG.symm
    have ho1 : Aqy (∀ y, y ≠ bb -> H1 y = H y) := fun y hy => by rw [hG, Aqp hy]; exact (show ∀ y, y ≠ bb -> H' y = H y from hoth) y hy
    clear hG vb' hoth hb'
    refine Aj0 (fun HX => HX bb = some (true, .cells #[.int .i64 x, .int .i64 x, .bool true] 120 (0, 0))) [16, 19] (.free 0 (.free 1 (.free 2 (.free 3 (.free 4 (.take 5 (.free 6 (.free 7 (.free 8 (.free 9 (.free 10 (.take 11 (.free 12 (.free 13 (.free 14 (.free 15 (.one 16 (.free 17 (.free 18 (.one 19 .nil)))))))))))))))))))) (by kernel_rfl) (by kernel_rfl) (by decide) (by kernel_rfl) ?_; intro K hK
    (iterate 5 (apply Ax4 rfl rfl rfl; (focus (intro HX; simp -implicitDefEqProofs (disch := first | omega | (simp only [qd] <;> omega)) only [xq, ↓xp, qc, Nat.reduceAdd, List.range, List.range.loop, fine, Nat.reduceEqDiff, ↓reduceIte, yielded, reduceCtorEq, Nat.reduceLT, Nat.reduceMul, Nat.reduceSub, one, Nat.reduceLeDiff, Aqa, Azd, aq, ↓ap, qe0, qe1, qe2, *, -hK, Aq1] <;> (first | exact rfl | exact ⟨rfl, rfl⟩ | exact ⟨rfl, trivial⟩))); simp -implicitDefEqProofs (disch := first | omega | (simp only [qd] <;> omega)) only [Aqn, Aqc]))
    (apply Axa rfl rfl rfl ‹_›; (focus (intro HX hHX; simp -implicitDefEqProofs (disch := first | omega | (simp only [qd] <;> omega)) only [xq, ↓xp, qc, Nat.reduceAdd, List.range, List.range.loop, fine, Nat.reduceEqDiff, ↓reduceIte, yielded, reduceCtorEq, Nat.reduceLT, Nat.reduceMul, Nat.reduceSub, one, Nat.reduceLeDiff, Aqa, Azd, aq, ↓ap, qe0, qe1, qe2, *, -hK, Aq1] <;> (first | exact rfl | exact ⟨rfl, rfl⟩ | exact ⟨rfl, trivial⟩))); simp -implicitDefEqProofs (disch := first | omega | (simp only [qd] <;> omega)) only [Aqn, Aqc])
    (iterate 5 (apply Ax4 rfl rfl rfl; (focus (intro HX; simp -implicitDefEqProofs (disch := first | omega | (simp only [qd] <;> omega)) only [xq, ↓xp, qc, Nat.reduceAdd, List.range, List.range.loop, fine, Nat.reduceEqDiff, ↓reduceIte, yielded, reduceCtorEq, Nat.reduceLT, Nat.reduceMul, Nat.reduceSub, one, Nat.reduceLeDiff, Aqa, Azd, aq, ↓ap, qe0, qe1, qe2, *, -hK, Aq1] <;> (first | exact rfl | exact ⟨rfl, rfl⟩ | exact ⟨rfl, trivial⟩))); simp -implicitDefEqProofs (disch := first | omega | (simp only [qd] <;> omega)) only [Aqn, Aqc]))
    (apply Axa rfl rfl rfl ‹_›; (focus (intro HX hHX; simp -implicitDefEqProofs (disch := first | omega | (simp only [qd] <;> omega)) only [xq, ↓xp, qc, Nat.reduceAdd, List.range, List.range.loop, fine, Nat.reduceEqDiff, ↓reduceIte, yielded, reduceCtorEq, Nat.reduceLT, Nat.reduceMul, Nat.reduceSub, one, Nat.reduceLeDiff, Aqa, Azd, aq, ↓ap, qe0, qe1, qe2, *, -hK, Aq1] <;> (first | exact rfl | exact ⟨rfl, rfl⟩ | exact ⟨rfl, trivial⟩))); simp -implicitDefEqProofs (disch := first | omega | (simp only [qd] <;> omega)) only [Aqn, Aqc])
    (iterate 4 (apply Ax4 rfl rfl rfl; (focus (intro HX; simp -implicitDefEqProofs (disch := first | omega | (simp only [qd] <;> omega)) only [xq, ↓xp, qc, Nat.reduceAdd, List.range, List.range.loop, fine, Nat.reduceEqDiff, ↓reduceIte, yielded, reduceCtorEq, Nat.reduceLT, Nat.reduceMul, Nat.reduceSub, one, Nat.reduceLeDiff, Aqa, Azd, aq, ↓ap, qe0, qe1, qe2, *, -hK, Aq1] <;> (first | exact rfl | exact ⟨rfl, rfl⟩ | exact ⟨rfl, trivial⟩))); simp -implicitDefEqProofs (disch := first | omega | (simp only [qd] <;> omega)) only [Aqn, Aqc]))
    refine Axf ?_
    (refine @unH _ ?_; refine zX Azd ?_)
    refine ⟨.inl (by decide), ?_⟩
    (iterate 2 (apply Ax4 rfl rfl rfl; (focus (intro HX; simp -implicitDefEqProofs (disch := first | omega | (simp only [qd] <;> omega)) only [xq, ↓xp, qc, Nat.reduceAdd, List.range, List.range.loop, fine, Nat.reduceEqDiff, ↓reduceIte, yielded, reduceCtorEq, Nat.reduceLT, Nat.reduceMul, Nat.reduceSub, one, Nat.reduceLeDiff, Aqa, Azd, aq, ↓ap, qe0, qe1, qe2, *, -hK, Aq1] <;> (first | exact rfl | exact ⟨rfl, rfl⟩ | exact ⟨rfl, trivial⟩))); simp -implicitDefEqProofs (disch := first | omega | (simp only [qd] <;> omega)) only [Aqn, Aqc]))
    refine Axf ?_
    (refine @unH _ ?_; refine zX Azd ?_)
    refine ⟨.inl (by decide), ?_⟩
    refine Ajv (hK _ _ ?_)
    clear hK K
    (try simp only [nq, ↓reduceIte, Nat.reduceEqDiff])
    (refine @unH _ ?_; refine zA Azd ?_; (repeat (refine inC ?_; intro hc)); try (refine inK ?_; intro K hK))
    refine ⟨_, by omega, _, k + 1, rfl, by omega, rfl, e0, e6, e7, rfl, ?_, fun y hy => (Aqp hy).trans ((show ∀ y, y ≠ bb -> H1 y = H y from ho1) y hy)⟩
    rw [Aqw, show (xs.take (k + 1)).foldl Akx b = _ from hstep, bdO]
    simp only [Option.some.injEq, Prod.mk.injEq, true_and, Obj.cells.injEq, Array.mk.injEq, List.cons.injEq, Value.int.injEq, and_true]
    split <;> omega
   | true =>
    simp only [if_true] at hstep
    replace hstep : Aqy _ := hstep
    clear hb hx
    (refine @unH _ ?_; refine zA Azd ?_; (repeat (refine inC ?_; intro hc)); try (refine inK ?_; intro K hK))
    have v1 := vb'
    simp only [bdO] at v1
    have ho1 := hoth
    clear vb' hoth hb'
    refine Aj0 (fun HX => HX bb = some (true, .cells #[.int .i64 lo, .int .i64 hi, .bool true] 120 (0, 0))) [16, 19] (.free 0 (.free 1 (.free 2 (.free 3 (.free 4 (.take 5 (.free 6 (.free 7 (.free 8 (.free 9 (.free 10 (.take 11 (.free 12 (.free 13 (.free 14 (.free 15 (.one 16 (.free 17 (.free 18 (.one 19 .nil)))))))))))))))))))) (by kernel_rfl) (by kernel_rfl) (by decide) (by kernel_rfl) ?_; intro K hK
    (iterate 5 (apply Ax4 rfl rfl rfl; (focus (intro HX; simp -implicitDefEqProofs (disch := first | omega | (simp only [qd] <;> omega)) only [xq, ↓xp, qc, Nat.reduceAdd, List.range, List.range.loop, fine, Nat.reduceEqDiff, ↓reduceIte, yielded, reduceCtorEq, Nat.reduceLT, Nat.reduceMul, Nat.reduceSub, one, Nat.reduceLeDiff, Aqa, Azd, aq, ↓ap, qe0, qe1, qe2, *, -hK, Aq1] <;> (first | exact rfl | exact ⟨rfl, rfl⟩ | exact ⟨rfl, trivial⟩))); simp -implicitDefEqProofs (disch := first | omega | (simp only [qd] <;> omega)) only [Aqn, Aqc]))
    (apply Axa rfl rfl rfl ‹_›; (focus (intro HX hHX; simp -implicitDefEqProofs (disch := first | omega | (simp only [qd] <;> omega)) only [xq, ↓xp, qc, Nat.reduceAdd, List.range, List.range.loop, fine, Nat.reduceEqDiff, ↓reduceIte, yielded, reduceCtorEq, Nat.reduceLT, Nat.reduceMul, Nat.reduceSub, one, Nat.reduceLeDiff, Aqa, Azd, aq, ↓ap, qe0, qe1, qe2, *, -hK, Aq1] <;> (first | exact rfl | exact ⟨rfl, rfl⟩ | exact ⟨rfl, trivial⟩))); simp -implicitDefEqProofs (disch := first | omega | (simp only [qd] <;> omega)) only [Aqn, Aqc])
    (iterate 5 (apply Ax4 rfl rfl rfl; (focus (intro HX; simp -implicitDefEqProofs (disch := first | omega | (simp only [qd] <;> omega)) only [xq, ↓xp, qc, Nat.reduceAdd, List.range, List.range.loop, fine, Nat.reduceEqDiff, ↓reduceIte, yielded, reduceCtorEq, Nat.reduceLT, Nat.reduceMul, Nat.reduceSub, one, Nat.reduceLeDiff, Aqa, Azd, aq, ↓ap, qe0, qe1, qe2, *, -hK, Aq1] <;> (first | exact rfl | exact ⟨rfl, rfl⟩ | exact ⟨rfl, trivial⟩))); simp -implicitDefEqProofs (disch := first | omega | (simp only [qd] <;> omega)) only [Aqn, Aqc]))
    (apply Axa rfl rfl rfl ‹_›; (focus (intro HX hHX; simp -implicitDefEqProofs (disch := first | omega | (simp only [qd] <;> omega)) only [xq, ↓xp, qc, Nat.reduceAdd, List.range, List.range.loop, fine, Nat.reduceEqDiff, ↓reduceIte, yielded, reduceCtorEq, Nat.reduceLT, Nat.reduceMul, Nat.reduceSub, one, Nat.reduceLeDiff, Aqa, Azd, aq, ↓ap, qe0, qe1, qe2, *, -hK, Aq1] <;> (first | exact rfl | exact ⟨rfl, rfl⟩ | exact ⟨rfl, trivial⟩))); simp -implicitDefEqProofs (disch := first | omega | (simp only [qd] <;> omega)) only [Aqn, Aqc])
    (iterate 4 (apply Ax4 rfl rfl rfl; (focus (intro HX; simp -implicitDefEqProofs (disch := first | omega | (simp only [qd] <;> omega)) only [xq, ↓xp, qc, Nat.reduceAdd, List.range, List.range.loop, fine, Nat.reduceEqDiff, ↓reduceIte, yielded, reduceCtorEq, Nat.reduceLT, Nat.reduceMul, Nat.reduceSub, one, Nat.reduceLeDiff, Aqa, Azd, aq, ↓ap, qe0, qe1, qe2, *, -hK, Aq1] <;> (first | exact rfl | exact ⟨rfl, rfl⟩ | exact ⟨rfl, trivial⟩))); simp -implicitDefEqProofs (disch := first | omega | (simp only [qd] <;> omega)) only [Aqn, Aqc]))
    refine Axf ?_
    (refine @unH _ ?_; refine zX Azd ?_)
    refine ⟨.inl (by decide), ?_⟩
    (iterate 2 (apply Ax4 rfl rfl rfl; (focus (intro HX; simp -implicitDefEqProofs (disch := first | omega | (simp only [qd] <;> omega)) only [xq, ↓xp, qc, Nat.reduceAdd, List.range, List.range.loop, fine, Nat.reduceEqDiff, ↓reduceIte, yielded, reduceCtorEq, Nat.reduceLT, Nat.reduceMul, Nat.reduceSub, one, Nat.reduceLeDiff, Aqa, Azd, aq, ↓ap, qe0, qe1, qe2, *, -hK, Aq1] <;> (first | exact rfl | exact ⟨rfl, rfl⟩ | exact ⟨rfl, trivial⟩))); simp -implicitDefEqProofs (disch := first | omega | (simp only [qd] <;> omega)) only [Aqn, Aqc]))
    refine Axf ?_
    (refine @unH _ ?_; refine zX Azd ?_)
    refine ⟨.inl (by decide), ?_⟩
    refine Ajv (hK _ _ ?_)
    clear hK K
    (try simp only [nq, ↓reduceIte, Nat.reduceEqDiff])
    (refine @unH _ ?_; refine zA Azd ?_; (repeat (refine inC ?_; intro hc)); try (refine inK ?_; intro K hK))
    refine ⟨_, by omega, _, k + 1, rfl, by omega, rfl, e0, e6, e7, rfl, ?_, fun y hy => (Aqp hy).trans ((show ∀ y, y ≠ bb -> H' y = H y from ho1) y hy)⟩
    rw [Aqw, show (xs.take (k + 1)).foldl Akx b = _ from hstep, bdO]
    simp only [Option.some.injEq, Prod.mk.injEq, true_and, Obj.cells.injEq, Array.mk.injEq, List.cons.injEq, Value.int.injEq, and_true]
    constructor <;> (split <;> omega)
  ·obtain rfl : k = xs.length := by omega
   (refine @unH _ ?_; refine zA Azd ?_; (repeat (refine inC ?_; intro hc)); try (refine inK ?_; intro K hK))
   (refine @unH _ ?_; refine zD Tryz.results122 ?_)
   refine ⟨by trivial, by rw [List.take_length] at vb'; exact vb', hoth⟩
def Axe := And.intro (fun H => Aqg (H := H) Tryz.underlying105 (i := 0) rfl (off := 0) rfl Tryz.sizeOf3) (And.intro (fun H => Aqd (H := H) Tryz.underlying3 rfl) (And.intro (fun H => Aqd (H := H) Tryz.underlying78 rfl) (And.intro (fun H => Aqg (H := H) Tryz.underlying97 (i := 1) rfl (off := 4) rfl Tryz.sizeOf22) (And.intro (fun H => Aqd (H := H) Tryz.underlying22 rfl) (And.intro (fun H => Aq4 (H := H) Tryz.underlying22) (And.intro (fun H => Aqd (H := H) Tryz.underlying158 rfl) (And.intro (fun H => Aqv (H := H) Tryz.underlying85 rfl Tryz.sizeOf85) (And.intro (fun H => Aqv (H := H) Tryz.underlying105 rfl Tryz.sizeOf105) (And.intro @Bzl (And.intro @Axq (And.intro (fun H => Aqg (H := H) Tryz.underlying105 (i := 1) rfl (off := 1) rfl Tryz.sizeOf92) (And.intro (fun H => Aqd (H := H) Tryz.underlying92 rfl) (And.intro @Bzm (And.intro (fun H => Aqq (H := H) Tryz.underlying22 Tryz.sizeOf3) (And.intro @Bzn (And.intro (fun H => Aq0 (H := H) (P := Tryz.prog) (h := Tryz.zeroValue105)) (And.intro (fun H => Aq3 (H := H) Tryz.sizeOf105) (And.intro @Bqc (And.intro (fun H => Ax6 (H := H) Tryz.underlying85 Tryz.sizeOf3) (And.intro (fun H => Axk (H := H) Tryz.sizeOf3) (fun H => Aqd (H := H) Tryz.underlying159 rfl)))))))))))))))))))))
theorem Bwp (main : Md) {S : Nat -> Prop} {A : List Int -> Prop} {T : Bool -> List (List Int) -> Hp -> Prop} {yf : Fn} {yi yc : Array Value} {pl pieces : Int} {sv cv tv : Value} {ts : List Int} {thisb db mb yb ab gb : Nat} (hdm : db ≠ mb) (hln : ts.length <= 8) (hts6 : ∀ t ∈ ts, 0 <= t /\ t < 6) (h1 : 1 <= pl)
  (hC : Akn Tryz.prog main (.func yf yi yc) S (fun H v xs => v = .agg (ints xs).toArray) A T) (hgo : ∀ L H, ¬ T false L H) (hA : ∀ l, l.length = 8 -> A l) :
  ∀ (n c m : Nat) (base : Hp) (xs : List Int) (L : List (List Int)) (H : Hp), ts.length - c = n -> c <= ts.length -> m < 64 -> Akk base S T (.func yf yi yc) pl pieces sv cv tv ts thisb db mb yb ab gb true L xs H ->
   FnX Tryz.prog main 117 #[Av1 c m, .pointer (some ⟨thisb, 0, none⟩), .pointer (some ⟨yb, 0, none⟩), .pointer (some ⟨ab, 0, none⟩), .pointer (some ⟨gb, 0, none⟩)] H fun e H' => e = .returned (.bool true) /\
    ∃ xs', xs'.take c = xs.take c /\ xs'.drop ts.length = xs.drop ts.length /\ Akk base S T (.func yf yi yc) pl pieces sv cv tv ts thisb db mb yb ab gb true (L ++ (Axw ts.length pl (ts.drop c) m).map fun cs => xs.take c ++ cs ++ xs.drop ts.length) xs' H' := by
 intro n
 induction n using Nat.strongRecOn with
 | _ n ih =>
 intro c m base xs L H hn hc hm hP
 simp only [Av1]
 refine Aqk Tryz.func117 rfl Tryz.ntmps117 (by simp) ?_
 (refine @unH _ ?_; refine zS Axe ?_; (repeat (refine inC ?_; intro hc)); try (refine inK ?_; intro K hK))
 (intro sb hsb; generalize hG : Hp.set _ sb _ = H1; have lH1 := Aqh hG hsb; have vsb := Aqf hG; clear hG)
 have hP1 := hP.le hC lH1
 have nsb : ¬ S sb := fun h => hC.ex _ _ _ _ hP.cl h hsb
 have nsm : sb ≠ mb := fun e => by obtain ⟨es, cl, h1, h2⟩ := hP.known; rw [e, h1] at hsb; cases hsb
 clear hP lH1 hsb
 ((try (refine @unH _ ?_; refine zX Axe ?_)); (try (refine hK _ _ ?_; clear hK K; (try simp only [nq, ↓reduceIte, Nat.reduceEqDiff]))); refine @unH _ ?_; refine zS Axe ?_; (repeat (refine inC ?_; intro hc)); try (refine inK ?_; intro K hK))
 have vsb0 := vsb
 have vth := hP1.th
 have vdb := hP1.day
 obtain ⟨ta, tc, rfl, htc, _⟩ := id hP1.tr
 simp only [dayO] at vdb
 refine Axl (Aql (Aql ?_))
 (refine Azz 8 [(true, 0), (true, 1), (true, 2), (true, 3), (true, 4), (true, 5), (true, 6), (true, 7)] (by kernel_rfl) (by kernel_rfl) (by simp) (by kernel_rfl) ?_; intro K hK; (iterate 8 (refine @unH _ ?_; refine z3 Axe ?_)); refine Axx (hK _ _ ?_); clear hK K; (try simp only [nq, ↓reduceIte, Nat.reduceEqDiff]))
 by_cases hce : c = ts.length
 ·subst hce
  have vyb := hP1.vy
  have vab := hP1.va
  (refine @unH _ ?_; refine zA Axe ?_; (repeat (refine inC ?_; intro hc)); try (refine inK ?_; intro K hK))
  have htk : List.take 8 (ints xs) = ints xs := List.take_of_length_le (by rw [Axi, hP1.l8]; omega)
  rw [htk]
  refine ⟨by rw [Axi, hP1.l8]; omega, Bj8.use (hC.call L H1 _ xs hP1.cl rfl (hA _ hP1.l8)) ?_⟩
  rintro _ H2 ⟨t, rfl, hT, hk⟩
  cases t with
  | false => exact absurd hT (hgo _ H2)
  | true =>
   have hP2 : Akk base S T (.func yf yi yc) pl pieces sv cv (.slice ta ts.length tc) ts thisb db mb yb ab gb true (L ++ [xs]) xs H2 := by
    refine { hP1 with cl := hT, th := hk _ _ hP1.nth hP1.th, day := hk _ _ hP1.nd hP1.day, tr := hP1.tr.kept (fun hne b x hb hx => hk _ _ (hP1.nt hne b hb) hx), known := ?_, vy := hk _ _ hP1.ny hP1.vy, va := hk _ _ hP1.na hP1.va, vg := hk _ _ hP1.ng hP1.vg, fr := fun b x h0 h1 h2 hx => hk _ _ h0 (hP1.fr b x h0 h1 h2 hx) }
    obtain ⟨es, cl, h1, h2⟩ := hP1.known
    exact ⟨es, cl, hk _ _ hP1.nm h1, h2⟩
   clear hk htk vyb vab vth vdb vsb vsb0 hP1
   ((try (refine @unH _ ?_; refine zX Axe ?_)); (try (refine hK _ _ ?_; clear hK K; (try simp only [nq, ↓reduceIte, Nat.reduceEqDiff]))); refine @unH _ ?_; refine zA Axe ?_; (repeat (refine inC ?_; intro hc)); try (refine inK ?_; intro K hK))
   (refine @unH _ ?_; refine z9 Tryz.results117 ?_)
   refine ⟨by trivial, xs, rfl, rfl, ?_⟩
   rw [List.drop_length]
   simpa [Axw] using hP2
 ·have hlt : c < ts.length := by omega
  have hct : ts[c]? = some ts[c] := List.getElem?_eq_getElem hlt
  have hdrop : ts.drop c = ts[c] :: ts.drop (c + 1) := List.drop_eq_getElem_cons hlt
  generalize ts[c] = t at hct hdrop
  have ht6 := hts6 t (List.mem_of_getElem? hct)
  have hneeds := Aym main H1 db pl pieces sv cv _ ts mb hP1.day hP1.tr c m t hct ht6.1 ht6.2 hm
  (refine @unH _ ?_; refine zS Axe ?_; (repeat (refine inC ?_; intro hc)); try (refine inK ?_; intro K hK))
  refine hneeds.runs.mono ?_
  rintro _ H2 ⟨rfl, lH2⟩
  have hP2 := hP1.le hC lH2
  have vsb2 := lH2 _ _ vsb
  have vth2 := hP2.th
  have vdb2 := hP2.day
  simp only [dayO] at vdb2
  clear hneeds hP1 vth vdb vsb vsb0 lH2
  ((try (refine @unH _ ?_; refine zX Axe ?_)); (try (refine hK _ _ ?_; clear hK K; (try simp only [nq, ↓reduceIte, Nat.reduceEqDiff]))); refine @unH _ ?_; refine zS Axe ?_; (repeat (refine inC ?_; intro hc)); try (refine inK ?_; intro K hK))
  (intro lb hlb; generalize hG : Hp.set _ lb _ = H3; have lH3 := Aqh hG hlb; have vlb := Aqf hG; clear hG)
  have hP3 := hP2.le hC lH3
  have nlS : ¬ S lb := fun h => hC.ex _ _ _ _ hP2.cl h hlb
  have nlm : lb ≠ mb := fun e => by obtain ⟨es, cl, h1, h2⟩ := hP2.known; rw [e, h1] at hlb; cases hlb
  have nla : lb ≠ ab := fun e => by have h := hP2.va; rw [<- e, hlb] at h; cases h
  have vsb3 := lH3 _ _ vsb2
  clear lH3 hP2 vsb2 vth2 vdb2 hlb
  ((try (refine @unH _ ?_; refine zX Axe ?_)); (try (refine hK _ _ ?_; clear hK K; (try simp only [nq, ↓reduceIte, Nat.reduceEqDiff]))); refine @unH _ ?_; refine zS Axe ?_; (repeat (refine inC ?_; intro hc)); try (refine inK ?_; intro K hK))
  refine Akf (fun a' H' => ∃ e, a' = act 65 e [] /\ e 1 = .pointer (some ⟨thisb, 0, none⟩) /\ e 2 = .pointer (some ⟨yb, 0, none⟩) /\ e 3 = .pointer (some ⟨ab, 0, none⟩) /\ e 4 = .pointer (some ⟨gb, 0, none⟩) /\ e 5 = .pointer (some ⟨sb, 0, none⟩) /\ e 8 = .bool (!m.testBit t.toNat && decide (pl <= Aqs m)) /\ e 9 = .slice (some ⟨lb, 0, none⟩) 1 1 /\ e 10 = .int .i64 (Azl m t : Nat) /\ H' = H3) ?_ ?_
  ·cases htb : m.testBit t.toNat
   ·have hcost : Azl m t = 1 := by simp [Azl, htb]
    rw [hcost]
    (refine @unH _ ?_; refine zA Axe ?_; (repeat (refine inC ?_; intro hc)); try (refine inK ?_; intro K hK))
    all_goals exact ⟨_, rfl, rfl, rfl, rfl, rfl, rfl, rfl, rfl, rfl, by trivial⟩
   ·have hcost : Azl m t = 0 := by simp [Azl, htb]
    rw [hcost]
    (refine @unH _ ?_; refine zA Axe ?_; (repeat (refine inC ?_; intro hc)); try (refine inK ?_; intro K hK))
    all_goals exact ⟨_, rfl, rfl, rfl, rfl, rfl, rfl, rfl, rfl, rfl, by trivial⟩
  ·rintro a' H' ⟨e, rfl, e1, e2, e3, e4, e5, e8, e9, e10, rfl⟩
   have vlb3 := vlb
   have hl1 : SlI H' (.slice (some ⟨lb, 0, none⟩) 1 1) [-1] := ⟨some ⟨lb, 0, none⟩, 1, rfl, by simp, fun i x hi => ⟨lb, 0, true, _, (0, 0), rfl, vlb3, by
    cases i with
    | zero => simp at hi; subst hi; rfl
    | succ i => simp at hi⟩⟩
   clear vlb vlb3
   refine Akf (fun a' H'' => ∃ e lv, a' = act 65 e [] /\ e 1 = .pointer (some ⟨thisb, 0, none⟩) /\ e 2 = .pointer (some ⟨yb, 0, none⟩) /\ e 3 = .pointer (some ⟨ab, 0, none⟩) /\ e 4 = .pointer (some ⟨gb, 0, none⟩) /\ e 5 = .pointer (some ⟨sb, 0, none⟩) /\ e 9 = lv /\ SlI H'' lv (Ax0 pl m t) /\ (∀ b, rowB lv = some b -> ¬ S b /\ b ≠ mb /\ b ≠ ab) /\ e 10 = .int .i64 (Azl m t : Nat) /\ H'.le H'') ?_ ?_
   ·cases hcan : (!m.testBit t.toNat && decide (pl <= Aqs m))
    ·have hopt : Ax0 pl m t = [-1] := by
      unfold Ax0
      split
      ·rfl
      ·rw [if_neg]
       rename_i h
       simpa [h] using hcan
     rw [hopt]
     rw [hcan] at e8
     clear hcan
     (refine @unH _ ?_; refine zA Axe ?_; (repeat (refine inC ?_; intro hc)); try (refine inK ?_; intro K hK))
     all_goals exact ⟨_, _, rfl, e1, e2, e3, e4, e5, e9, hl1, fun b hb => (by cases hb; exact ⟨nlS, nlm, nla⟩), e10, Hp.le_refl _⟩
    ·have hopt : Ax0 pl m t = Axz m := by
      simp only [Bool.and_eq_true, Bool.not_eq_true', decide_eq_true_eq] at hcan
      unfold Ax0
      rw [if_neg (by rw [hcan.1]; simp), if_pos hcan.2]
     rw [hopt]
     rw [hcan] at e8
     clear hcan hl1
     (refine @unH _ ?_; refine zA Axe ?_; (repeat (refine inC ?_; intro hc)); try (refine inK ?_; intro K hK))
     refine (Bkn main H' m hm).runs.mono ?_
     rintro _ H4 ⟨lv, rfl, hlv, lH4, hlf⟩
     obtain ⟨lva, lvc, rfl, _, _⟩ := id hlv
     ((try (refine @unH _ ?_; refine zX Axe ?_)); (try (refine hK _ _ ?_; clear hK K; (try simp only [nq, ↓reduceIte, Nat.reduceEqDiff]))); refine @unH _ ?_; refine zA Axe ?_; (repeat (refine inC ?_; intro hc)); try (refine inK ?_; intro K hK))
     all_goals exact ⟨_, _, rfl, e1, e2, e3, e4, e5, rfl, hlv, fun b hb => by
      have hbn : H' b = none := by
       cases lva with
       | none => cases hb
       | some x => cases hb; exact hlf _ _ _ rfl
      exact ⟨fun h => hC.ex _ _ _ _ hP3.cl h hbn, fun e => (by obtain ⟨es, cl, h1, h2⟩ := hP3.known; rw [e, h1] at hbn; cases hbn), fun e => (by have h := hP3.va; rw [<- e, hbn] at h; cases h)⟩, e10, lH4⟩
   ·rintro a' H4 ⟨e, lv, rfl, e1, e2, e3, e4, e5, e9, hlv, hlf, e10, lH4⟩
    have hP4 := hP3.le hC lH4
    have vsb4 := lH4 _ _ vsb3
    clear hP3 vsb3 lH4 hl1
    have hos6 : ∀ x ∈ Ax0 pl m t, -1 <= x /\ x < 6 := fun x hx => by
     unfold Ax0 at hx
     split at hx
     ·rw [List.mem_singleton.1 hx]; omega
     ·split at hx
      ·have := Az5 hx; omega
      ·rw [List.mem_singleton.1 hx]; omega
    have hol : (Ax0 pl m t).length <= 1000 := by
     unfold Ax0
     split
     ·simp
     ·split
      ·rw [Akz]; have := Aw4 m hm; omega
      ·simp
    have hbest := Bxt ts.length pl h1 t (ts.drop (c + 1)) m (by rw [<- hdrop, List.length_drop]; omega)
    have hbs : Axw ts.length pl (ts.drop c) m = (Ax0 pl m t).flatMap fun s => if Azl m t + optF ts.length pl (ts.drop (c + 1)) (Aqx m s t) <= optF ts.length pl (t :: ts.drop (c + 1)) m then (Axw ts.length pl (ts.drop (c + 1)) (Aqx m s t)).map (s :: ·) else [] := by
     rw [hdrop]; rfl
    have hcost : Azl m t <= 1 := by unfold Azl; split <;> omega
    obtain ⟨lva, lvc, rfl, _, _⟩ := id hlv
    generalize Ax0 pl m t = os at *
    generalize Azl m t = k at *
    obtain ⟨F, hF⟩ : ∃ F : Int -> List (List Int), F = fun s => if k + optF ts.length pl (ts.drop (c + 1)) (Aqx m s t) <= optF ts.length pl (t :: ts.drop (c + 1)) m then (Axw ts.length pl (ts.drop (c + 1)) (Aqx m s t)).map fun cs => xs.take c ++ (s :: cs) ++ xs.drop ts.length else [] := ⟨_, rfl⟩
    have hFS : (os.flatMap fun s => if k + optF ts.length pl (ts.drop (c + 1)) (Aqx m s t) <= optF ts.length pl (t :: ts.drop (c + 1)) m then (Axw ts.length pl (ts.drop (c + 1)) (Aqx m s t)).map (s :: ·) else []).map (fun cs => xs.take c ++ cs ++ xs.drop ts.length) = os.flatMap F := by
     rw [List.map_flatMap, hF]
     congr 1
     funext s
     split
     ·rw [List.map_map]; rfl
     ·rfl
    rw [<- hbs] at hFS
    replace hFS : Aqy _ := hFS
    replace hF : Aqy _ := hF
    replace hgo : Aqy _ := hgo
    replace hA : Aqy _ := hA
    replace ih : Aqy _ := ih
    clear hbs hbest
    (refine @unH _ ?_; refine zA Axe ?_; (repeat (refine inC ?_; intro hc)); try (refine inK ?_; intro K hK))
    refine Aq9 (fun w a' H' => ∃ e i ys, w = os.length - i /\ i <= os.length /\ a' = act 65 e [] /\ e 1 = .pointer (some ⟨thisb, 0, none⟩) /\ e 2 = .pointer (some ⟨yb, 0, none⟩) /\ e 3 = .pointer (some ⟨ab, 0, none⟩) /\ e 4 = .pointer (some ⟨gb, 0, none⟩) /\ e 5 = .pointer (some ⟨sb, 0, none⟩) /\ e 10 = .int .i64 k /\ e 37 = .slice lva os.length lvc /\ e 38 = .int .i64 os.length /\ e 39 = .int .i64 (i : Nat) /\ SlI H' (.slice lva os.length lvc) os /\ H' sb = some (true, .cells #[.int .i64 c, .int .u8 m] 105 (0, 0)) /\ Aqy (ys.take c = xs.take c /\ ys.drop ts.length = xs.drop ts.length) /\ Akk base S T (.func yf yi yc) pl pieces sv cv (.slice ta ts.length tc) ts thisb db mb yb ab gb true (L ++ (os.take i).flatMap F) ys H') (n := os.length) ?_ ?_
    ·exact ⟨_, 0, xs, by omega, by omega, rfl, e1, e2, e3, e4, e5, e10, rfl, rfl, rfl, hlv, vsb4, ⟨rfl, rfl⟩, by simpa using hP4⟩
    ·clear e1 e2 e3 e4 e5 e9 e10 hlv vsb4 hP4
     rintro w a' H5 ⟨e, i, ys, rfl, hi, rfl, e1, e2, e3, e4, e5, e10, e37, e38, e39, hlv, vsb5, hys, hP5⟩
     by_cases hlt2 : i < os.length
     ·obtain ⟨b6, o6, p6, c6, fr6, hlva, hb6, hc6⟩ := SlI.get hlv (List.getElem?_eq_getElem hlt2)
      have hsi := List.getElem?_eq_getElem hlt2
      have hs6 := hos6 os[i] (List.getElem_mem hlt2)
      generalize os[i] = s at *
      subst hlva
      have vth5 := hP5.th
      have hc6' : c6[o6 + (i : Int).toNat * 1]? = some (.int .i64 s) := by simpa using hc6
      have hnext := Akt main H5 db pl pieces sv cv _ ts mb hP5.day hP5.tr (by omega) c m s t hct ht6.1 ht6.2 hm hs6.2
      simp only [Av1] at hnext
      (refine @unH _ ?_; refine zA Axe ?_; (repeat (refine inC ?_; intro hc)); try (refine inK ?_; intro K hK))
      refine hnext.runs.mono ?_
      rintro _ H6 ⟨rfl, lH6⟩
      have hP6 := hP5.le hC lH6
      have vsb6 := lH6 _ _ vsb5
      have hlv6 := hlv.le lH6
      have hm' := Avc (sent := s) hm hs6.2 ht6.1 ht6.2
      clear hnext hP5 vsb5 hlv vth5 hb6 hc6 hc6' lH6
      ((try (refine @unH _ ?_; refine zX Axe ?_)); (try (refine hK _ _ ?_; clear hK K; (try simp only [nq, ↓reduceIte, Nat.reduceEqDiff]))); refine @unH _ ?_; refine zA Axe ?_; (repeat (refine inC ?_; intro hc)); try (refine inK ?_; intro K hK))
      (intro nb hnb; generalize hG : Hp.set _ nb _ = H7; have lH7 := Aqh hG hnb; have vnb := Aqf hG; clear hG)
      have hP7 := hP6.le hC lH7
      have vsb7 := lH7 _ _ vsb6
      have hlv7 := hlv6.le lH7
      have nnm : nb ≠ mb := fun e => by obtain ⟨es, cl, h1, h2⟩ := hP6.known; rw [e, h1] at hnb; cases hnb
      clear hP6 vsb6 hlv6 lH7 hnb
      ((try (refine @unH _ ?_; refine zX Axe ?_)); (try (refine hK _ _ ?_; clear hK K; (try simp only [nq, ↓reduceIte, Nat.reduceEqDiff]))); refine @unH _ ?_; refine zS Axe ?_; (repeat (refine inC ?_; intro hc)); try (refine inK ?_; intro K hK))
      have vth7 := hP7.th
      repeat refine Aql ?_
      refine Ayi (fun HX => HX thisb = some (true, .cells #[.pointer (some ⟨db, 0, none⟩)] 78 (0, 0)) /\ HX nb = some (true, .cells #[.int .i64 (c + 1 : Nat), .int .u8 (Aqx m s t : Nat)] 105 (0, 0)) /\ HX sb = some (true, .cells #[.int .i64 c, .int .u8 m] 105 (0, 0))) 9 [(true, 0), (true, 1), (true, 2), (true, 5), (true, 6), (false, 3), (true, 4), (false, 7), (true, 8)] (by kernel_rfl) (by kernel_rfl) (by simp) (by kernel_rfl) ?_; intro K hK
      (iterate 5 (apply Aja rfl rfl rfl (by exact ⟨vth7, vnb, vsb7⟩); (focus (intro HX hHX; have hX1 := hHX.1; have hX2 := hHX.2; clear hHX; simp -implicitDefEqProofs (disch := first | omega | (simp only [qd] <;> omega)) only [xq, ↓xp, qc, Nat.reduceAdd, List.range, List.range.loop, fine, Nat.reduceEqDiff, ↓reduceIte, yielded, reduceCtorEq, Nat.reduceLT, Nat.reduceMul, Nat.reduceSub, one, Nat.reduceLeDiff, Aqa, Axe, aq, ↓ap, qe0, qe1, qe2, *, -hK, Aq1] <;> (first | exact rfl | exact ⟨rfl, rfl⟩ | exact ⟨rfl, trivial⟩))); simp -implicitDefEqProofs (disch := first | omega | (simp only [qd] <;> omega)) only [Aqn, Aqc]))
      refine Ajk ?_
      (refine @unH _ ?_; refine zX Axe ?_)
      have hl1 := Ajr main db pl pieces sv cv _ ts mb hdm (by omega) hts6 (ts.length - (c + 1)) (c + 1) (Aqx m s t) H7 rfl (by omega) hm' hP7.day hP7.tr hP7.known
      simp only [Av1] at hl1
      refine hl1.runs.mono ?_
      rintro _ H8 ⟨rfl, hL8, hk8⟩
      have hP8 := hP7.lex hC hL8 hk8
      have vnb8 := hL8.keeps vnb nnm
      have vsb8 := hL8.keeps vsb7 nsm
      have vth8 := hP8.th
      have hlv8 := hlv7.lexMap hL8 (show H7 mb = some (true, _) from (Classical.choose_spec (Classical.choose_spec hP7.known)).1)
      clear hl1 hP7 vnb vsb7 vth7 hlv7 hL8 hk8
      (refine @unH _ ?_; refine zX Axe ?_)
      refine ⟨.inr trivial, ?_⟩
      have w1 : IntKind.i64.wrap ((k : Int) + (optF ts.length pl (ts.drop (c + 1)) (Aqx m s t) : Nat)) = (k : Int) + (optF ts.length pl (ts.drop (c + 1)) (Aqx m s t) : Nat) := w64 _ (by omega) (by have := Bqh ts.length pl (ts.drop (c + 1)) (Aqx m s t); have := List.length_drop (i := c + 1) (l := ts); omega)
      (iterate 1 (apply Aja rfl rfl rfl (by exact ⟨vth8, vnb8, vsb8⟩); (focus (intro HX hHX; have hX1 := hHX.1; have hX2 := hHX.2; clear hHX; simp -implicitDefEqProofs (disch := first | omega | (simp only [qd] <;> omega)) only [xq, ↓xp, qc, Nat.reduceAdd, List.range, List.range.loop, fine, Nat.reduceEqDiff, ↓reduceIte, yielded, reduceCtorEq, Nat.reduceLT, Nat.reduceMul, Nat.reduceSub, one, Nat.reduceLeDiff, Aqa, Axe, aq, ↓ap, qe0, qe1, qe2, *, -hK, Aq1] <;> (first | exact rfl | exact ⟨rfl, rfl⟩ | exact ⟨rfl, trivial⟩))); simp -implicitDefEqProofs (disch := first | omega | (simp only [qd] <;> omega)) only [Aqn, Aqc]))
      refine Ajk ?_
      (refine @unH _ ?_; refine zX Axe ?_)
      have hl2 := Ajr main db pl pieces sv cv _ ts mb hdm (by omega) hts6 (ts.length - c) c m H8 rfl (by omega) hm hP8.day hP8.tr hP8.known
      simp only [Av1] at hl2
      refine hl2.runs.mono ?_
      rintro _ H9 ⟨rfl, hL9, hk9⟩
      have hP9 := hP8.lex hC hL9 hk9
      have vnb9 := hL9.keeps vnb8 nnm
      have vsb9 := hL9.keeps vsb8 nsm
      have vth9 := hP9.th
      have hlv9 := hlv8.lexMap hL9 (show H8 mb = some (true, _) from (Classical.choose_spec (Classical.choose_spec hP8.known)).1)
      clear hl2 hP8 vnb8 vsb8 vth8 hlv8 hL9 hk9
      rw [hdrop]
      (refine @unH _ ?_; refine zX Axe ?_)
      refine ⟨.inr trivial, ?_⟩
      (iterate 1 (apply Aja rfl rfl rfl (by exact ⟨vth9, vnb9, vsb9⟩); (focus (intro HX hHX; have hX1 := hHX.1; have hX2 := hHX.2; clear hHX; simp -implicitDefEqProofs (disch := first | omega | (simp only [qd] <;> omega)) only [xq, ↓xp, qc, Nat.reduceAdd, List.range, List.range.loop, fine, Nat.reduceEqDiff, ↓reduceIte, yielded, reduceCtorEq, Nat.reduceLT, Nat.reduceMul, Nat.reduceSub, one, Nat.reduceLeDiff, Aqa, Axe, aq, ↓ap, qe0, qe1, qe2, *, -hK, Aq1] <;> (first | exact rfl | exact ⟨rfl, rfl⟩ | exact ⟨rfl, trivial⟩))); simp -implicitDefEqProofs (disch := first | omega | (simp only [qd] <;> omega)) only [Aqn, Aqc]))
      refine Axx (hK _ _ ?_)
      clear hK K w1
      (try simp only [nq, ↓reduceIte, Nat.reduceEqDiff])
      by_cases hbad : k + optF ts.length pl (ts.drop (c + 1)) (Aqx m s t) <= optF ts.length pl (t :: ts.drop (c + 1)) m
      ·
       have vab9 := hP9.va
       have vgb9 := hP9.vg
       have hxl := hP9.l8
       have hil : (ints ys).length = 8 := by rw [Axi]; exact hxl
       have hc8 : c < (ints ys).length := by omega
       have nga : gb ≠ ab := fun e => by rw [e, vab9] at vgb9; simp at vgb9
       have nsa : sb ≠ ab := fun e => by rw [e, vab9] at vsb9; simp at vsb9
       have nna : nb ≠ ab := fun e => by rw [e, vab9] at vnb9; simp at vnb9
       have hset : (ints ys).set c (.int .i64 s) = ints (ys.set c s) := Az3 _ _ _
       have hFs : Aqy (F s = (Axw ts.length pl (ts.drop (c + 1)) (Aqx m s t)).map fun cs => xs.take c ++ (s :: cs) ++ xs.drop ts.length) := by
        have h : F = _ := hF
        show F s = _
        rw [h]
        simp only [hbad, if_true]
       (refine @unH _ ?_; refine zA Axe ?_; (repeat (refine inC ?_; intro hc)); try (refine inK ?_; intro K hK))
       have hP10 : Akk base S T (.func yf yi yc) pl pieces sv cv (.slice ta ts.length tc) ts thisb db mb yb ab gb true (L ++ (os.take i).flatMap F) (ys.set c s) (H9.set ab (.cells (ints (ys.set c s)).toArray 85 (0, 0))) := hP9.put hC c s
       have hlv10 : SlI (H9.set ab (.cells (ints (ys.set c s)).toArray 85 (0, 0))) (.slice (some ⟨b6, o6, none⟩) os.length lvc) os := hlv9.set fun p c fr h => by rw [vab9] at h; cases h
       have vsb10 : (H9.set ab (.cells (ints (ys.set c s)).toArray 85 (0, 0))) sb = _ := (Aqp nsa).trans vsb9
       have hP10b : Akk (H9.set ab (.cells (ints (ys.set c s)).toArray 85 (0, 0))) S T (.func yf yi yc) pl pieces sv cv (.slice ta ts.length tc) ts thisb db mb yb ab gb true (L ++ (os.take i).flatMap F) (ys.set c s) (H9.set ab (.cells (ints (ys.set c s)).toArray 85 (0, 0))) := { hP10 with fr := fun b x _ _ _ hx => hx }
       generalize H9.set ab (.cells (ints (ys.set c s)).toArray 85 (0, 0)) = H10 at *
       clear nna vnb9 vsb9 vgb9 hlv9 vth9 vab9 nga hP9 hset
       have hrec := (show ∀ n', n' < n -> _ from ih) (ts.length - (c + 1)) (by omega) (c + 1) (Aqx m s t) H10 (ys.set c s) _ H10 rfl (by omega) hm' hP10b
       rw [Bzo, Ax9]
       simp only [Array.empty_append, List.append_toArray, List.cons_append, List.nil_append]
       simp only [Av1] at hrec
       refine hrec.runs.mono ?_
       rintro _ H11 ⟨rfl, zs, hz1, hz2, hP11⟩
       obtain ⟨hy1, hy2⟩ := (show ys.take c = xs.take c /\ ys.drop ts.length = xs.drop ts.length from hys)
       have hlv11 := hlv10.kept (fun _ b x hb hx => hP11.fr b x (hlf b hb).1 (hlf b hb).2.1 (hlf b hb).2.2 hx)
       have vsb11 := hP11.fr sb _ nsb nsm nsa vsb10
       have hP12 : Akk base S T (.func yf yi yc) pl pieces sv cv (.slice ta ts.length tc) ts thisb db mb yb ab gb true (L ++ (os.take (i + 1)).flatMap F) zs H11 := by
        have h12 : Akk base S T (.func yf yi yc) pl pieces sv cv (.slice ta ts.length tc) ts thisb db mb yb ab gb true _ zs H11 := { hP11 with fr := fun b x h0 h1 h2 hx => hP11.fr b x h0 h1 h2 (hP10.fr b x h0 h1 h2 hx) }
        have hl : L ++ (os.take (i + 1)).flatMap F = L ++ (os.take i).flatMap F ++ (Axw ts.length pl (ts.drop (c + 1)) (Aqx m s t)).map fun cs => (ys.set c s).take (c + 1) ++ cs ++ (ys.set c s).drop ts.length := by
         rw [List.take_add_one, hsi, Option.toList_some, List.flatMap_append, List.flatMap_singleton, show F s = _ from hFs, List.append_assoc, List.drop_set_of_lt (by omega), Awk _ _ _ (by omega), hy1, hy2]
         simp
        rw [hl]
        exact h12
       have hzs : Aqy (zs.take c = xs.take c /\ zs.drop ts.length = xs.drop ts.length) := by
        refine ⟨?_, ?_⟩
        ·have := congrArg (List.take c) hz1
         rw [List.take_take, List.take_take, Nat.min_eq_left (by omega), List.take_set_of_le (Nat.le_refl _)] at this
         exact this.trans hy1
        ·rw [hz2, List.drop_set_of_lt (by omega)]; exact hy2
       clear hrec hP10 hP10b hP11 hlv10 vsb10 hz1 hz2 hy1 hy2 hFs
       ((try (refine @unH _ ?_; refine zX Axe ?_)); (try (refine hK _ _ ?_; clear hK K; (try simp only [nq, ↓reduceIte, Nat.reduceEqDiff]))); refine @unH _ ?_; refine zA Axe ?_; (repeat (refine inC ?_; intro hc)); try (refine inK ?_; intro K hK))
       refine ⟨_, ?_, _, i + 1, zs, rfl, by omega, rfl, e1, e2, e3, e4, e5, e10, e37, e38, rfl, hlv11, vsb11, hzs, hP12⟩
       omega
      ·have hFs : F s = [] := by
        have h : F = _ := hF
        rw [h]
        simp only [hbad, if_false]
       have hP12 : Akk base S T (.func yf yi yc) pl pieces sv cv (.slice ta ts.length tc) ts thisb db mb yb ab gb true (L ++ (os.take (i + 1)).flatMap F) ys H9 := by
        rw [List.take_add_one, hsi, Option.toList_some, List.flatMap_append, List.flatMap_singleton, hFs, List.append_nil]
        exact hP9
       replace hFs : Aqy _ := hFs
       (refine @unH _ ?_; refine zA Axe ?_; (repeat (refine inC ?_; intro hc)); try (refine inK ?_; intro K hK))
       refine ⟨_, ?_, _, i + 1, ys, rfl, by omega, rfl, e1, e2, e3, e4, e5, e10, e37, e38, rfl, hlv9, vsb9, hys, hP12⟩
       omega
     ·obtain rfl : i = os.length := by omega
      (refine @unH _ ?_; refine zA Axe ?_; (repeat (refine inC ?_; intro hc)); try (refine inK ?_; intro K hK))
      (refine @unH _ ?_; refine z9 Tryz.results117 ?_)
      obtain ⟨hy1, hy2⟩ := (show ys.take c = xs.take c /\ ys.drop ts.length = xs.drop ts.length from hys)
      refine ⟨by trivial, ys, hy1, hy2, ?_⟩
      have h : _ = os.flatMap F := hFS
      rw [h]
      rw [List.take_length] at hP5
      exact hP5
end Go.Proofs.YtgniilnljeedlaaGreatDoor
end
