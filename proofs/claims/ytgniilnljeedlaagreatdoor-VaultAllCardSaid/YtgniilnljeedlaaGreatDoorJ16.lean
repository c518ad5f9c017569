/- Texts Choose Best. -/
import Derived.Test.YtgniilnljeedlaaGreatDoorJ15
set_option linter.defProp false
set_option linter.unusedSimpArgs false
set_option linter.unusedVariables false
set_option maxRecDepth 100000
set_option maxHeartbeats 2000000
section
namespace Go.Proofs.YtgniilnljeedlaaGreatDoor
open Go Go.X
def Axj := And.intro (fun H => Aqh (H := H) Tryz.underlying105 (i := 0) rfl (off := 0) rfl Tryz.sizeOf3) (And.intro (fun H => Aqd (H := H) Tryz.underlying3 rfl) (And.intro (fun H => Aqd (H := H) Tryz.underlying78 rfl) (And.intro (fun H => Aqh (H := H) Tryz.underlying97 (i := 1) rfl (off := 4) rfl Tryz.sizeOf22) (And.intro (fun H => Aqd (H := H) Tryz.underlying22 rfl) (And.intro (fun H => Aq5 (H := H) Tryz.underlying22) (And.intro (fun H => Aqd (H := H) Tryz.underlying158 rfl) (And.intro (fun H => Aqx (H := H) Tryz.underlying85 rfl Tryz.sizeOf85) (And.intro (fun H => Aqx (H := H) Tryz.underlying105 rfl Tryz.sizeOf105) (And.intro @Bzl (And.intro @Axp (And.intro (fun H => Aqh (H := H) Tryz.underlying105 (i := 1) rfl (off := 1) rfl Tryz.sizeOf92) (And.intro (fun H => Aqd (H := H) Tryz.underlying92 rfl) (And.intro @Bzm (And.intro (fun H => Aqq (H := H) Tryz.underlying22 Tryz.sizeOf3) (And.intro @Bzn (And.intro (fun H => Aq1 (H := H) (P := Tryz.prog) (h := Tryz.zeroValue105)) (And.intro (fun H => Aq3 (H := H) Tryz.sizeOf105) (And.intro @Bqa (And.intro (fun H => Ax6 (H := H) Tryz.underlying85 Tryz.sizeOf3) (And.intro (fun H => Axo (H := H) Tryz.sizeOf3) (fun H => Aqd (H := H) Tryz.underlying159 rfl)))))))))))))))))))))
theorem Awt (main : Md) (H : Hp) (db : Nat) :
  FnX Tryz.prog main 86 #[.pointer (some ⟨db, 0, none⟩)] H fun e H' => ∃ thisb, e = .returned (.func (.func 116) #[] #[.pointer (some ⟨thisb, 0, none⟩)]) /\ H' thisb = some (true, .cells #[.pointer (some ⟨db, 0, none⟩)] 78 (0, 0)) /\ H.le H' := by
 refine Aqk Tryz.func86 rfl Tryz.ntmps86 (by simp) ?_
 (refine @unH _ ?_; refine zA trivial ?_; (repeat (refine inC ?_; intro hc)); try (refine inK ?_; intro K hK))
 (intro thisb hthisb; generalize hG : Hp.set _ thisb _ = H1; have lH1 := Aqg hG hthisb; have vthisb := Aqf hG; clear hG)
 ((try (refine @unH _ ?_; refine zX trivial ?_)); (try (refine hK _ _ ?_; clear hK K; (try simp only [nq, ↓reduceIte, Nat.reduceEqDiff]))); refine @unH _ ?_; refine zA trivial ?_; (repeat (refine inC ?_; intro hc)); try (refine inK ?_; intro K hK))
 (refine @unH _ ?_; refine z9 Tryz.results86 ?_)
 exact ⟨thisb, rfl, vthisb, lH1⟩
theorem SlI.kept {H H' : Hp} {v : Value} {xs : List Int} (h : SlI H v xs) (hk : xs ≠ [] -> ∀ b x, rowB v = some b -> H b = some x -> H' b = some x) : SlI H' v xs := by
 obtain ⟨a, cap, rfl, hc, hg⟩ := h
 refine ⟨a, cap, rfl, hc, fun i x hi => ?_⟩
 obtain ⟨b, o, p, c, fr, rfl, hb, hx⟩ := hg i x hi
 exact ⟨b, o, p, c, fr, rfl, hk (fun e => by rw [e] at hi; simp at hi) b _ rfl hb, hx⟩
structure Akk (base : Hp) (S : Nat -> Prop) (T : Bool -> List (List Int) -> Hp -> Prop) (y : Value) (pl pieces : Int) (sv cv tv : Value) (ts : List Int) (thisb db mb yb ab gb : Nat) (t : Bool) (L : List (List Int)) (xs : List Int) (H : Hp) : Prop where
 cl : T t L H
 th : H thisb = some (true, .cells #[.pointer (some ⟨db, 0, none⟩)] 78 (0, 0))
 day : H db = some (true, dayO pl pieces sv cv tv mb)
 tr : SlI H tv ts
 known : Aj2 H mb ts.length pl ts
 vy : H yb = some (true, .cells #[y] 158 (0, 0))
 va : H ab = some (true, .cells (ints xs).toArray 85 (0, 0))
 vg : H gb = some (true, .cells #[.func (.func 117) #[] #[.pointer (some ⟨thisb, 0, none⟩), .pointer (some ⟨yb, 0, none⟩), .pointer (some ⟨ab, 0, none⟩), .pointer (some ⟨gb, 0, none⟩)]] 159 (0, 0))
 l8 : xs.length = 8
 nth : ¬ S thisb
 nd : ¬ S db
 nm : ¬ S mb
 nt : ts ≠ [] -> ∀ b, rowB tv = some b -> ¬ S b
 ny : ¬ S yb
 na : ¬ S ab
 ng : ¬ S gb
 fr : ∀ b x, ¬ S b -> b ≠ mb -> b ≠ ab -> base b = some x -> H b = some x
theorem Akk.le {base : Hp} {P : Program} {main : Md} {S : Nat -> Prop} {A : List Int -> Prop} {arg : Hp -> Value -> List Int -> Prop} {T : Bool -> List (List Int) -> Hp -> Prop} {y : Value} {pl pieces : Int} {sv cv tv : Value} {ts : List Int} {thisb db mb yb ab gb : Nat} {t : Bool} {L : List (List Int)} {xs : List Int} {H H' : Hp}
  (hP : Akk base S T y pl pieces sv cv tv ts thisb db mb yb ab gb t L xs H) (hC : Akn P main y S arg A T) (hl : H.le H') : Akk base S T y pl pieces sv cv tv ts thisb db mb yb ab gb t L xs H' := by
 refine { hP with cl := hC.keep _ _ _ _ hP.cl (fun b x _ hx => hl _ _ hx), th := hl _ _ hP.th, day := hl _ _ hP.day, tr := hP.tr.le hl, known := ?_, vy := hl _ _ hP.vy, va := hl _ _ hP.va, vg := hl _ _ hP.vg, fr := fun b x h0 h1 h2 hx => hl _ _ (hP.fr b x h0 h1 h2 hx) }
 obtain ⟨es, cl, h1, h2⟩ := hP.known
 exact ⟨es, cl, hl _ _ h1, h2⟩
theorem Akk.lex {base : Hp} {P : Program} {main : Md} {S : Nat -> Prop} {A : List Int -> Prop} {arg : Hp -> Value -> List Int -> Prop} {T : Bool -> List (List Int) -> Hp -> Prop} {y : Value} {pl pieces : Int} {sv cv tv : Value} {ts : List Int} {thisb db mb yb ab gb : Nat} {t : Bool} {L : List (List Int)} {xs : List Int} {H H' : Hp}
  (hP : Akk base S T y pl pieces sv cv tv ts thisb db mb yb ab gb t L xs H) (hC : Akn P main y S arg A T) (hl : Lex (some mb) H H') (hk : Aj2 H' mb ts.length pl ts) : Akk base S T y pl pieces sv cv tv ts thisb db mb yb ab gb t L xs H' := by
 obtain ⟨es, cl, h1, h2⟩ := id hP.known
 have hh : ∀ b p c e fr, H b = some (p, .cells c e fr) -> H' b = some (p, .cells c e fr) := fun b p c e fr hx => hl.keeps hx fun e' => by rw [e', h1] at hx; cases hx
 exact { hP with cl := hC.keep _ _ _ _ hP.cl (fun b x hb hx => hl.keeps hx fun e => hP.nm (e ▸ hb)), th := hh _ _ _ _ _ hP.th, day := hh _ _ _ _ _ hP.day, tr := hP.tr.lexMap hl h1, known := hk, vy := hh _ _ _ _ _ hP.vy, va := hh _ _ _ _ _ hP.va, vg := hh _ _ _ _ _ hP.vg, fr := fun b x h0 h1 h2 hx => hl.keeps (hP.fr b x h0 h1 h2 hx) h1 }
theorem Akk.put {base : Hp} {P : Program} {main : Md} {S : Nat -> Prop} {A : List Int -> Prop} {arg : Hp -> Value -> List Int -> Prop} {T : Bool -> List (List Int) -> Hp -> Prop} {y : Value} {pl pieces : Int} {sv cv tv : Value} {ts : List Int} {thisb db mb yb ab gb : Nat} {t : Bool} {L : List (List Int)} {xs : List Int} {H : Hp}
  (hP : Akk base S T y pl pieces sv cv tv ts thisb db mb yb ab gb t L xs H) (hC : Akn P main y S arg A T) (c : Nat) (s : Int) : Akk base S T y pl pieces sv cv tv ts thisb db mb yb ab gb t L (xs.set c s) (H.set ab (.cells (ints (xs.set c s)).toArray 85 (0, 0))) := by
 have va := hP.va
 have hk : ∀ b x, H b = some x -> (∀ c, x ≠ (true, .cells c 85 (0, 0))) -> (H.set ab (.cells (ints (xs.set c s)).toArray 85 (0, 0))) b = some x := fun b x hx hn => by
  rw [Aqp (fun e => hn (ints xs).toArray (by rw [e, va] at hx; exact (Option.some.inj hx).symm))]; exact hx
 obtain ⟨es, cl, h1, h2⟩ := hP.known
 exact { hP with cl := hC.keep _ _ _ _ hP.cl (fun b x hb hx => by rw [Aqp (fun e : b = ab => hP.na (by rw [<- e]; exact hb))]; exact hx), th := hk _ _ hP.th (fun c e => by cases e), day := hk _ _ hP.day (fun c e => by cases e), tr := hP.tr.set (fun p c fr e => by rw [va] at e; cases e), known := ⟨es, cl, hk _ _ h1 (fun c e => by cases e), h2⟩, vy := hk _ _ hP.vy (fun c e => by cases e), va := Aqw, vg := hk _ _ hP.vg (fun c e => by cases e), l8 := by rw [List.length_set]; exact hP.l8, fr := fun b x h0 h1 h2 hx => by rw [Aqp h2]; exact hP.fr b x h0 h1 h2 hx }
theorem Ck8 {α : Type} {p : α -> Bool} : ∀ {l : List α} {i : Nat} {x : α}, l[i]? = some x -> p x = true -> (∀ j y, j < i -> l[j]? = some y -> p y = false) -> l.find? p = some x
 | [], _, _, h, _, _ => by simp at h
 | a :: l, 0, x, h, hp, _ => by
  simp only [List.getElem?_cons_zero, Option.some.injEq] at h
  subst h
  simp [hp]
 | a :: l, i + 1, x, h, hp, hn => by
  have ha := hn 0 a (by omega) rfl
  rw [List.find?_cons, ha]
  exact Ck8 (l := l) (i := i) (by simpa using h) hp fun j y hj hy => hn (j + 1) y (by omega) (by simpa using hy)
theorem Awe {α : Type} (xs : List α) (c : Nat) (s : α) (h : c < xs.length) : (xs.set c s).take (c + 1) = xs.take c ++ [s] := by
 rw [List.take_add_one, List.getElem?_set_self h, List.take_set_of_le (Nat.le_refl _)]
 rfl
theorem choose_spec (main : Md) {base : Hp} {S : Nat -> Prop} {A : List Int -> Prop} {T : Bool -> List (List Int) -> Hp -> Prop} {yf : Fn} {yi yc : Array Value} {pl pieces : Int} {sv cv tv : Value} {ts : List Int} {thisb db mb yb ab gb : Nat} (hdm : db ≠ mb) (hln : ts.length <= 8) (hts6 : ∀ t ∈ ts, 0 <= t /\ t < 6) (h1 : 1 <= pl)
  (hC : Akn Tryz.prog main (.func yf yi yc) S (fun H v xs => v = .agg (ints xs).toArray) A T) (hstop : ∀ l H, ¬ T true [l] H) :
  ∀ (n c m : Nat) (xs : List Int) (H : Hp), ts.length - c = n -> c <= ts.length -> m < 64 -> Akk base S T (.func yf yi yc) pl pieces sv cv tv ts thisb db mb yb ab gb true [] xs H -> A (xs.take c ++ Aj9 ts.length pl (ts.drop c) m ++ xs.drop ts.length) ->
   FnX Tryz.prog main 117 #[Avv c m, .pointer (some ⟨thisb, 0, none⟩), .pointer (some ⟨yb, 0, none⟩), .pointer (some ⟨ab, 0, none⟩), .pointer (some ⟨gb, 0, none⟩)] H fun e H' => e = .returned (.bool false) /\
    ∃ xs', xs' = xs.take c ++ Aj9 ts.length pl (ts.drop c) m ++ xs.drop ts.length /\ Akk base S T (.func yf yi yc) pl pieces sv cv tv ts thisb db mb yb ab gb false [xs'] xs' H' := by
 intro n
 induction n using Nat.strongRecOn with
 | _ n ih =>
 intro c m xs H hn hc hm hP hA
 simp only [Avv]
 refine Aqk Tryz.func117 rfl Tryz.ntmps117 (by simp) ?_
 (refine @unH _ ?_; refine zS Axj ?_; (repeat (refine inC ?_; intro hc)); try (refine inK ?_; intro K hK))
 (intro sb hsb; generalize hG : Hp.set _ sb _ = H1; have lH1 := Aqg hG hsb; have vsb := Aqf hG; clear hG)
 have hP1 := hP.le hC lH1
 have nsb : ¬ S sb := fun h => hC.ex _ _ _ _ hP.cl h hsb
 have nsm : sb ≠ mb := fun e => by obtain ⟨es, cl, h1, h2⟩ := hP.known; rw [e, h1] at hsb; cases hsb
 clear hP lH1 hsb
 ((try (refine @unH _ ?_; refine zX Axj ?_)); (try (refine hK _ _ ?_; clear hK K; (try simp only [nq, ↓reduceIte, Nat.reduceEqDiff]))); refine @unH _ ?_; refine zS Axj ?_; (repeat (refine inC ?_; intro hc)); try (refine inK ?_; intro K hK))
 have vsb0 := vsb
 have vth := hP1.th
 have vdb := hP1.day
 obtain ⟨ta, tc, rfl, htc, _⟩ := id hP1.tr
 simp only [dayO] at vdb
 refine Axq (Aql (Aql ?_))
 (refine Az2 8 [(true, 0), (true, 1), (true, 2), (true, 3), (true, 4), (true, 5), (true, 6), (true, 7)] (by kernel_rfl) (by kernel_rfl) (by simp) (by kernel_rfl) ?_; intro K hK; (iterate 8 (refine @unH _ ?_; refine z3 Axj ?_)); refine Ax1 (hK _ _ ?_); clear hK K; (try simp only [nq, ↓reduceIte, Nat.reduceEqDiff]))
 by_cases hce : c = ts.length
 ·subst hce
  have vyb := hP1.vy
  have vab := hP1.va
  (refine @unH _ ?_; refine zA Axj ?_; (repeat (refine inC ?_; intro hc)); try (refine inK ?_; intro K hK))
  have htk : List.take 8 (ints xs) = ints xs := List.take_of_length_le (by rw [Aq7, hP1.l8]; omega)
  have hall : xs.take ts.length ++ Aj9 ts.length pl (ts.drop ts.length) m ++ xs.drop ts.length = xs := by
   rw [List.drop_length]
   simp [Aj9]
  rw [hall] at hA
  rw [htk]
  refine ⟨by rw [Aq7, hP1.l8]; omega, Bj3.use (hC.call [] H1 _ xs hP1.cl rfl hA) ?_⟩
  rintro _ H2 ⟨t, rfl, hT, hk⟩
  cases t with
  | true => exact absurd hT (hstop xs H2)
  | false =>
   have hP2 : Akk base S T (.func yf yi yc) pl pieces sv cv (.slice ta ts.length tc) ts thisb db mb yb ab gb false [xs] xs H2 := by
    refine { hP1 with cl := hT, th := hk _ _ hP1.nth hP1.th, day := hk _ _ hP1.nd hP1.day, tr := hP1.tr.kept (fun hne b x hb hx => hk _ _ (hP1.nt hne b hb) hx), known := ?_, vy := hk _ _ hP1.ny hP1.vy, va := hk _ _ hP1.na hP1.va, vg := hk _ _ hP1.ng hP1.vg, fr := fun b x h0 h1 h2 hx => hk _ _ h0 (hP1.fr b x h0 h1 h2 hx) }
    obtain ⟨es, cl, h1, h2⟩ := hP1.known
    exact ⟨es, cl, hk _ _ hP1.nm h1, h2⟩
   clear hk hall htk vyb vab vth vdb vsb vsb0 hP1 hA
   ((try (refine @unH _ ?_; refine zX Axj ?_)); (try (refine hK _ _ ?_; clear hK K; (try simp only [nq, ↓reduceIte, Nat.reduceEqDiff]))); refine @unH _ ?_; refine zA Axj ?_; (repeat (refine inC ?_; intro hc)); try (refine inK ?_; intro K hK))
   (refine @unH _ ?_; refine z9 Tryz.results117 ?_)
   exact ⟨by trivial, xs, by rw [List.drop_length]; simp [Aj9], hP2⟩
 ·have hlt : c < ts.length := by omega
  have hct : ts[c]? = some ts[c] := List.getElem?_eq_getElem hlt
  have hdrop : ts.drop c = ts[c] :: ts.drop (c + 1) := List.drop_eq_getElem_cons hlt
  generalize ts[c] = t at hct hdrop
  have ht6 := hts6 t (List.mem_of_getElem? hct)
  have hneeds := Ayi main H1 db pl pieces sv cv _ ts mb hP1.day hP1.tr c m t hct ht6.1 ht6.2 hm
  (refine @unH _ ?_; refine zS Axj ?_; (repeat (refine inC ?_; intro hc)); try (refine inK ?_; intro K hK))
  refine hneeds.runs.mono ?_
  rintro _ H2 ⟨rfl, lH2⟩
  have hP2 := hP1.le hC lH2
  have vsb2 := lH2 _ _ vsb
  have vth2 := hP2.th
  have vdb2 := hP2.day
  simp only [dayO] at vdb2
  clear hneeds hP1 vth vdb vsb vsb0 lH2
  ((try (refine @unH _ ?_; refine zX Axj ?_)); (try (refine hK _ _ ?_; clear hK K; (try simp only [nq, ↓reduceIte, Nat.reduceEqDiff]))); refine @unH _ ?_; refine zS Axj ?_; (repeat (refine inC ?_; intro hc)); try (refine inK ?_; intro K hK))
  (intro lb hlb; generalize hG : Hp.set _ lb _ = H3; have lH3 := Aqg hG hlb; have vlb := Aqf hG; clear hG)
  have hP3 := hP2.le hC lH3
  have vsb3 := lH3 _ _ vsb2
  clear lH3 hP2 vsb2 vth2 vdb2 hlb
  ((try (refine @unH _ ?_; refine zX Axj ?_)); (try (refine hK _ _ ?_; clear hK K; (try simp only [nq, ↓reduceIte, Nat.reduceEqDiff]))); refine @unH _ ?_; refine zS Axj ?_; (repeat (refine inC ?_; intro hc)); try (refine inK ?_; intro K hK))
  refine Akf (fun a' H' => ∃ e, a' = act 65 e [] /\ e 1 = .pointer (some ⟨thisb, 0, none⟩) /\ e 2 = .pointer (some ⟨yb, 0, none⟩) /\ e 3 = .pointer (some ⟨ab, 0, none⟩) /\ e 4 = .pointer (some ⟨gb, 0, none⟩) /\ e 5 = .pointer (some ⟨sb, 0, none⟩) /\ e 8 = .bool (!m.testBit t.toNat && decide (pl <= Aq4 m)) /\ e 9 = .slice (some ⟨lb, 0, none⟩) 1 1 /\ e 10 = .int .i64 (Azf m t : Nat) /\ H' = H3) ?_ ?_
  ·cases htb : m.testBit t.toNat
   ·have hcost : Azf m t = 1 := by simp [Azf, htb]
    rw [hcost]
    (refine @unH _ ?_; refine zA Axj ?_; (repeat (refine inC ?_; intro hc)); try (refine inK ?_; intro K hK))
    all_goals exact ⟨_, rfl, rfl, rfl, rfl, rfl, rfl, rfl, rfl, rfl, by trivial⟩
   ·have hcost : Azf m t = 0 := by simp [Azf, htb]
    rw [hcost]
    (refine @unH _ ?_; refine zA Axj ?_; (repeat (refine inC ?_; intro hc)); try (refine inK ?_; intro K hK))
    all_goals exact ⟨_, rfl, rfl, rfl, rfl, rfl, rfl, rfl, rfl, rfl, by trivial⟩
  ·rintro a' H' ⟨e, rfl, e1, e2, e3, e4, e5, e8, e9, e10, rfl⟩
   have vlb3 := vlb
   have hl1 : SlI H' (.slice (some ⟨lb, 0, none⟩) 1 1) [-1] := ⟨some ⟨lb, 0, none⟩, 1, rfl, by simp, fun i x hi => ⟨lb, 0, true, _, (0, 0), rfl, vlb3, by
    cases i with
    | zero => simp at hi; subst hi; rfl
    | succ i => simp at hi⟩⟩
   clear vlb vlb3
   refine Akf (fun a' H'' => ∃ e lv, a' = act 65 e [] /\ e 1 = .pointer (some ⟨thisb, 0, none⟩) /\ e 2 = .pointer (some ⟨yb, 0, none⟩) /\ e 3 = .pointer (some ⟨ab, 0, none⟩) /\ e 4 = .pointer (some ⟨gb, 0, none⟩) /\ e 5 = .pointer (some ⟨sb, 0, none⟩) /\ e 9 = lv /\ SlI H'' lv (Axz pl m t) /\ e 10 = .int .i64 (Azf m t : Nat) /\ H'.le H'') ?_ ?_
   ·cases hcan : (!m.testBit t.toNat && decide (pl <= Aq4 m))
    ·have hopt : Axz pl m t = [-1] := by
      unfold Axz
      split
      ·rfl
      ·rw [if_neg]
       rename_i h
       simpa [h] using hcan
     rw [hopt]
     rw [hcan] at e8
     clear hcan
     (refine @unH _ ?_; refine zA Axj ?_; (repeat (refine inC ?_; intro hc)); try (refine inK ?_; intro K hK))
     all_goals exact ⟨_, _, rfl, e1, e2, e3, e4, e5, e9, hl1, e10, Hp.le_refl _⟩
    ·have hopt : Axz pl m t = Ax4 m := by
      simp only [Bool.and_eq_true, Bool.not_eq_true', decide_eq_true_eq] at hcan
      unfold Axz
      rw [if_neg (by rw [hcan.1]; simp), if_pos hcan.2]
     rw [hopt]
     rw [hcan] at e8
     clear hcan hl1
     (refine @unH _ ?_; refine zA Axj ?_; (repeat (refine inC ?_; intro hc)); try (refine inK ?_; intro K hK))
     refine (Bjd main H' m hm).runs.mono ?_
     rintro _ H4 ⟨lv, rfl, hlv, lH4⟩
     ((try (refine @unH _ ?_; refine zX Axj ?_)); (try (refine hK _ _ ?_; clear hK K; (try simp only [nq, ↓reduceIte, Nat.reduceEqDiff]))); refine @unH _ ?_; refine zA Axj ?_; (repeat (refine inC ?_; intro hc)); try (refine inK ?_; intro K hK))
     all_goals exact ⟨_, lv, rfl, e1, e2, e3, e4, e5, rfl, hlv, e10, lH4⟩
   ·rintro a' H4 ⟨e, lv, rfl, e1, e2, e3, e4, e5, e9, hlv, e10, lH4⟩
    have hP4 := hP3.le hC lH4
    have vsb4 := lH4 _ _ vsb3
    clear hP3 vsb3 lH4 hl1
    have hos6 : ∀ x ∈ Axz pl m t, -1 <= x /\ x < 6 := fun x hx => by
     unfold Axz at hx
     split at hx
     ·rw [List.mem_singleton.1 hx]; omega
     ·split at hx
      ·have := Aji hx; omega
      ·rw [List.mem_singleton.1 hx]; omega
    have hol : (Axz pl m t).length <= 1000 := by
     unfold Axz
     split
     ·simp
     ·split
      ·rw [Akx]; have := Awy m hm; omega
      ·simp
    have hbest := Awz ts.length pl h1 t (ts.drop (c + 1)) m (by rw [<- hdrop, List.length_drop]; omega)
    have hpath : Aj9 ts.length pl (ts.drop c) m = (((Axz pl m t).find? fun s => Azf m t + optF ts.length pl (ts.drop (c + 1)) (Aqv m s t) <= optF ts.length pl (t :: ts.drop (c + 1)) m).getD (-1)) :: Aj9 ts.length pl (ts.drop (c + 1)) (Aqv m (((Axz pl m t).find? fun s => Azf m t + optF ts.length pl (ts.drop (c + 1)) (Aqv m s t) <= optF ts.length pl (t :: ts.drop (c + 1)) m).getD (-1)) t) := by
     rw [hdrop]; rfl
    have hcost : Azf m t <= 1 := by unfold Azf; split <;> omega
    obtain ⟨lva, lvc, rfl, _, _⟩ := id hlv
    generalize Axz pl m t = os at *
    generalize Azf m t = k at *
    (refine @unH _ ?_; refine zA Axj ?_; (repeat (refine inC ?_; intro hc)); try (refine inK ?_; intro K hK))
    refine Axe (fun w a' H' => ∃ e i, w = os.length - i /\ i <= os.length /\ a' = act 65 e [] /\ e 1 = .pointer (some ⟨thisb, 0, none⟩) /\ e 2 = .pointer (some ⟨yb, 0, none⟩) /\ e 3 = .pointer (some ⟨ab, 0, none⟩) /\ e 4 = .pointer (some ⟨gb, 0, none⟩) /\ e 5 = .pointer (some ⟨sb, 0, none⟩) /\ e 10 = .int .i64 k /\ e 37 = .slice lva os.length lvc /\ e 38 = .int .i64 os.length /\ e 39 = .int .i64 (i : Nat) /\ SlI H' (.slice lva os.length lvc) os /\ H' sb = some (true, .cells #[.int .i64 c, .int .u8 m] 105 (0, 0)) /\ Akk base S T (.func yf yi yc) pl pieces sv cv (.slice ta ts.length tc) ts thisb db mb yb ab gb true [] xs H' /\
     ∀ j s, j < i -> os[j]? = some s -> ¬ (k + optF ts.length pl (ts.drop (c + 1)) (Aqv m s t) <= optF ts.length pl (t :: ts.drop (c + 1)) m)) (n := os.length) ?_ ?_
    ·exact ⟨_, 0, by omega, by omega, rfl, e1, e2, e3, e4, e5, e10, rfl, rfl, rfl, hlv, vsb4, hP4, fun j s h => by omega⟩
    ·clear e1 e2 e3 e4 e5 e9 e10 hlv vsb4 hP4
     rintro w a' H5 ⟨e, i, rfl, hi, rfl, e1, e2, e3, e4, e5, e10, e37, e38, e39, hlv, vsb5, hP5, hno⟩
     by_cases hlt2 : i < os.length
     ·obtain ⟨b6, o6, p6, c6, fr6, hlva, hb6, hc6⟩ := SlI.get hlv (List.getElem?_eq_getElem hlt2)
      have hsi := List.getElem?_eq_getElem hlt2
      have hs6 := hos6 os[i] (List.getElem_mem hlt2)
      generalize os[i] = s at *
      subst hlva
      have vth5 := hP5.th
      have hc6' : c6[o6 + (i : Int).toNat * 1]? = some (.int .i64 s) := by simpa using hc6
      have hnext := Akr main H5 db pl pieces sv cv _ ts mb hP5.day hP5.tr (by omega) c m s t hct ht6.1 ht6.2 hm hs6.2
      simp only [Avv] at hnext
      (refine @unH _ ?_; refine zA Axj ?_; (repeat (refine inC ?_; intro hc)); try (refine inK ?_; intro K hK))
      refine hnext.runs.mono ?_
      rintro _ H6 ⟨rfl, lH6⟩
      have hP6 := hP5.le hC lH6
      have vsb6 := lH6 _ _ vsb5
      have hlv6 := hlv.le lH6
      have hm' := Ak9 (sent := s) hm hs6.2 ht6.1 ht6.2
      clear hnext hP5 vsb5 hlv vth5 hb6 hc6 hc6' lH6
      ((try (refine @unH _ ?_; refine zX Axj ?_)); (try (refine hK _ _ ?_; clear hK K; (try simp only [nq, ↓reduceIte, Nat.reduceEqDiff]))); refine @unH _ ?_; refine zA Axj ?_; (repeat (refine inC ?_; intro hc)); try (refine inK ?_; intro K hK))
      (intro nb hnb; generalize hG : Hp.set _ nb _ = H7; have lH7 := Aqg hG hnb; have vnb := Aqf hG; clear hG)
      have hP7 := hP6.le hC lH7
      have vsb7 := lH7 _ _ vsb6
      have hlv7 := hlv6.le lH7
      have nnm : nb ≠ mb := fun e => by obtain ⟨es, cl, h1, h2⟩ := hP6.known; rw [e, h1] at hnb; cases hnb
      clear hP6 vsb6 hlv6 lH7 hnb
      ((try (refine @unH _ ?_; refine zX Axj ?_)); (try (refine hK _ _ ?_; clear hK K; (try simp only [nq, ↓reduceIte, Nat.reduceEqDiff]))); refine @unH _ ?_; refine zS Axj ?_; (repeat (refine inC ?_; intro hc)); try (refine inK ?_; intro K hK))
      have vth7 := hP7.th
      repeat refine Aql ?_
      refine Aye (fun HX => HX thisb = some (true, .cells #[.pointer (some ⟨db, 0, none⟩)] 78 (0, 0)) /\ HX nb = some (true, .cells #[.int .i64 (c + 1 : Nat), .int .u8 (Aqv m s t : Nat)] 105 (0, 0)) /\ HX sb = some (true, .cells #[.int .i64 c, .int .u8 m] 105 (0, 0))) 9 [(true, 0), (true, 1), (true, 2), (true, 5), (true, 6), (false, 3), (true, 4), (false, 7), (true, 8)] (by kernel_rfl) (by kernel_rfl) (by simp) (by kernel_rfl) ?_; intro K hK
      (iterate 5 (apply Ajc rfl rfl rfl (by exact ⟨vth7, vnb, vsb7⟩); (focus (intro HX hHX; have hX1 := hHX.1; have hX2 := hHX.2; clear hHX; simp -implicitDefEqProofs (disch := first | omega | (simp only [qd] <;> omega)) only [xq, ↓xp, qc, Nat.reduceAdd, List.range, List.range.loop, fine, Nat.reduceEqDiff, ↓reduceIte, yielded, reduceCtorEq, Nat.reduceLT, Nat.reduceMul, Nat.reduceSub, one, Nat.reduceLeDiff, Aqa, Axj, aq, ↓ap, qe0, qe1, qe2, *, -hK, Aq0] <;> (first | exact rfl | exact ⟨rfl, rfl⟩ | exact ⟨rfl, trivial⟩))); simp -implicitDefEqProofs (disch := first | omega | (simp only [qd] <;> omega)) only [Aqn, Aqc]))
      refine Ajk ?_
      (refine @unH _ ?_; refine zX Axj ?_)
      have hl1 := Ajt main db pl pieces sv cv _ ts mb hdm (by omega) hts6 (ts.length - (c + 1)) (c + 1) (Aqv m s t) H7 rfl (by omega) hm' hP7.day hP7.tr hP7.known
      simp only [Avv] at hl1
      refine hl1.runs.mono ?_
      rintro _ H8 ⟨rfl, hL8, hk8⟩
      have hP8 := hP7.lex hC hL8 hk8
      have vnb8 := hL8.keeps vnb nnm
      have vsb8 := hL8.keeps vsb7 nsm
      have vth8 := hP8.th
      have hlv8 := hlv7.lexMap hL8 (show H7 mb = some (true, _) from (Classical.choose_spec (Classical.choose_spec hP7.known)).1)
      clear hl1 hP7 vnb vsb7 vth7 hlv7 hL8 hk8
      (refine @unH _ ?_; refine zX Axj ?_)
      refine ⟨.inr trivial, ?_⟩
      have w1 : IntKind.i64.wrap ((k : Int) + (optF ts.length pl (ts.drop (c + 1)) (Aqv m s t) : Nat)) = (k : Int) + (optF ts.length pl (ts.drop (c + 1)) (Aqv m s t) : Nat) := w64 _ (by omega) (by have := Bqi ts.length pl (ts.drop (c + 1)) (Aqv m s t); have := List.length_drop (i := c + 1) (l := ts); omega)
      (iterate 1 (apply Ajc rfl rfl rfl (by exact ⟨vth8, vnb8, vsb8⟩); (focus (intro HX hHX; have hX1 := hHX.1; have hX2 := hHX.2; clear hHX; simp -implicitDefEqProofs (disch := first | omega | (simp only [qd] <;> omega)) only [xq, ↓xp, qc, Nat.reduceAdd, List.range, List.range.loop, fine, Nat.reduceEqDiff, ↓reduceIte, yielded, reduceCtorEq, Nat.reduceLT, Nat.reduceMul, Nat.reduceSub, one, Nat.reduceLeDiff, Aqa, Axj, aq, ↓ap, qe0, qe1, qe2, *, -hK, Aq0] <;> (first | exact rfl | exact ⟨rfl, rfl⟩ | exact ⟨rfl, trivial⟩))); simp -implicitDefEqProofs (disch := first | omega | (simp only [qd] <;> omega)) only [Aqn, Aqc]))
      refine Ajk ?_
      (refine @unH _ ?_; refine zX Axj ?_)
      have hl2 := Ajt main db pl pieces sv cv _ ts mb hdm (by omega) hts6 (ts.length - c) c m H8 rfl (by omega) hm hP8.day hP8.tr hP8.known
      simp only [Avv] at hl2
      refine hl2.runs.mono ?_
      rintro _ H9 ⟨rfl, hL9, hk9⟩
      have hP9 := hP8.lex hC hL9 hk9
      have vnb9 := hL9.keeps vnb8 nnm
      have vsb9 := hL9.keeps vsb8 nsm
      have vth9 := hP9.th
      have hlv9 := hlv8.lexMap hL9 (show H8 mb = some (true, _) from (Classical.choose_spec (Classical.choose_spec hP8.known)).1)
      clear hl2 hP8 vnb8 vsb8 vth8 hlv8 hL9 hk9
      rw [hdrop]
      (refine @unH _ ?_; refine zX Axj ?_)
      refine ⟨.inr trivial, ?_⟩
      (iterate 1 (apply Ajc rfl rfl rfl (by exact ⟨vth9, vnb9, vsb9⟩); (focus (intro HX hHX; have hX1 := hHX.1; have hX2 := hHX.2; clear hHX; simp -implicitDefEqProofs (disch := first | omega | (simp only [qd] <;> omega)) only [xq, ↓xp, qc, Nat.reduceAdd, List.range, List.range.loop, fine, Nat.reduceEqDiff, ↓reduceIte, yielded, reduceCtorEq, Nat.reduceLT, Nat.reduceMul, Nat.reduceSub, one, Nat.reduceLeDiff, Aqa, Axj, aq, ↓ap, qe0, qe1, qe2, *, -hK, Aq0] <;> (first | exact rfl | exact ⟨rfl, rfl⟩ | exact ⟨rfl, trivial⟩))); simp -implicitDefEqProofs (disch := first | omega | (simp only [qd] <;> omega)) only [Aqn, Aqc]))
      refine Ax1 (hK _ _ ?_)
      clear hK K w1
      (try simp only [nq, ↓reduceIte, Nat.reduceEqDiff])
      by_cases hbad : k + optF ts.length pl (ts.drop (c + 1)) (Aqv m s t) <= optF ts.length pl (t :: ts.drop (c + 1)) m
      ·
       have vab9 := hP9.va
       have vgb9 := hP9.vg
       have hxl := hP9.l8
       have hil : (ints xs).length = 8 := by rw [Aq7]; exact hxl
       have hc8 : c < (ints xs).length := by omega
       have nga : gb ≠ ab := fun e => by rw [e, vab9] at vgb9; simp at vgb9
       have nsa : sb ≠ ab := fun e => by rw [e, vab9] at vsb9; simp at vsb9
       have nna : nb ≠ ab := fun e => by rw [e, vab9] at vnb9; simp at vnb9
       have hset : (ints xs).set c (.int .i64 s) = ints (xs.set c s) := Az7 _ _ _
       (refine @unH _ ?_; refine zA Axj ?_; (repeat (refine inC ?_; intro hc)); try (refine inK ?_; intro K hK))
       have hP10 : Akk base S T (.func yf yi yc) pl pieces sv cv (.slice ta ts.length tc) ts thisb db mb yb ab gb true [] (xs.set c s) (H9.set ab (.cells (ints (xs.set c s)).toArray 85 (0, 0))) := hP9.put hC c s
       clear nsa nna vnb9 vsb9 vgb9 hlv9 vth9 vab9 nga hP9 hset
       have hfind : os.find? (fun s => decide (k + optF ts.length pl (ts.drop (c + 1)) (Aqv m s t) <= optF ts.length pl (t :: ts.drop (c + 1)) m)) = some s := Ck8 hsi (decide_eq_true hbad) fun j s' hj hs' => decide_eq_false (hno j s' hj hs')
       rw [hfind, Option.getD_some] at hpath
       have hall : (xs.set c s).take (c + 1) ++ Aj9 ts.length pl (ts.drop (c + 1)) (Aqv m s t) ++ (xs.set c s).drop ts.length = xs.take c ++ Aj9 ts.length pl (ts.drop c) m ++ xs.drop ts.length := by
        rw [hpath, List.drop_set_of_lt (by omega), Awe _ _ _ (by omega)]
        simp
       have hrec := ih (ts.length - (c + 1)) (by omega) (c + 1) (Aqv m s t) (xs.set c s) _ rfl (by omega) hm' hP10 (by rw [hall]; exact hA)
       rw [Bzo, Ax8]
       simp only [Array.empty_append, List.append_toArray, List.cons_append, List.nil_append]
       simp only [Avv] at hrec
       refine hrec.runs.mono ?_
       rintro _ H11 ⟨rfl, xs', hxs', hP11⟩
       rw [hall] at hxs'
       clear hrec hP10 hfind hall hpath hno hbest hsi hos6
       ((try (refine @unH _ ?_; refine zX Axj ?_)); (try (refine hK _ _ ?_; clear hK K; (try simp only [nq, ↓reduceIte, Nat.reduceEqDiff]))); refine @unH _ ?_; refine zA Axj ?_; (repeat (refine inC ?_; intro hc)); try (refine inK ?_; intro K hK))
       (refine @unH _ ?_; refine z9 Tryz.results117 ?_)
       exact ⟨by trivial, xs', hxs', hP11⟩
      ·(refine @unH _ ?_; refine zA Axj ?_; (repeat (refine inC ?_; intro hc)); try (refine inK ?_; intro K hK))
       refine ⟨_, ?_, _, i + 1, rfl, by omega, rfl, e1, e2, e3, e4, e5, e10, e37, e38, rfl, hlv9, vsb9, hP9, ?_⟩
       ·omega
       ·intro j s' hj hs'
        by_cases hji : j = i
        ·subst hji
         rw [hsi] at hs'
         cases hs'
         exact hbad
        ·exact hno j s' (by omega) hs'
     ·exfalso
      obtain rfl : i = os.length := by omega
      obtain ⟨s, hs, he⟩ := hbest
      obtain ⟨j, hj, hjs⟩ := List.getElem_of_mem hs
      exact hno j s hj (by rw [List.getElem?_eq_getElem hj, hjs]) (by omega)
def Az9 := And.intro (fun H => Aqx (H := H) Tryz.underlying25 rfl Tryz.sizeOf25) (And.intro @Bxr (And.intro (fun H => Aq5 (H := H) Tryz.underlying22) (And.intro (fun H => Av9 (H := H) Tryz.underlying22 Tryz.sizeOf3 Tryz.zeroValue3 rfl Tryz.typeInfo3 (by decide)) (And.intro (fun H => Aq1 (H := H) (P := Tryz.prog) (h := Tryz.zeroValue22)) (And.intro (fun H => Ajy (H := H) Tryz.sizeOf22) (And.intro @By6 (And.intro (fun H => Aq1 (H := H) (P := Tryz.prog) (h := Tryz.zeroValue85)) (And.intro (fun H => Aq3 (H := H) Tryz.sizeOf85) (And.intro (fun H => Aqd (H := H) Tryz.underlying22 rfl) (And.intro (fun H => Bjs (H := H) Tryz.underlying85 Tryz.sizeOf3) (And.intro (fun H => Aw6 (H := H) Tryz.underlying85 Tryz.sizeOf3) (And.intro @Bqb @Bqa))))))))))))
def Bqr := And.intro (fun H => Aq1 (H := H) (P := Tryz.prog) (h := Tryz.zeroValue85)) (And.intro (fun H => Aq1 (H := H) (P := Tryz.prog) (h := Tryz.zeroValue159)) (And.intro (fun H => Aw9 (H := H) Tryz.sizeOf159) (And.intro (fun H => Ak1 (H := H) Tryz.sizeOf159) (And.intro (fun H => Aqd (H := H) Tryz.underlying159 rfl) (And.intro (fun H => Aqd (H := H) Tryz.underlying78 rfl) @Bqb)))))
theorem Dqq {p q : Prop} (g : q) (h : Hid q -> p := by
 intro g
 repeat' (first
 | (refine Axn rfl ?_; intro Kz hKz; simp -implicitDefEqProofs (disch := first | omega | (simp only [qd] <;> omega)) only [xq, ↓xp, qc, Nat.reduceAdd, List.range, List.range.loop, fine, Nat.reduceEqDiff, ↓reduceIte, yielded, reduceCtorEq, Nat.reduceLT, Nat.reduceMul, Nat.reduceSub, one, Nat.reduceLeDiff, Aqa, Bqr, aq, ↓ap, qe0, qe1, qe2, *, -g, -hKz, Aqt, cells_func, List.size_toArray, List.length_cons, List.length_nil, Nat.reduceAdd, Nat.reduceLT]; try (refine hKz _ _ ?_; clear hKz Kz))
 | (refine Axs rfl ?_; intro Kz hKz; simp -implicitDefEqProofs (disch := first | omega | (simp only [qd] <;> omega)) only [xq, ↓xp, qc, Nat.reduceAdd, List.range, List.range.loop, fine, Nat.reduceEqDiff, ↓reduceIte, yielded, reduceCtorEq, Nat.reduceLT, Nat.reduceMul, Nat.reduceSub, one, Nat.reduceLeDiff, Aqa, Bqr, aq, ↓ap, qe0, qe1, qe2, *, -g, -hKz, Aqt, cells_func, List.size_toArray, List.length_cons, List.length_nil, Nat.reduceAdd, Nat.reduceLT]; try (refine hKz _ _ ?_; clear hKz Kz; (try simp only [nq, ↓reduceIte, Nat.reduceEqDiff])))
 | (refine Aqu ?_; (try simp only [nq, ↓reduceIte, Nat.reduceEqDiff]))
 | (refine Axr ?_; (try simp only [nq, ↓reduceIte, Nat.reduceEqDiff]))
 | (refine Axa ?_; (try simp only [nq, ↓reduceIte, Nat.reduceEqDiff]))
 | (refine Azb ?_; (try simp only [nq, ↓reduceIte, Nat.reduceEqDiff]))
 | (refine Axy (by simp only [Aqm, Aqr, Nat.reduceEqDiff, Nat.reduceLT, ↓reduceIte, *, -g]; rfl) ?_ ?_ <;> (intro hcz; first | (exfalso; simp -implicitDefEqProofs (disch := omega) only [*, -g, bq, reduceCtorEq] at hcz; done) | (simp only [dq, qe3, qe4, qe5, qe6] at hcz) | skip))
 | (refine Axq ?_)
 | (refine Aqo ?_)
 | (refine Aql ?_))
 (try (revert Kz; refine unK ?_)); (repeat (revert hcz; refine unC ?_))
 exact Hid.out g) : Hid p := ⟨h ⟨g⟩⟩
theorem Dzq {p q : Prop} (g : q) (h : Hid q -> p := by
 intro g
 simp -implicitDefEqProofs (disch := first | omega | (simp only [qd] <;> omega)) only [xq, ↓xp, qc, Nat.reduceAdd, List.range, List.range.loop, fine, Nat.reduceEqDiff, ↓reduceIte, yielded, reduceCtorEq, Nat.reduceLT, Nat.reduceMul, Nat.reduceSub, one, Nat.reduceLeDiff, Aqa, Bqr, aq, ↓ap, qe0, qe1, qe2, *, -g, -hK, Aqt, cells_func, List.size_toArray, List.length_cons, List.length_nil, Nat.reduceAdd, Nat.reduceLT]
 exact Hid.out g) : Hid p := ⟨h ⟨g⟩⟩
theorem Dk2 {p q : Prop} (g : q) (h : Hid q -> p := by
 intro g
 repeat' (first
 | (refine Axn rfl ?_; intro Kz hKz; simp -implicitDefEqProofs (disch := first | omega | (simp only [qd] <;> omega)) only [xq, ↓xp, qc, Nat.reduceAdd, List.range, List.range.loop, fine, Nat.reduceEqDiff, ↓reduceIte, yielded, reduceCtorEq, Nat.reduceLT, Nat.reduceMul, Nat.reduceSub, one, Nat.reduceLeDiff, Aqa, Az9, aq, ↓ap, qe0, qe1, qe2, *, -g, -hKz, Bool.or_true, Ajx hne vt0]; try (refine hKz _ _ ?_; clear hKz Kz))
 | (refine Axs rfl ?_; intro Kz hKz; simp -implicitDefEqProofs (disch := first | omega | (simp only [qd] <;> omega)) only [xq, ↓xp, qc, Nat.reduceAdd, List.range, List.range.loop, fine, Nat.reduceEqDiff, ↓reduceIte, yielded, reduceCtorEq, Nat.reduceLT, Nat.reduceMul, Nat.reduceSub, one, Nat.reduceLeDiff, Aqa, Az9, aq, ↓ap, qe0, qe1, qe2, *, -g, -hKz, Bool.or_true, Ajx hne vt0]; try (refine hKz _ _ ?_; clear hKz Kz; (try simp only [nq, ↓reduceIte, Nat.reduceEqDiff])))
 | (refine Aqu ?_; (try simp only [nq, ↓reduceIte, Nat.reduceEqDiff]))
 | (refine Axr ?_; (try simp only [nq, ↓reduceIte, Nat.reduceEqDiff]))
 | (refine Axa ?_; (try simp only [nq, ↓reduceIte, Nat.reduceEqDiff]))
 | (refine Azb ?_; (try simp only [nq, ↓reduceIte, Nat.reduceEqDiff]))
 | (refine Axy (by simp only [Aqm, Aqr, Nat.reduceEqDiff, Nat.reduceLT, ↓reduceIte, *, -g]; rfl) ?_ ?_ <;> (intro hcz; first | (exfalso; simp -implicitDefEqProofs (disch := omega) only [*, -g, bq, reduceCtorEq] at hcz; done) | (simp only [dq, qe3, qe4, qe5, qe6] at hcz) | skip))
 | (refine Axq ?_)
 | (refine Aqo ?_)
 | (refine Aql ?_))
 (try (revert Kz; refine unK ?_)); (repeat (revert hcz; refine unC ?_))
 exact Hid.out g) : Hid p := ⟨h ⟨g⟩⟩
theorem Dkx {p q : Prop} (g : q) (h : Hid q -> p := by
 intro g
 simp -implicitDefEqProofs (disch := first | omega | (simp only [qd] <;> omega)) only [xq, ↓xp, qc, Nat.reduceAdd, List.range, List.range.loop, fine, Nat.reduceEqDiff, ↓reduceIte, yielded, reduceCtorEq, Nat.reduceLT, Nat.reduceMul, Nat.reduceSub, one, Nat.reduceLeDiff, Aqa, Az9, aq, ↓ap, qe0, qe1, qe2, *, -g, -hK, Bool.or_true, Ajx hne vt0]
 exact Hid.out g) : Hid p := ⟨h ⟨g⟩⟩
theorem Ajb (L : Nat) (pl : Int) : ∀ (ts : List Int) (m : Nat), (Aj9 L pl ts m).length = ts.length
 | [], _ => rfl
 | t :: ts, m => by
  unfold Aj9
  simp [Ajb L pl ts]
theorem Cjg (main : Md) {S : Nat -> Prop} {A : List Int -> Prop} {T : Bool -> List (List Int) -> Hp -> Prop} {yf : Fn} {yi yc : Array Value} {pl pieces : Int} {sv cv tv : Value} {start ts : List Int} {thisb db mb : Nat} (hdm : db ≠ mb) (hln : ts.length <= 8) (hts6 : ∀ t ∈ ts, 0 <= t /\ t < 6) (h1 : 1 <= pl)
  (hC : Akn Tryz.prog main (.func yf yi yc) S (fun H v xs => v = .agg (ints xs).toArray) A T) (hstop : ∀ l H, ¬ T true [l] H) (H : Hp) (hT : T true [] H) (vth : H thisb = some (true, .cells #[.pointer (some ⟨db, 0, none⟩)] 78 (0, 0)))
  (vdb : H db = some (true, dayO pl pieces sv cv tv mb)) (hts : SlI H tv ts) (hst : SlI H sv start) (hs6 : ∀ x ∈ start, 0 <= x /\ x < 6) (hsl : start.length <= 1000) (hk : Aj2 H mb ts.length pl ts) (nth : ¬ S thisb) (nd : ¬ S db) (nm : ¬ S mb) (nt : ts ≠ [] -> ∀ b, rowB tv = some b -> ¬ S b)
  (hA : A (Aj9 ts.length pl ts (oOf start) ++ List.replicate (8 - ts.length) 0)) :
  FnX Tryz.prog main 116 #[.func yf yi yc, .pointer (some ⟨thisb, 0, none⟩)] H fun e H' => e = .returned (.tuple #[]) /\ T false [Aj9 ts.length pl ts (oOf start) ++ List.replicate (8 - ts.length) 0] H' /\ Aj2 H' mb ts.length pl ts /\
   ∀ b x, ¬ S b -> b ≠ mb -> H b = some x -> H' b = some x := by
 obtain ⟨es, cl, vmb, hmap⟩ := hk
 refine Aqk Tryz.func116 rfl Tryz.ntmps116 (by simp) ?_
 (refine @unH _ ?_; refine Dqq ?_; (repeat (refine inC ?_; intro hc)); try (refine inK ?_; intro K hK))
 (intro yb hyb; generalize hG : Hp.set _ yb _ = H1; have lH1 := Aqg hG hyb; have vyb := Aqf hG; clear hG)
 have vth1 := lH1 _ _ vth
 have vdb1 := lH1 _ _ vdb
 have vmb1 := lH1 _ _ vmb
 have hT1 := hC.keep _ _ _ H1 hT fun b x _ hx => lH1 _ _ hx
 have ny : ¬ S yb := fun h => hC.ex _ _ _ _ hT h hyb
 ((try (refine @unH _ ?_; refine Dzq ?_)); (try (refine hK _ _ ?_; clear hK K; (try simp only [nq, ↓reduceIte, Nat.reduceEqDiff]))); refine @unH _ ?_; refine Dqq ?_; (repeat (refine inC ?_; intro hc)); try (refine inK ?_; intro K hK))
 (intro ab hab; generalize hG : Hp.set _ ab _ = H2; have lH2 := Aqg hG hab; have vab := Aqf hG; clear hG)
 have vyb2 := lH2 _ _ vyb
 have vth2 := lH2 _ _ vth1
 have vdb2 := lH2 _ _ vdb1
 have vmb2 := lH2 _ _ vmb1
 have hT2 := hC.keep _ _ _ H2 hT1 fun b x _ hx => lH2 _ _ hx
 have na : ¬ S ab := fun h => hC.ex _ _ _ _ hT1 h hab
 ((try (refine @unH _ ?_; refine Dzq ?_)); (try (refine hK _ _ ?_; clear hK K; (try simp only [nq, ↓reduceIte, Nat.reduceEqDiff]))); refine @unH _ ?_; refine Dqq ?_; (repeat (refine inC ?_; intro hc)); try (refine inK ?_; intro K hK))
 intro gb hgb
 have ng : ¬ S gb := fun h => hC.ex _ _ _ _ hT2 h hgb
 have hle3 : ∀ o, H2.le (H2.set gb o) := fun o => Hp.le_set hgb
 ((try (refine @unH _ ?_; refine Dzq ?_)); (try (refine hK _ _ ?_; clear hK K; (try simp only [nq, ↓reduceIte, Nat.reduceEqDiff]))); refine @unH _ ?_; refine Dqq ?_; (repeat (refine inC ?_; intro hc)); try (refine inK ?_; intro K hK))
 generalize hG : Hp.set H2 gb _ = H3
 have l3 : H2.le H3 := hG ▸ Hp.le_set hgb
 have vgb3 : H3 gb = _ := hG ▸ Aqw
 clear hG
 have vth3 := l3 _ _ vth2
 have vdb3 := l3 _ _ vdb2
 have vmb3 := l3 _ _ vmb2
 have l03 : H.le H3 := Hp.le_trans lH1 (Hp.le_trans lH2 l3)
 have hP : Akk H S T (.func yf yi yc) pl pieces sv cv tv ts thisb db mb yb ab gb true [] (List.replicate 8 0) H3 :=
  ⟨hC.keep _ _ _ H3 hT2 fun b x _ hx => l3 _ _ hx, vth3, vdb3, hts.le l03, ⟨es, cl, vmb3, hmap⟩, l3 _ _ vyb2, l3 _ _ vab, vgb3, by simp, nth, nd, nm, nt, ny, na, ng, fun b x _ _ _ hx => l03 _ _ hx⟩
 have hfirst := fun H' (hd : H' db = some (true, dayO pl pieces sv cv tv mb)) (hs : SlI H' sv start) => Aj6 main H' db pl pieces sv cv tv start mb hd hs hs6 (by omega)
 have hst3 := hst.le l03
 have hfr3 : ∀ b x, b ≠ ab -> H b = some x -> H3 b = some x := fun b x _ hx => l03 _ _ hx
 have nHa : ∀ b x, H b = some x -> b ≠ ab := fun b x hx e => by have := lH1 _ _ hx; rw [e, hab] at this; cases this
 clear hT hT1 hT2 vth vdb vmb vth1 vdb1 vmb1 vth2 vdb2 vmb2 lH1 lH2 l3 hle3 vyb vyb2 vab hyb hab hgb hts hst
 refine Az2 3 [(true, 0), (true, 1), (true, 2), (false, 3)] (by kernel_rfl) (by kernel_rfl) (by simp) (by kernel_rfl) ?_; intro K hK
 (iterate 2 (apply Axc rfl rfl rfl; (focus (simp -implicitDefEqProofs (disch := first | omega | (simp only [qd] <;> omega)) only [xq, ↓xp, qc, Nat.reduceAdd, List.range, List.range.loop, fine, Nat.reduceEqDiff, ↓reduceIte, yielded, reduceCtorEq, Nat.reduceLT, Nat.reduceMul, Nat.reduceSub, one, Nat.reduceLeDiff, Aqa, Bqr, aq, ↓ap, qe0, qe1, qe2, *, -hK, Aq0, Aqt, cells_func, List.size_toArray, List.length_cons, List.length_nil, Nat.reduceAdd, Nat.reduceLT] <;> (first | exact rfl | exact ⟨rfl, rfl⟩ | exact ⟨rfl, trivial⟩))); simp -implicitDefEqProofs (disch := first | omega | (simp only [qd] <;> omega)) only [Aqn, Aqc]))
 (apply Axc rfl rfl rfl; (focus (simp -implicitDefEqProofs (disch := first | omega | (simp only [qd] <;> omega)) only [xq, ↓xp, qc, Nat.reduceAdd, List.range, List.range.loop, fine, Nat.reduceEqDiff, ↓reduceIte, yielded, reduceCtorEq, Nat.reduceLT, Nat.reduceMul, Nat.reduceSub, one, Nat.reduceLeDiff, Aqa, Bqr, aq, ↓ap, qe0, qe1, qe2, *, -hK, Azl, Aqt, cells_func, List.size_toArray, List.length_cons, List.length_nil, Nat.reduceAdd, Nat.reduceLT]; exact Azo (hfirst H3 vdb3 hst3))); simp -implicitDefEqProofs (disch := omega) only [Aqn, Aqc])
 refine Ajw ?_
 have hall : (List.replicate 8 (0 : Int)).take 0 ++ Aj9 ts.length pl (ts.drop 0) (oOf start) ++ (List.replicate 8 (0 : Int)).drop ts.length = Aj9 ts.length pl ts (oOf start) ++ List.replicate (8 - ts.length) 0 := by
  rw [List.take_zero, List.drop_zero, List.nil_append, List.drop_replicate]
 have hrec := choose_spec main hdm hln hts6 h1 hC hstop ts.length 0 (oOf start) (List.replicate 8 0) H3 rfl (by omega) (Ava start 0 (by omega) hs6) hP (by rw [hall]; exact hA)
 rw [hall] at hrec
 simp only [Avv] at hrec
 simp -implicitDefEqProofs (disch := first | omega | (simp only [qd] <;> omega)) only [xq, ↓xp, qc, Nat.reduceAdd, List.range, List.range.loop, fine, Nat.reduceEqDiff, ↓reduceIte, yielded, reduceCtorEq, Nat.reduceLT, Nat.reduceMul, Nat.reduceSub, one, Nat.reduceLeDiff, Aqa, Bqr, aq, ↓ap, qe0, qe1, qe2, *, -hK, Aqt, cells_func, List.size_toArray, List.length_cons, List.length_nil, Nat.reduceAdd, Nat.reduceLT]
 rw [Bzo, Ax8]
 simp only [Array.empty_append, List.append_toArray, List.cons_append, List.nil_append]
 refine hrec.runs.mono ?_
 rintro _ H5 ⟨rfl, xs', rfl, hP5⟩
 simp -implicitDefEqProofs (disch := first | omega | (simp only [qd] <;> omega)) only [xq, ↓xp, qc, Nat.reduceAdd, List.range, List.range.loop, fine, Nat.reduceEqDiff, ↓reduceIte, yielded, reduceCtorEq, Nat.reduceLT, Nat.reduceMul, Nat.reduceSub, one, Nat.reduceLeDiff, Aqa, Bqr, aq, ↓ap, qe0, qe1, qe2, *, -hK, Aqt, cells_func, List.size_toArray, List.length_cons, List.length_nil, Nat.reduceAdd, Nat.reduceLT]
 refine hK _ _ ?_
 (refine @unH _ ?_; refine zD Tryz.results116 ?_)
 exact ⟨rfl, hP5.cl, hP5.known, fun b x hS hbm hx => hP5.fr b x hS hbm (nHa b x hx) hx⟩
theorem Ay5 (H : Hp) (mb L : Nat) (pl : Int) (ts : List Int) (h : H mb = some (true, .map #[] 0)) : Aj2 H mb L pl ts := ⟨#[], 0, h, fun e he => by simp at he⟩
theorem By1 {n : Nat} {e : Nat -> Value} {ds : List Deferred} {l r id : Nat} {Q : Exit -> Act -> Hp -> Prop} {v : Value} {H : Hp} {q : Loop} (h : H l = some (true, .loop q)) (h1 : q.state ≠ .busy) (h2 : q.pending = some (.exit id))
  (hk : Q (.exit id) (act n e (coll r :: ds)) (H.set l (.loop { q with state := .exhausted }))) : behind l r (act n e ds) Q (.returned v) H := by
 refine ⟨q, h, h1, ?_⟩
 cases q
 simp only [] at h1 h2
 subst h2
 exact hk
def Dz5 (l r ob cb : Nat) (n : Nat) (lo : Loop) (t : Bool) (L : List (List Int)) (H : Hp) : Prop :=
  H r = some (true, .deferred (some [])) /\ H cb = some (true, .cells #[.slice (some ⟨ob, 0, none⟩) n n] 22 (0, 0)) /\
    ((t = true /\ L = [] /\ H l = some (true, .loop lo) /\ H ob = some (true, .cells (ints (List.replicate n 0)).toArray 3 (0, 0))) ∨
     (t = false /\ ∃ xs, L = [xs] /\ H l = some (true, .loop { lo with state := .done, pending := some (.exit 0) }) /\ H ob = some (true, .cells (ints (xs.take n)).toArray 3 (0, 0))))
theorem Cj9 (main : Md) (H : Hp) (places pieces : Int) (sv cv tv : Value) (start : List Int) (xss : List (List Int)) (ts : List Int) (hd : Awr H places pieces sv cv tv start xss ts) :
  FnX Tryz.prog main 37 #[.agg #[.int .i64 places, .int .i64 pieces, sv, cv], tv] H fun e H' => ∃ v, e = .returned (.tuple #[v, .int .i64 (optF ts.length places ts (oOf start)), .int .i64 0]) /\ SlI H' v (Aj9 ts.length places ts (oOf start)) /\ H.le H' := by
 obtain ⟨sa, sn, sc, rfl⟩ := hd.st.isSlice
 obtain ⟨ca, cn, cc, rfl⟩ := hd.calls.isSlice
 obtain ⟨ta, tc, rfl, htc, _⟩ := id hd.truth
 refine Aqk Tryz.func37 rfl Tryz.ntmps37 (by simp) ?_
 (refine @unH _ ?_; refine zA Az9 ?_; (repeat (refine inC ?_; intro hc)); try (refine inK ?_; intro K hK))
 (intro vb hvb; generalize hG : Hp.set _ vb _ = H1; have lH1 := Aqg hG hvb; have vvb := Aqf hG; clear hG)
 have hd1 := hd.le lH1
 ((try (refine @unH _ ?_; refine zX Az9 ?_)); (try (refine hK _ _ ?_; clear hK K; (try simp only [nq, ↓reduceIte, Nat.reduceEqDiff]))); refine @unH _ ?_; refine zA Az9 ?_; (repeat (refine inC ?_; intro hc)); try (refine inK ?_; intro K hK))
 refine (Akp main H1 places pieces _ _ _ start xss ts hd1).runs.mono ?_
 rintro _ H2 ⟨db, mb, rfl, lH2, hdm, hdb, hmb, vdb, vmb⟩
 have hd2 := hd1.le lH2
 have hl8 : ts.length <= 8 := by have := hd.true.1; have := hd.few; omega
 ((try (refine @unH _ ?_; refine zX Az9 ?_)); (try (refine hK _ _ ?_; clear hK K; (try simp only [nq, ↓reduceIte, Nat.reduceEqDiff]))); refine @unH _ ?_; refine zA Az9 ?_; (repeat (refine inC ?_; intro hc)); try (refine inK ?_; intro K hK))
 intro ob hob cb hcb
 replace hcb : (Hp.set H2 ob (.cells (Array.replicate ts.length (.int .i64 0)) 3 (0, 0))) cb = none := hcb
 have ncb : ob ≠ cb := fun e => by rw [e, Aqw] at hcb; cases hcb
 generalize hG : Hp.set H2 ob _ = H3 at hcb
 have lH3 := Aqg hG hob
 have vob3 := Aqf hG
 have hcb2 := Hp.le_none lH3 hcb
 ((try (refine @unH _ ?_; refine zX Az9 ?_)); (try (refine hK _ _ ?_; clear hK K; (try simp only [nq, ↓reduceIte, Nat.reduceEqDiff]))); refine @unH _ ?_; refine zA Az9 ?_; (repeat (refine inC ?_; intro hc)); try (refine inK ?_; intro K hK))
 clear hG
 generalize hG : Hp.set H3 cb _ = H4
 have lH4 := Aqg hG hcb
 have vcb4 := Aqf hG
 clear hG
 have vob4 := lH4 _ _ vob3
 have l24 := Hp.le_trans lH3 lH4
 clear lH3 lH4 vob3 hcb
 refine (Awt main H4 db).runs.mono ?_
 rintro _ H5 ⟨thisb, rfl, vth5, lH5⟩
 have vcb5 := lH5 _ _ vcb4
 have vob5 := lH5 _ _ vob4
 have l25 := Hp.le_trans l24 lH5
 have vdb5 := l25 _ _ vdb
 have vmb5 := l25 _ _ vmb
 have hd5 := hd2.le l25
 have l05 : H.le H5 := Hp.le_trans lH1 (Hp.le_trans lH2 l25)
 have vdb2 := vdb
 have vmb2 := vmb
 clear lH5 vcb4 vob4 vdb vmb l24
 ((try (refine @unH _ ?_; refine zX Az9 ?_)); (try (refine hK _ _ ?_; clear hK K; (try simp only [nq, ↓reduceIte, Nat.reduceEqDiff]))); refine @unH _ ?_; refine zA Az9 ?_; (repeat (refine inC ?_; intro hc)); try (refine inK ?_; intro K hK))
 refine Avy (fun e => e 7 = .pointer (some ⟨db, 0, none⟩) /\ e 9 = .pointer (some ⟨cb, 0, none⟩) /\ e 24 = .func (.func 116) #[] #[.pointer (some ⟨thisb, 0, none⟩)]) ⟨rfl, rfl, rfl⟩ ?_
 rintro e ⟨e7, e9, e24⟩
 refine Ayo (g := 116) (fi := #[]) (cap := #[.pointer (some ⟨thisb, 0, none⟩)]) (by rw [Aqm (by omega), e24]) (by omega) (fun _ _ _ _ => Bk0 _ _ _) (fun r l lo hr hl hlo1 hlo2 hround => ?_)
 have hlr : r ≠ l := fun e => by rw [<- e, Aqw] at hl; cases hl
 have hnl : H5 l = none := by
  rw [Aqp (Ne.symm hlr)] at hl; exact hl
 have hC : Akn Tryz.prog main (.func (.yield l) #[] #[]) (fun b => b = l ∨ b = r ∨ b = ob ∨ b = cb) (fun H v xs => v = .agg (ints xs).toArray) (fun xs => xs.length = 8) (Dz5 l r ob cb ts.length lo) := by
  refine ⟨?_, ?_, ?_⟩
  ·rintro t L H H' ⟨h1, h2, h3⟩ hk
   refine ⟨hk _ _ (.inr (.inl rfl)) h1, hk _ _ (.inr (.inr (.inr rfl))) h2, ?_⟩
   rcases h3 with ⟨h3, h4, h5, h6⟩ | ⟨h3, xs, h4, h5, h6⟩
   ·exact .inl ⟨h3, h4, hk _ _ (.inl rfl) h5, hk _ _ (.inr (.inr (.inl rfl))) h6⟩
   ·exact .inr ⟨h3, xs, h4, hk _ _ (.inl rfl) h5, hk _ _ (.inr (.inr (.inl rfl))) h6⟩
  ·rintro t L H b ⟨h1, h2, h3⟩ hb
   rcases hb with rfl | rfl | rfl | rfl
   ·rcases h3 with ⟨_, _, h, _⟩ | ⟨_, _, _, h, _⟩ <;> rw [h] <;> simp
   ·rw [h1]; simp
   ·rcases h3 with ⟨_, _, _, h⟩ | ⟨_, _, _, _, h⟩ <;> rw [h] <;> simp
   ·rw [h2]; simp
  ·rintro L H v' xs ⟨h1, h2, h3⟩ rfl hA
   obtain ⟨rfl, h3, h4⟩ : L = [] /\ H l = some (true, .loop lo) /\ H ob = some (true, .cells (ints (List.replicate ts.length 0)).toArray 3 (0, 0)) := by
    rcases h3 with ⟨_, a, b, c⟩ | ⟨h, _⟩
    ·exact ⟨a, b, c⟩
    ·cases h
   refine hround H _ _ h3 ?_
   have hil : (ints xs).length = 8 := by rw [Aq7]; exact hA
   have hone : (ints xs).all one = true := List.all_eq_true.2 (Bzr _)
   (refine @unH _ ?_; refine zA (And.intro Az9 @Bool.or_true) ?_; (repeat (refine inC ?_; intro hc)); try (refine inK ?_; intro K hK))
   intro tb htb
   have hne : ints xs ≠ [] := fun h => by rw [h] at hil; cases hil
   have vt0 : (H.set tb (.cells #[.int .i64 0, .int .i64 0, .int .i64 0, .int .i64 0, .int .i64 0, .int .i64 0, .int .i64 0, .int .i64 0] 85 (0, 0))) tb = _ := Aqw
   have hov : over #[Value.int .i64 0, .int .i64 0, .int .i64 0, .int .i64 0, .int .i64 0, .int .i64 0, .int .i64 0, .int .i64 0] 0 (ints xs) = (ints xs).toArray := Bvu (l := [Value.int .i64 0, .int .i64 0, .int .i64 0, .int .i64 0, .int .i64 0, .int .i64 0, .int .i64 0, .int .i64 0]) (by rw [hil]; rfl)
   ((try (refine @unH _ ?_; refine Dkx ?_)); (try (refine hK _ _ ?_; clear hK K; (try simp only [nq, ↓reduceIte, Nat.reduceEqDiff]))); refine @unH _ ?_; refine Dk2 ?_; (repeat (refine inC ?_; intro hc)); try (refine inK ?_; intro K hK))
   clear hov vt0
   generalize hG : Hp.set H tb _ = Ha
   have lHa := Aqg hG htb
   have vta := Aqf hG
   have hfra : ∀ b x, b ≠ tb -> Ha b = some x -> H b = some x := fun b x hb hx => by rw [<- hG, Aqp hb] at hx; exact hx
   clear hG
   have h1a := lHa _ _ h1
   have h2a := lHa _ _ h2
   have h3a := lHa _ _ h3
   have h4a := lHa _ _ h4
   refine ⟨h3a, ?_⟩
   have ncl : cb ≠ l := fun e => by rw [e, h3a] at h2a; cases h2a
   have nol : ob ≠ l := fun e => by rw [e, h3a] at h4a; cases h4a
   have ntl : tb ≠ l := fun e => by rw [e, h3a] at vta; cases vta
   have nto : tb ≠ ob := fun e => by rw [e, h4a] at vta; simp at vta
   have nco : cb ≠ ob := fun e => by rw [e, h4a] at h2a; simp at h2a
   have nro : r ≠ ob := fun e => by rw [e, h4a] at h1a; simp at h1a
   generalize hB : Hp.set Ha l (.loop { lo with state := .busy }) = Hb
   have vlb : Hb l = some (true, .loop { lo with state := .busy }) := by rw [<- hB, Aqw]
   have hbx : ∀ b x, b ≠ l -> Ha b = some x -> Hb b = some x := fun b x hn hx => by rw [<- hB, Aqp hn]; exact hx
   have hb2 := hbx _ _ ncl h2a
   have hb4 := hbx _ _ nol h4a
   have hbt := hbx _ _ ntl vta
   have hb1 := hbx _ _ hlr h1a
   have hbf : ∀ b x, b ≠ l -> H b = some x -> Hb b = some x := fun b x hn hx => by rw [<- hB, Aqp hn]; exact lHa _ _ hx
   clear hbx hB h1 h2 h3 h4 h1a h2a h3a h4a vta lHa hfra
   (refine @unH _ ?_; refine zS (And.intro Az9 @Bool.or_true) ?_; (repeat (refine inC ?_; intro hc)); try (refine inK ?_; intro K hK))
   refine Aqo (Aql ?_)
   (refine Az2 2 [(true, 0), (true, 1), (false, 2)] (by kernel_rfl) (by kernel_rfl) (by simp) (by kernel_rfl) ?_; intro K hK; (iterate 2 (refine @unH _ ?_; refine z3 (And.intro Az9 @Bool.or_true) ?_)); refine Ajw ?_; (refine @unH _ ?_; refine zX (And.intro Az9 @Bool.or_true) ?_); try (refine hK _ _ ?_; clear hK K; (try simp only [nq, ↓reduceIte, Nat.reduceEqDiff])))
   have hmin : min 8 ts.length = ts.length := by omega
   have hrl : (ints (List.replicate ts.length 0)).length = ts.length := by rw [Aq7, List.length_replicate]
   have htk : ((ints xs).drop 0).take (min 8 ts.length) = ints (xs.take ts.length) := by
    rw [List.drop_zero, hmin]; simp [ints, List.map_take]
   refine Bz3 Tryz.underlying22 Tryz.sizeOf3 _ _ ob 0 ts.length ts.length tb 0 8 8 hb4 hbt (by omega) (by omega) (fun v hv => List.all_eq_true.1 hone v (List.mem_of_mem_drop (List.mem_of_mem_take hv))) _ _ ?_
   rw [htk, Bvu (by rw [Aq7, List.length_take, hrl]; omega)]
   generalize hC : Hp.set Hb ob _ = Hc
   have hcx : ∀ b x, b ≠ ob -> Hb b = some x -> Hc b = some x := fun b x hn hx => by rw [<- hC, Aqp hn]; exact hx
   have vob : Hc ob = some (true, .cells (ints (xs.take ts.length)).toArray 3 (0, 0)) := by rw [<- hC, Aqw]
   clear hC
   (refine @unH _ ?_; refine zX (And.intro Az9 @Bool.or_true) ?_)
   refine hK _ _ ?_
   clear hK K
   (try simp only [nq, ↓reduceIte, Nat.reduceEqDiff])
   (refine @unH _ ?_; refine zA (And.intro Az9 @Bool.or_true) ?_; (repeat (refine inC ?_; intro hc)); try (refine inK ?_; intro K hK))
   refine ⟨rfl, _, hcx _ _ (Ne.symm nol) vlb, false, rfl, ⟨?_, ?_, .inr ⟨rfl, xs, rfl, Aqw, ?_⟩⟩, ?_⟩
   ·rw [Aqp hlr]; exact hcx _ _ nro hb1
   ·rw [Aqp ncl]; exact hcx _ _ nco hb2
   ·rw [Aqp nol]; exact vob
   ·intro b x hn hx
    have n1 : b ≠ l := fun h => hn (.inl h)
    have n2 : b ≠ ob := fun h => hn (.inr (.inr (.inl h)))
    rw [Aqp n1]
    exact hcx _ _ n2 (hbf _ _ n1 hx)
 generalize hG : Hp.set (Hp.set H5 r (.deferred (some []))) l (.loop lo) = H6
 have l56 : H5.le H6 := fun b x hx => by rw [<- hG]; exact Hp.le_set hl _ _ (Hp.le_set hr _ _ hx)
 have vl6 : H6 l = some (true, .loop lo) := by rw [<- hG, Aqw]
 have vr6 : H6 r = some (true, .deferred (some [])) := by rw [<- hG, Aqp hlr, Aqw]
 clear hG
 have nS : ∀ b x, H2 b = some x -> ¬ (b = l ∨ b = r ∨ b = ob ∨ b = cb) := fun b x hx h => by
  have h5 := l25 _ _ hx
  rcases h with rfl | rfl | rfl | rfl
  ·rw [hnl] at h5; cases h5
  ·rw [hr] at h5; cases h5
  ·rw [hob] at hx; cases hx
  ·rw [hcb2] at hx; cases hx
 have hTb : Dz5 l r ob cb ts.length lo true [] H6 := ⟨vr6, l56 _ _ vcb5, .inl ⟨rfl, rfl, vl6, by
  have : (ints (List.replicate ts.length 0)).toArray = Array.replicate ts.length (Value.int .i64 0) := by simp [ints]
  rw [this]; exact l56 _ _ vob5⟩⟩
 have hst6 : ∀ x ∈ start, 0 <= x /\ x < 6 := fun x hx => by
  have := hd.ok.2.2.2.2.2.2.1 x hx; have := hd.ok.2.2.2.1; omega
 have hts6 : ∀ t ∈ ts, 0 <= t /\ t < 6 := hd.true.bnd hd.ok
 have hsl : start.length <= 1000 := by have := hd.ok.2.2.2.2.1; have := hd.ok.2.1; omega
 have hp1 : 1 <= places := hd.ok.1
 have nth : ¬ (thisb = l ∨ thisb = r ∨ thisb = ob ∨ thisb = cb) := fun h => by
  rcases h with e | e | e | e
  ·rw [e, hnl] at vth5; cases vth5
  ·rw [e, hr] at vth5; cases vth5
  ·rw [e, vob5] at vth5; simp at vth5
  ·rw [e, vcb5] at vth5; simp at vth5
 have ntv : ts ≠ [] -> ∀ b, rowB (.slice ta ts.length tc) = some b -> ¬ (b = l ∨ b = r ∨ b = ob ∨ b = cb) := fun hne b hb => by
  obtain ⟨b', o', p', c', fr', he, hb', _⟩ := SlI.get hd2.truth (List.getElem?_eq_getElem (List.length_pos_iff.2 hne))
  subst he
  cases hb
  exact nS _ _ hb'
 have hrun := Cjg main (A := fun xs => xs.length = 8) hdm hl8 hts6 hp1 hC (fun xs H' h => by
  obtain ⟨_, _, h | h⟩ := h
  ·exact absurd h.2.1 (by simp)
  ·exact absurd h.1 (by simp)) H6 hTb (l56 _ _ vth5) (l56 _ _ vdb5) ((hd5.le l56).truth) ((hd5.le l56).st) hst6 hsl (Ay5 _ _ _ _ _ (l56 _ _ vmb5)) nth (nS _ _ vdb2) (nS _ _ vmb2) ntv (by simp [Ajb]; omega)
 refine hrun.runs.mono ?_
 have hd6 := hd5.le l56
 have vdb6 := l56 _ _ vdb5
 have l06 := Hp.le_trans l05 l56
 have hH2 : ∀ b x, H2 b = some x -> H6 b = some x := fun b x hx => l56 _ _ (l25 _ _ hx)
 clear hrun hC hround hTb
 rintro _ H7 ⟨rfl, ⟨vr7, vcb7, h7⟩, hk7, hfr7⟩
 obtain ⟨vl7, vob7⟩ : H7 l = some (true, .loop { lo with state := .done, pending := some (.exit 0) }) /\ H7 ob = some (true, .cells (ints ((Aj9 ts.length places ts (oOf start) ++ List.replicate (8 - ts.length) 0).take ts.length)).toArray 3 (0, 0)) := by
  rcases h7 with ⟨h, _⟩ | ⟨_, xs, hx, h1, h2⟩
  ·cases h
  ·cases hx; exact ⟨h1, h2⟩
 have htk : (Aj9 ts.length places ts (oOf start) ++ List.replicate (8 - ts.length) 0).take ts.length = Aj9 ts.length places ts (oOf start) := by
  rw [List.take_append_of_le_length (by rw [Ajb]; omega), List.take_of_length_le (by rw [Ajb]; omega)]
 rw [htk] at vob7
 clear h7
 have ncl : cb ≠ l := fun e => by rw [e, vl7] at vcb7; cases vcb7
 have nol : ob ≠ l := fun e => by rw [e, vl7] at vob7; cases vob7
 have nHm : ∀ b x, H b = some x -> b ≠ mb := fun b x hx e => by have := lH1 _ _ hx; rw [e, hmb] at this; cases this
 have hfrm : ∀ b x, H b = some x -> H7 b = some x := fun b x hx => hfr7 _ _ (nS _ _ (lH2 _ _ (lH1 _ _ hx))) (nHm b x hx) (hH2 _ _ (lH2 _ _ (lH1 _ _ hx)))
 have hnlH : ∀ b x, H b = some x -> b ≠ l := fun b x hx e => nS _ _ (lH2 _ _ (lH1 _ _ hx)) (.inl e)
 have vdb7 := hfr7 _ _ (nS _ _ vdb2) hdm vdb6
 have nml : mb ≠ l := fun e => by obtain ⟨es, cl, h1, _⟩ := hk7; rw [e, vl7] at h1; cases h1
 have ndl : db ≠ l := fun e => by rw [e, vl7] at vdb7; cases vdb7
 refine By1 vl7 (by simp) rfl ?_
 generalize hG : Hp.set H7 l _ = H8
 have h78 : ∀ b x, b ≠ l -> H7 b = some x -> H8 b = some x := fun b x hn hx => by rw [<- hG, Aqp hn]; exact hx
 clear hG
 have vcb8 := h78 _ _ ncl vcb7
 have vob8 := h78 _ _ nol vob7
 have vr8 := h78 _ _ hlr vr7
 have vdb8 := h78 _ _ ndl vdb7
 have l08 : H.le H8 := fun b x hx => h78 _ _ (hnlH b x hx) (hfrm b x hx)
 have hk8 : Aj2 H8 mb ts.length places ts := by obtain ⟨es, cl, h1, h2⟩ := hk7; exact ⟨es, cl, h78 _ _ nml h1, h2⟩
 have hst8 := hd.st.le l08
 have hts8 := hd.truth.le l08
 have nom : ob ≠ mb := fun e => nS _ _ vmb2 (.inr (.inr (.inl e.symm)))
 have ncm : cb ≠ mb := fun e => nS _ _ vmb2 (.inr (.inr (.inr e.symm)))
 have nrm : r ≠ mb := fun e => nS _ _ vmb2 (.inr (.inl e.symm))
 have nHr : ∀ b x, H b = some x -> b ≠ r := fun b x hx e => nS _ _ (lH2 _ _ (lH1 _ _ hx)) (.inr (.inl e))
 have hfirst := fun H' (hd : H' db = some (true, dayO places pieces (.slice sa sn sc) (.slice ca cn cc) (.slice ta ts.length tc) mb)) (hs : SlI H' (.slice sa sn sc) start) => Aj6 main H' db places pieces _ _ _ start mb hd hs hst6 (by omega)
 clear h78 vcb7 vob7 vr7 vdb7 vl7 hk7 hfr7 hfrm hH2 vdb6 hd6 l06 vdb2 vmb2 vdb5 vmb5 hd5 l05 vcb5 vob5 vth5 l25 vl6 vr6 l56 nS ntv nth e24 hd1 hd2 vvb hob hcb2 hr hl hnl lH1 lH2 hvb hdb hmb
 (try simp only [nq, ↓reduceIte, Nat.reduceEqDiff])
 refine Aql ?_
 refine Aye (fun HX => HX cb = some (true, .cells #[.slice (some ⟨ob, 0, none⟩) ts.length ts.length] 22 (0, 0)) /\ HX db = some (true, dayO places pieces (.slice sa sn sc) (.slice ca cn cc) (.slice ta ts.length tc) mb) /\ SlI HX (.slice sa sn sc) start) 8 [(true, 0), (true, 1), (true, 2), (true, 3), (false, 4), (true, 5), (true, 6), (true, 7)] (by kernel_rfl) (by kernel_rfl) (by simp) (by kernel_rfl) ?_; intro K hK
 (iterate 3 (apply Ajc rfl rfl rfl (by exact ⟨vcb8, vdb8, hst8⟩); (focus (intro HX hHX; have hX1 := hHX.1; have hX2 := hHX.2; clear hHX; simp -implicitDefEqProofs (disch := first | omega | (simp only [qd] <;> omega)) only [xq, ↓xp, qc, Nat.reduceAdd, List.range, List.range.loop, fine, Nat.reduceEqDiff, ↓reduceIte, yielded, reduceCtorEq, Nat.reduceLT, Nat.reduceMul, Nat.reduceSub, one, Nat.reduceLeDiff, Aqa, Az9, aq, ↓ap, qe0, qe1, qe2, *, -hK, Aq0] <;> (first | exact rfl | exact ⟨rfl, rfl⟩ | exact ⟨rfl, trivial⟩))); simp -implicitDefEqProofs (disch := first | omega | (simp only [qd] <;> omega)) only [Aqn, Aqc]))
 (apply Ajc rfl rfl rfl ⟨vcb8, vdb8, hst8⟩; (focus (intro HX hHX; (refine @unH _ ?_; refine zX (And.intro Az9 @Azl) ?_); exact Azo (hfirst HX hHX.2.1 hHX.2.2))); simp -implicitDefEqProofs (disch := omega) only [Aqn, Aqc])
 refine Ajk ?_
 have hl2 := Ajt main db places pieces _ _ _ ts mb hdm (by omega) hts6 ts.length 0 (oOf start) H8 rfl (by omega) (Ava start 0 (by omega) hst6) vdb8 hts8 hk8
 simp only [Avv] at hl2
 (refine @unH _ ?_; refine zX Az9 ?_)
 refine hl2.runs.mono ?_
 rintro _ H9 ⟨rfl, hL9, hk9⟩
 rw [List.drop_zero]
 have vcb9 := hL9.keeps vcb8 ncm
 have vdb9 := hL9.keeps vdb8 hdm
 have vr9 := hL9.keeps vr8 nrm
 have vob9 := hL9.keeps vob8 nom
 have hst9 : SlI H9 (.slice sa sn sc) start := hst8.lexMap hL9 (show H8 mb = some (true, _) from (Classical.choose_spec (Classical.choose_spec hk8)).1)
 have l09 : H.le H9 := fun b x hx => hL9.keeps (l08 _ _ hx) (nHm b x hx)
 clear hl2 vcb8 vdb8 vr8 vob8 hst8 hts8 hk8 hL9 hk9 l08 hfirst
 (refine @unH _ ?_; refine zX Az9 ?_)
 refine ⟨.inr trivial, ?_⟩
 (iterate 3 (apply Ajc rfl rfl rfl (by exact ⟨vcb9, vdb9, hst9⟩); (focus (intro HX hHX; have hX1 := hHX.1; have hX2 := hHX.2; clear hHX; simp -implicitDefEqProofs (disch := first | omega | (simp only [qd] <;> omega)) only [xq, ↓xp, qc, Nat.reduceAdd, List.range, List.range.loop, fine, Nat.reduceEqDiff, ↓reduceIte, yielded, reduceCtorEq, Nat.reduceLT, Nat.reduceMul, Nat.reduceSub, one, Nat.reduceLeDiff, Aqa, Az9, aq, ↓ap, qe0, qe1, qe2, *, -hK, Aq0] <;> (first | exact rfl | exact ⟨rfl, rfl⟩ | exact ⟨rfl, trivial⟩))); simp -implicitDefEqProofs (disch := first | omega | (simp only [qd] <;> omega)) only [Aqn, Aqc]))
 refine Ax1 (hK _ _ ?_)
 clear hK K
 (try simp only [nq, ↓reduceIte, Nat.reduceEqDiff])
 refine Ax7 ?_
 refine Avn vr9 ?_
 rw [Bq9 Tryz.results37 (by decide) (by decide) (by decide)]
 simp only [Aqr, Nat.reduceEqDiff, ↓reduceIte]
 have nor : ob ≠ r := fun e => by rw [e, vr9] at vob9; cases vob9
 have hv : SlI (H9.set r (.deferred none)) (.slice (some ⟨ob, 0, none⟩) ts.length ts.length) (Aj9 ts.length places ts (oOf start)) := by
  refine ⟨some ⟨ob, 0, none⟩, ts.length, ?_, ?_, fun i x hi => ⟨ob, 0, true, (ints (Aj9 ts.length places ts (oOf start))).toArray, (0, 0), rfl, ?_, ?_⟩⟩
  ·rw [Ajb]
  ·rw [Ajb]; exact Nat.le_refl _
  ·rw [Aqp nor]; exact vob9
  ·rw [Nat.zero_add]; simpa using Ajv hi
 exact ⟨_, rfl, hv, fun b x hx => by rw [Aqp (nHr b x hx)]; exact l09 _ _ hx⟩
end Go.Proofs.YtgniilnljeedlaaGreatDoor
end
