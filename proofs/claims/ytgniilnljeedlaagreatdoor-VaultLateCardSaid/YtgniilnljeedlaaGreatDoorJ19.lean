/- Texts VChoose VCount. -/
import Derived.Test.YtgniilnljeedlaaGreatDoorJ18
set_option linter.defProp false
set_option linter.unusedSimpArgs false
set_option linter.unusedVariables false
set_option maxRecDepth 100000
set_option maxHeartbeats 2000000
section
namespace Go.Proofs.YtgniilnljeedlaaGreatDoor
open Go Go.X
def Axi := And.intro (fun H => Aqh (H := H) Tryz.underlying105 (i := 0) rfl (off := 0) rfl Tryz.sizeOf3) (And.intro (fun H => Aqd (H := H) Tryz.underlying3 rfl) (And.intro (fun H => Aqd (H := H) Tryz.underlying78 rfl) (And.intro (fun H => Aqh (H := H) Tryz.underlying97 (i := 1) rfl (off := 4) rfl Tryz.sizeOf22) (And.intro (fun H => Aqd (H := H) Tryz.underlying22 rfl) (And.intro (fun H => Aq5 (H := H) Tryz.underlying22) (And.intro (fun H => Aqd (H := H) Tryz.underlying158 rfl) (And.intro (fun H => Aqx (H := H) Tryz.underlying85 rfl Tryz.sizeOf85) (And.intro (fun H => Aqx (H := H) Tryz.underlying105 rfl Tryz.sizeOf105) (And.intro @Bzt (And.intro @Axp (And.intro (fun H => Aqh (H := H) Tryz.underlying105 (i := 1) rfl (off := 1) rfl Tryz.sizeOf92) (And.intro (fun H => Aqd (H := H) Tryz.underlying92 rfl) (And.intro @Bzu (And.intro (fun H => Aqq (H := H) Tryz.underlying22 Tryz.sizeOf3) (And.intro @Bzv (And.intro (fun H => Aq1 (H := H) (P := Tryz.prog) (h := Tryz.zeroValue105)) (And.intro (fun H => Aq4 (H := H) Tryz.sizeOf105) (And.intro @Bqj (And.intro (fun H => Ax7 (H := H) Tryz.underlying85 Tryz.sizeOf3) (And.intro (fun H => Axo (H := H) Tryz.sizeOf3) (fun H => Aqd (H := H) Tryz.underlying159 rfl)))))))))))))))))))))
theorem Bwx (main : Md) {S : Nat -> Prop} {A : List Int -> Prop} {T : Bool -> List (List Int) -> Hp -> Prop} {yf : Fn} {yi yc : Array Value} {pl pieces : Int} {sv cv tv : Value} {ts : List Int} {thisb db mb yb ab gb : Nat} (hdm : db ≠ mb) (hln : ts.length <= 8) (hts6 : ∀ t ∈ ts, 0 <= t /\ t < 6) (h1 : 1 <= pl)
  (hC : Akq Tryz.prog main (.func yf yi yc) S (fun H v xs => v = .agg (ints xs).toArray) A T) (hgo : ∀ L H, ¬ T false L H) (hA : ∀ l, l.length = 8 -> A l) :
  ∀ (n c m : Nat) (base : Hp) (xs : List Int) (L : List (List Int)) (H : Hp), ts.length - c = n -> c <= ts.length -> m < 64 -> Akn base S T (.func yf yi yc) pl pieces sv cv tv ts thisb db mb yb ab gb true L xs H ->
   FnX Tryz.prog main 117 #[Av0 c m, .pointer (some ⟨thisb, 0, none⟩), .pointer (some ⟨yb, 0, none⟩), .pointer (some ⟨ab, 0, none⟩), .pointer (some ⟨gb, 0, none⟩)] H fun e H' => e = .returned (.bool true) /\
    ∃ xs', xs'.take c = xs.take c /\ xs'.drop ts.length = xs.drop ts.length /\ Akn base S T (.func yf yi yc) pl pieces sv cv tv ts thisb db mb yb ab gb true (L ++ (Axl ts.length pl (ts.drop c) m).map fun cs => xs.take c ++ cs ++ xs.drop ts.length) xs' H' := by
 intro n
 induction n using Nat.strongRecOn with
 | _ n ih =>
 intro c m base xs L H hn hc hm hP
 simp only [Av0]
 refine Aqk Tryz.func117 rfl Tryz.ntmps117 (by simp) ?_
 (refine @unH _ ?_; refine zS Axi ?_; (repeat (refine inC ?_; intro hc)); try (refine inK ?_; intro K hK))
 (intro sb hsb; generalize hG : Hp.set _ sb _ = H1; have lH1 := Aqg hG hsb; have vsb := Aqf hG; clear hG)
 have hP1 := hP.le hC lH1
 have nsb : ¬ S sb := fun h => hC.ex _ _ _ _ hP.cl h hsb
 have nsm : sb ≠ mb := fun e => by obtain ⟨es, cl, h1, h2⟩ := hP.known; rw [e, h1] at hsb; cases hsb
 clear hP lH1 hsb
 ((try (refine @unH _ ?_; refine zX Axi ?_)); (try (refine hK _ _ ?_; clear hK K; (try simp only [nq, ↓reduceIte, Nat.reduceEqDiff]))); refine @unH _ ?_; refine zS Axi ?_; (repeat (refine inC ?_; intro hc)); try (refine inK ?_; intro K hK))
 have vsb0 := vsb
 have vth := hP1.th
 have vdb := hP1.day
 obtain ⟨ta, tc, rfl, htc, _⟩ := id hP1.tr
 simp only [dayO] at vdb
 refine Axq (Aql (Aql ?_))
 (refine Az4 8 [(true, 0), (true, 1), (true, 2), (true, 3), (true, 4), (true, 5), (true, 6), (true, 7)] (by kernel_rfl) (by kernel_rfl) (by simp) (by kernel_rfl) ?_; intro K hK; (iterate 8 (refine @unH _ ?_; refine z3 Axi ?_)); refine Ax2 (hK _ _ ?_); clear hK K; (try simp only [nq, ↓reduceIte, Nat.reduceEqDiff]))
 by_cases hce : c = ts.length
 ·subst hce
  have vyb := hP1.vy
  have vab := hP1.va
  (refine @unH _ ?_; refine zA Axi ?_; (repeat (refine inC ?_; intro hc)); try (refine inK ?_; intro K hK))
  have htk : List.take 8 (ints xs) = ints xs := List.take_of_length_le (by rw [Aq8, hP1.l8]; omega)
  rw [htk]
  refine ⟨by rw [Aq8, hP1.l8]; omega, Bkb.use (hC.call L H1 _ xs hP1.cl rfl (hA _ hP1.l8)) ?_⟩
  rintro _ H2 ⟨t, rfl, hT, hk⟩
  cases t with
  | false => exact absurd hT (hgo _ H2)
  | true =>
   have hP2 : Akn base S T (.func yf yi yc) pl pieces sv cv (.slice ta ts.length tc) ts thisb db mb yb ab gb true (L ++ [xs]) xs H2 := by
    refine { hP1 with cl := hT, th := hk _ _ hP1.nth hP1.th, day := hk _ _ hP1.nd hP1.day, tr := hP1.tr.kept (fun hne b x hb hx => hk _ _ (hP1.nt hne b hb) hx), known := ?_, vy := hk _ _ hP1.ny hP1.vy, va := hk _ _ hP1.na hP1.va, vg := hk _ _ hP1.ng hP1.vg, fr := fun b x h0 h1 h2 hx => hk _ _ h0 (hP1.fr b x h0 h1 h2 hx) }
    obtain ⟨es, cl, h1, h2⟩ := hP1.known
    exact ⟨es, cl, hk _ _ hP1.nm h1, h2⟩
   clear hk htk vyb vab vth vdb vsb vsb0 hP1
   ((try (refine @unH _ ?_; refine zX Axi ?_)); (try (refine hK _ _ ?_; clear hK K; (try simp only [nq, ↓reduceIte, Nat.reduceEqDiff]))); refine @unH _ ?_; refine zA Axi ?_; (repeat (refine inC ?_; intro hc)); try (refine inK ?_; intro K hK))
   (refine @unH _ ?_; refine z9 Tryz.results117 ?_)
   refine ⟨by trivial, xs, rfl, rfl, ?_⟩
   rw [List.drop_length]
   simpa [Axl] using hP2
 ·have hlt : c < ts.length := by omega
  have hct : ts[c]? = some ts[c] := List.getElem?_eq_getElem hlt
  have hdrop : ts.drop c = ts[c] :: ts.drop (c + 1) := List.drop_eq_getElem_cons hlt
  generalize ts[c] = t at hct hdrop
  have ht6 := hts6 t (List.mem_of_getElem? hct)
  have hneeds := Ayo main H1 db pl pieces sv cv _ ts mb hP1.day hP1.tr c m t hct ht6.1 ht6.2 hm
  (refine @unH _ ?_; refine zS Axi ?_; (repeat (refine inC ?_; intro hc)); try (refine inK ?_; intro K hK))
  refine hneeds.runs.mono ?_
  rintro _ H2 ⟨rfl, lH2⟩
  have hP2 := hP1.le hC lH2
  have vsb2 := lH2 _ _ vsb
  have vth2 := hP2.th
  have vdb2 := hP2.day
  simp only [dayO] at vdb2
  clear hneeds hP1 vth vdb vsb vsb0 lH2
  ((try (refine @unH _ ?_; refine zX Axi ?_)); (try (refine hK _ _ ?_; clear hK K; (try simp only [nq, ↓reduceIte, Nat.reduceEqDiff]))); refine @unH _ ?_; refine zS Axi ?_; (repeat (refine inC ?_; intro hc)); try (refine inK ?_; intro K hK))
  (intro lb hlb; generalize hG : Hp.set _ lb _ = H3; have lH3 := Aqg hG hlb; have vlb := Aqf hG; clear hG)
  have hP3 := hP2.le hC lH3
  have nlS : ¬ S lb := fun h => hC.ex _ _ _ _ hP2.cl h hlb
  have nlm : lb ≠ mb := fun e => by obtain ⟨es, cl, h1, h2⟩ := hP2.known; rw [e, h1] at hlb; cases hlb
  have nla : lb ≠ ab := fun e => by have h := hP2.va; rw [<- e, hlb] at h; cases h
  have vsb3 := lH3 _ _ vsb2
  clear lH3 hP2 vsb2 vth2 vdb2 hlb
  ((try (refine @unH _ ?_; refine zX Axi ?_)); (try (refine hK _ _ ?_; clear hK K; (try simp only [nq, ↓reduceIte, Nat.reduceEqDiff]))); refine @unH _ ?_; refine zS Axi ?_; (repeat (refine inC ?_; intro hc)); try (refine inK ?_; intro K hK))
  refine Akh (fun a' H' => ∃ e, a' = act 65 e [] /\ e 1 = .pointer (some ⟨thisb, 0, none⟩) /\ e 2 = .pointer (some ⟨yb, 0, none⟩) /\ e 3 = .pointer (some ⟨ab, 0, none⟩) /\ e 4 = .pointer (some ⟨gb, 0, none⟩) /\ e 5 = .pointer (some ⟨sb, 0, none⟩) /\ e 8 = .bool (!m.testBit t.toNat && decide (pl <= Aq3 m)) /\ e 9 = .slice (some ⟨lb, 0, none⟩) 1 1 /\ e 10 = .int .i64 (Azc m t : Nat) /\ H' = H3) ?_ ?_
  ·cases htb : m.testBit t.toNat
   ·have hcost : Azc m t = 1 := by simp [Azc, htb]
    rw [hcost]
    (refine @unH _ ?_; refine zA Axi ?_; (repeat (refine inC ?_; intro hc)); try (refine inK ?_; intro K hK))
    all_goals exact ⟨_, rfl, rfl, rfl, rfl, rfl, rfl, rfl, rfl, rfl, by trivial⟩
   ·have hcost : Azc m t = 0 := by simp [Azc, htb]
    rw [hcost]
    (refine @unH _ ?_; refine zA Axi ?_; (repeat (refine inC ?_; intro hc)); try (refine inK ?_; intro K hK))
    all_goals exact ⟨_, rfl, rfl, rfl, rfl, rfl, rfl, rfl, rfl, rfl, by trivial⟩
  ·rintro a' H' ⟨e, rfl, e1, e2, e3, e4, e5, e8, e9, e10, rfl⟩
   have vlb3 := vlb
   have hl1 : SlI H' (.slice (some ⟨lb, 0, none⟩) 1 1) [-1] := ⟨some ⟨lb, 0, none⟩, 1, rfl, by simp, fun i x hi => ⟨lb, 0, true, _, (0, 0), rfl, vlb3, by
    cases i with
    | zero => simp at hi; subst hi; rfl
    | succ i => simp at hi⟩⟩
   clear vlb vlb3
   refine Akh (fun a' H'' => ∃ e lv, a' = act 65 e [] /\ e 1 = .pointer (some ⟨thisb, 0, none⟩) /\ e 2 = .pointer (some ⟨yb, 0, none⟩) /\ e 3 = .pointer (some ⟨ab, 0, none⟩) /\ e 4 = .pointer (some ⟨gb, 0, none⟩) /\ e 5 = .pointer (some ⟨sb, 0, none⟩) /\ e 9 = lv /\ SlI H'' lv (Axz pl m t) /\ (∀ b, rowB lv = some b -> ¬ S b /\ b ≠ mb /\ b ≠ ab) /\ e 10 = .int .i64 (Azc m t : Nat) /\ H'.le H'') ?_ ?_
   ·cases hcan : (!m.testBit t.toNat && decide (pl <= Aq3 m))
    ·have hopt : Axz pl m t = [-1] := by
      unfold Axz
      split
      ·rfl
      ·rw [if_neg]
       rename_i h
       simpa [h] using hcan
     rw [hopt]
     rw [hcan] at e8
     clear hcan
     (refine @unH _ ?_; refine zA Axi ?_; (repeat (refine inC ?_; intro hc)); try (refine inK ?_; intro K hK))
     all_goals exact ⟨_, _, rfl, e1, e2, e3, e4, e5, e9, hl1, fun b hb => (by cases hb; exact ⟨nlS, nlm, nla⟩), e10, Hp.le_refl _⟩
    ·have hopt : Axz pl m t = Ax4 m := by
      simp only [Bool.and_eq_true, Bool.not_eq_true', decide_eq_true_eq] at hcan
      unfold Axz
      rw [if_neg (by rw [hcan.1]; simp), if_pos hcan.2]
     rw [hopt]
     rw [hcan] at e8
     clear hcan hl1
     (refine @unH _ ?_; refine zA Axi ?_; (repeat (refine inC ?_; intro hc)); try (refine inK ?_; intro K hK))
     refine (Bkq main H' m hm).runs.mono ?_
     rintro _ H4 ⟨lv, rfl, hlv, lH4, hlf⟩
     obtain ⟨lva, lvc, rfl, _, _⟩ := id hlv
     ((try (refine @unH _ ?_; refine zX Axi ?_)); (try (refine hK _ _ ?_; clear hK K; (try simp only [nq, ↓reduceIte, Nat.reduceEqDiff]))); refine @unH _ ?_; refine zA Axi ?_; (repeat (refine inC ?_; intro hc)); try (refine inK ?_; intro K hK))
     all_goals exact ⟨_, _, rfl, e1, e2, e3, e4, e5, rfl, hlv, fun b hb => by
      have hbn : H' b = none := by
       cases lva with
       | none => cases hb
       | some x => cases hb; exact hlf _ _ _ rfl
      exact ⟨fun h => hC.ex _ _ _ _ hP3.cl h hbn, fun e => (by obtain ⟨es, cl, h1, h2⟩ := hP3.known; rw [e, h1] at hbn; cases hbn), fun e => (by have h := hP3.va; rw [<- e, hbn] at h; cases h)⟩, e10, lH4⟩
   ·rintro a' H4 ⟨e, lv, rfl, e1, e2, e3, e4, e5, e9, hlv, hlf, e10, lH4⟩
    have hP4 := hP3.le hC lH4
    have vsb4 := lH4 _ _ vsb3
    clear hP3 vsb3 lH4 hl1
    have hos6 : ∀ x ∈ Axz pl m t, -1 <= x /\ x < 6 := fun x hx => by
     unfold Axz at hx
     split at hx
     ·rw [List.mem_singleton.1 hx]; omega
     ·split at hx
      ·have := Aja hx; omega
      ·rw [List.mem_singleton.1 hx]; omega
    have hol : (Axz pl m t).length <= 1000 := by
     unfold Axz
     split
     ·simp
     ·split
      ·rw [Ak3]; have := Aw4 m hm; omega
      ·simp
    have hbest := Bqq ts.length pl h1 t (ts.drop (c + 1)) m (by rw [<- hdrop, List.length_drop]; omega)
    have hbs : Axl ts.length pl (ts.drop c) m = (Axz pl m t).flatMap fun s => if Azc m t + optF ts.length pl (ts.drop (c + 1)) (Aqv m s t) <= optF ts.length pl (t :: ts.drop (c + 1)) m then (Axl ts.length pl (ts.drop (c + 1)) (Aqv m s t)).map (s :: ·) else [] := by
     rw [hdrop]; rfl
    have hcost : Azc m t <= 1 := by unfold Azc; split <;> omega
    obtain ⟨lva, lvc, rfl, _, _⟩ := id hlv
    generalize Axz pl m t = os at *
    generalize Azc m t = k at *
    obtain ⟨F, hF⟩ : ∃ F : Int -> List (List Int), F = fun s => if k + optF ts.length pl (ts.drop (c + 1)) (Aqv m s t) <= optF ts.length pl (t :: ts.drop (c + 1)) m then (Axl ts.length pl (ts.drop (c + 1)) (Aqv m s t)).map fun cs => xs.take c ++ (s :: cs) ++ xs.drop ts.length else [] := ⟨_, rfl⟩
    have hFS : (os.flatMap fun s => if k + optF ts.length pl (ts.drop (c + 1)) (Aqv m s t) <= optF ts.length pl (t :: ts.drop (c + 1)) m then (Axl ts.length pl (ts.drop (c + 1)) (Aqv m s t)).map (s :: ·) else []).map (fun cs => xs.take c ++ cs ++ xs.drop ts.length) = os.flatMap F := by
     rw [List.map_flatMap, hF]
     congr 1
     funext s
     split
     ·rw [List.map_map]; rfl
     ·rfl
    rw [<- hbs] at hFS
    replace hFS : Aqs _ := hFS
    replace hF : Aqs _ := hF
    replace hgo : Aqs _ := hgo
    replace hA : Aqs _ := hA
    replace ih : Aqs _ := ih
    clear hbs hbest
    (refine @unH _ ?_; refine zA Axi ?_; (repeat (refine inC ?_; intro hc)); try (refine inK ?_; intro K hK))
    refine Axe (fun w a' H' => ∃ e i ys, w = os.length - i /\ i <= os.length /\ a' = act 65 e [] /\ e 1 = .pointer (some ⟨thisb, 0, none⟩) /\ e 2 = .pointer (some ⟨yb, 0, none⟩) /\ e 3 = .pointer (some ⟨ab, 0, none⟩) /\ e 4 = .pointer (some ⟨gb, 0, none⟩) /\ e 5 = .pointer (some ⟨sb, 0, none⟩) /\ e 10 = .int .i64 k /\ e 37 = .slice lva os.length lvc /\ e 38 = .int .i64 os.length /\ e 39 = .int .i64 (i : Nat) /\ SlI H' (.slice lva os.length lvc) os /\ H' sb = some (true, .cells #[.int .i64 c, .int .u8 m] 105 (0, 0)) /\ Aqs (ys.take c = xs.take c /\ ys.drop ts.length = xs.drop ts.length) /\ Akn base S T (.func yf yi yc) pl pieces sv cv (.slice ta ts.length tc) ts thisb db mb yb ab gb true (L ++ (os.take i).flatMap F) ys H') (n := os.length) ?_ ?_
    ·exact ⟨_, 0, xs, by omega, by omega, rfl, e1, e2, e3, e4, e5, e10, rfl, rfl, rfl, hlv, vsb4, ⟨rfl, rfl⟩, by simpa using hP4⟩
    ·clear e1 e2 e3 e4 e5 e9 e10 hlv vsb4 hP4
     rintro w a' H5 ⟨e, i, ys, rfl, hi, rfl, e1, e2, e3, e4, e5, e10, e37, e38, e39, hlv, vsb5, hys, hP5⟩
     by_cases hlt2 : i < os.length
     ·obtain ⟨b6, o6, p6, c6, fr6, hlva, hb6, hc6⟩ := SlI.get hlv (List.getElem?_eq_getElem hlt2)
      have hsi := List.getElem?_eq_getElem hlt2
      have hs6 := hos6 os[i] (List.getElem_mem hlt2)
      generalize os[i] = s at *
      subst hlva
      have vth5 := hP5.th
      have hc6' : c6[o6 + (i : Int).toNat * 1]? = some (.int .i64 s) := by simpa using hc6
      have hnext := Akw main H5 db pl pieces sv cv _ ts mb hP5.day hP5.tr (by omega) c m s t hct ht6.1 ht6.2 hm hs6.2
      simp only [Av0] at hnext
      (refine @unH _ ?_; refine zA Axi ?_; (repeat (refine inC ?_; intro hc)); try (refine inK ?_; intro K hK))
      refine hnext.runs.mono ?_
      rintro _ H6 ⟨rfl, lH6⟩
      have hP6 := hP5.le hC lH6
      have vsb6 := lH6 _ _ vsb5
      have hlv6 := hlv.le lH6
      have hm' := Aks (sent := s) hm hs6.2 ht6.1 ht6.2
      clear hnext hP5 vsb5 hlv vth5 hb6 hc6 hc6' lH6
      ((try (refine @unH _ ?_; refine zX Axi ?_)); (try (refine hK _ _ ?_; clear hK K; (try simp only [nq, ↓reduceIte, Nat.reduceEqDiff]))); refine @unH _ ?_; refine zA Axi ?_; (repeat (refine inC ?_; intro hc)); try (refine inK ?_; intro K hK))
      (intro nb hnb; generalize hG : Hp.set _ nb _ = H7; have lH7 := Aqg hG hnb; have vnb := Aqf hG; clear hG)
      have hP7 := hP6.le hC lH7
      have vsb7 := lH7 _ _ vsb6
      have hlv7 := hlv6.le lH7
      have nnm : nb ≠ mb := fun e => by obtain ⟨es, cl, h1, h2⟩ := hP6.known; rw [e, h1] at hnb; cases hnb
      clear hP6 vsb6 hlv6 lH7 hnb
      ((try (refine @unH _ ?_; refine zX Axi ?_)); (try (refine hK _ _ ?_; clear hK K; (try simp only [nq, ↓reduceIte, Nat.reduceEqDiff]))); refine @unH _ ?_; refine zS Axi ?_; (repeat (refine inC ?_; intro hc)); try (refine inK ?_; intro K hK))
      have vth7 := hP7.th
      repeat refine Aql ?_
      refine Ayj (fun HX => HX thisb = some (true, .cells #[.pointer (some ⟨db, 0, none⟩)] 78 (0, 0)) /\ HX nb = some (true, .cells #[.int .i64 (c + 1 : Nat), .int .u8 (Aqv m s t : Nat)] 105 (0, 0)) /\ HX sb = some (true, .cells #[.int .i64 c, .int .u8 m] 105 (0, 0))) 9 [(true, 0), (true, 1), (true, 2), (true, 5), (true, 6), (false, 3), (true, 4), (false, 7), (true, 8)] (by kernel_rfl) (by kernel_rfl) (by simp) (by kernel_rfl) ?_; intro K hK
      (iterate 5 (apply Ajf rfl rfl rfl (by exact ⟨vth7, vnb, vsb7⟩); (focus (intro HX hHX; have hX1 := hHX.1; have hX2 := hHX.2; clear hHX; simp -implicitDefEqProofs (disch := first | omega | (simp only [qd] <;> omega)) only [xq, ↓xp, qc, Nat.reduceAdd, List.range, List.range.loop, fine, Nat.reduceEqDiff, ↓reduceIte, yielded, reduceCtorEq, Nat.reduceLT, Nat.reduceMul, Nat.reduceSub, one, Nat.reduceLeDiff, Aqa, Axi, aq, ↓ap, qe0, qe1, qe2, *, -hK, Aqz] <;> (first | exact rfl | exact ⟨rfl, rfl⟩ | exact ⟨rfl, trivial⟩))); simp -implicitDefEqProofs (disch := first | omega | (simp only [qd] <;> omega)) only [Aqn, Aqc]))
      refine Ajn ?_
      (refine @unH _ ?_; refine zX Axi ?_)
      have hl1 := Ajw main db pl pieces sv cv _ ts mb hdm (by omega) hts6 (ts.length - (c + 1)) (c + 1) (Aqv m s t) H7 rfl (by omega) hm' hP7.day hP7.tr hP7.known
      simp only [Av0] at hl1
      refine hl1.runs.mono ?_
      rintro _ H8 ⟨rfl, hL8, hk8⟩
      have hP8 := hP7.lex hC hL8 hk8
      have vnb8 := hL8.keeps vnb nnm
      have vsb8 := hL8.keeps vsb7 nsm
      have vth8 := hP8.th
      have hlv8 := hlv7.lexMap hL8 (show H7 mb = some (true, _) from (Classical.choose_spec (Classical.choose_spec hP7.known)).1)
      clear hl1 hP7 vnb vsb7 vth7 hlv7 hL8 hk8
      (refine @unH _ ?_; refine zX Axi ?_)
      refine ⟨.inr trivial, ?_⟩
      have w1 : IntKind.i64.wrap ((k : Int) + (optF ts.length pl (ts.drop (c + 1)) (Aqv m s t) : Nat)) = (k : Int) + (optF ts.length pl (ts.drop (c + 1)) (Aqv m s t) : Nat) := w64 _ (by omega) (by have := Bqr ts.length pl (ts.drop (c + 1)) (Aqv m s t); have := List.length_drop (i := c + 1) (l := ts); omega)
      (iterate 1 (apply Ajf rfl rfl rfl (by exact ⟨vth8, vnb8, vsb8⟩); (focus (intro HX hHX; have hX1 := hHX.1; have hX2 := hHX.2; clear hHX; simp -implicitDefEqProofs (disch := first | omega | (simp only [qd] <;> omega)) only [xq, ↓xp, qc, Nat.reduceAdd, List.range, List.range.loop, fine, Nat.reduceEqDiff, ↓reduceIte, yielded, reduceCtorEq, Nat.reduceLT, Nat.reduceMul, Nat.reduceSub, one, Nat.reduceLeDiff, Aqa, Axi, aq, ↓ap, qe0, qe1, qe2, *, -hK, Aqz] <;> (first | exact rfl | exact ⟨rfl, rfl⟩ | exact ⟨rfl, trivial⟩))); simp -implicitDefEqProofs (disch := first | omega | (simp only [qd] <;> omega)) only [Aqn, Aqc]))
      refine Ajn ?_
      (refine @unH _ ?_; refine zX Axi ?_)
      have hl2 := Ajw main db pl pieces sv cv _ ts mb hdm (by omega) hts6 (ts.length - c) c m H8 rfl (by omega) hm hP8.day hP8.tr hP8.known
      simp only [Av0] at hl2
      refine hl2.runs.mono ?_
      rintro _ H9 ⟨rfl, hL9, hk9⟩
      have hP9 := hP8.lex hC hL9 hk9
      have vnb9 := hL9.keeps vnb8 nnm
      have vsb9 := hL9.keeps vsb8 nsm
      have vth9 := hP9.th
      have hlv9 := hlv8.lexMap hL9 (show H8 mb = some (true, _) from (Classical.choose_spec (Classical.choose_spec hP8.known)).1)
      clear hl2 hP8 vnb8 vsb8 vth8 hlv8 hL9 hk9
      rw [hdrop]
      (refine @unH _ ?_; refine zX Axi ?_)
      refine ⟨.inr trivial, ?_⟩
      (iterate 1 (apply Ajf rfl rfl rfl (by exact ⟨vth9, vnb9, vsb9⟩); (focus (intro HX hHX; have hX1 := hHX.1; have hX2 := hHX.2; clear hHX; simp -implicitDefEqProofs (disch := first | omega | (simp only [qd] <;> omega)) only [xq, ↓xp, qc, Nat.reduceAdd, List.range, List.range.loop, fine, Nat.reduceEqDiff, ↓reduceIte, yielded, reduceCtorEq, Nat.reduceLT, Nat.reduceMul, Nat.reduceSub, one, Nat.reduceLeDiff, Aqa, Axi, aq, ↓ap, qe0, qe1, qe2, *, -hK, Aqz] <;> (first | exact rfl | exact ⟨rfl, rfl⟩ | exact ⟨rfl, trivial⟩))); simp -implicitDefEqProofs (disch := first | omega | (simp only [qd] <;> omega)) only [Aqn, Aqc]))
      refine Ax2 (hK _ _ ?_)
      clear hK K w1
      (try simp only [nq, ↓reduceIte, Nat.reduceEqDiff])
      by_cases hbad : k + optF ts.length pl (ts.drop (c + 1)) (Aqv m s t) <= optF ts.length pl (t :: ts.drop (c + 1)) m
      ·
       have vab9 := hP9.va
       have vgb9 := hP9.vg
       have hxl := hP9.l8
       have hil : (ints ys).length = 8 := by rw [Aq8]; exact hxl
       have hc8 : c < (ints ys).length := by omega
       have nga : gb ≠ ab := fun e => by rw [e, vab9] at vgb9; simp at vgb9
       have nsa : sb ≠ ab := fun e => by rw [e, vab9] at vsb9; simp at vsb9
       have nna : nb ≠ ab := fun e => by rw [e, vab9] at vnb9; simp at vnb9
       have hset : (ints ys).set c (.int .i64 s) = ints (ys.set c s) := Az9 _ _ _
       have hFs : Aqs (F s = (Axl ts.length pl (ts.drop (c + 1)) (Aqv m s t)).map fun cs => xs.take c ++ (s :: cs) ++ xs.drop ts.length) := by
        have h : F = _ := hF
        show F s = _
        rw [h]
        simp only [hbad, if_true]
       (refine @unH _ ?_; refine zA Axi ?_; (repeat (refine inC ?_; intro hc)); try (refine inK ?_; intro K hK))
       have hP10 : Akn base S T (.func yf yi yc) pl pieces sv cv (.slice ta ts.length tc) ts thisb db mb yb ab gb true (L ++ (os.take i).flatMap F) (ys.set c s) (H9.set ab (.cells (ints (ys.set c s)).toArray 85 (0, 0))) := hP9.put hC c s
       have hlv10 : SlI (H9.set ab (.cells (ints (ys.set c s)).toArray 85 (0, 0))) (.slice (some ⟨b6, o6, none⟩) os.length lvc) os := hlv9.set fun p c fr h => by rw [vab9] at h; cases h
       have vsb10 : (H9.set ab (.cells (ints (ys.set c s)).toArray 85 (0, 0))) sb = _ := (Aqp nsa).trans vsb9
       have hP10b : Akn (H9.set ab (.cells (ints (ys.set c s)).toArray 85 (0, 0))) S T (.func yf yi yc) pl pieces sv cv (.slice ta ts.length tc) ts thisb db mb yb ab gb true (L ++ (os.take i).flatMap F) (ys.set c s) (H9.set ab (.cells (ints (ys.set c s)).toArray 85 (0, 0))) := { hP10 with fr := fun b x _ _ _ hx => hx }
       generalize H9.set ab (.cells (ints (ys.set c s)).toArray 85 (0, 0)) = H10 at *
       clear nna vnb9 vsb9 vgb9 hlv9 vth9 vab9 nga hP9 hset
       have hrec := (show ∀ n', n' < n -> _ from ih) (ts.length - (c + 1)) (by omega) (c + 1) (Aqv m s t) H10 (ys.set c s) _ H10 rfl (by omega) hm' hP10b
       rw [Bzw, Ax9]
       simp only [Array.empty_append, List.append_toArray, List.cons_append, List.nil_append]
       simp only [Av0] at hrec
       refine hrec.runs.mono ?_
       rintro _ H11 ⟨rfl, zs, hz1, hz2, hP11⟩
       obtain ⟨hy1, hy2⟩ := (show ys.take c = xs.take c /\ ys.drop ts.length = xs.drop ts.length from hys)
       have hlv11 := hlv10.kept (fun _ b x hb hx => hP11.fr b x (hlf b hb).1 (hlf b hb).2.1 (hlf b hb).2.2 hx)
       have vsb11 := hP11.fr sb _ nsb nsm nsa vsb10
       have hP12 : Akn base S T (.func yf yi yc) pl pieces sv cv (.slice ta ts.length tc) ts thisb db mb yb ab gb true (L ++ (os.take (i + 1)).flatMap F) zs H11 := by
        have h12 : Akn base S T (.func yf yi yc) pl pieces sv cv (.slice ta ts.length tc) ts thisb db mb yb ab gb true _ zs H11 := { hP11 with fr := fun b x h0 h1 h2 hx => hP11.fr b x h0 h1 h2 (hP10.fr b x h0 h1 h2 hx) }
        have hl : L ++ (os.take (i + 1)).flatMap F = L ++ (os.take i).flatMap F ++ (Axl ts.length pl (ts.drop (c + 1)) (Aqv m s t)).map fun cs => (ys.set c s).take (c + 1) ++ cs ++ (ys.set c s).drop ts.length := by
         rw [List.take_add_one, hsi, Option.toList_some, List.flatMap_append, List.flatMap_singleton, show F s = _ from hFs, List.append_assoc, List.drop_set_of_lt (by omega), Awl _ _ _ (by omega), hy1, hy2]
         simp
        rw [hl]
        exact h12
       have hzs : Aqs (zs.take c = xs.take c /\ zs.drop ts.length = xs.drop ts.length) := by
        refine ⟨?_, ?_⟩
        ·have := congrArg (List.take c) hz1
         rw [List.take_take, List.take_take, Nat.min_eq_left (by omega), List.take_set_of_le (Nat.le_refl _)] at this
         exact this.trans hy1
        ·rw [hz2, List.drop_set_of_lt (by omega)]; exact hy2
       clear hrec hP10 hP10b hP11 hlv10 vsb10 hz1 hz2 hy1 hy2 hFs
       ((try (refine @unH _ ?_; refine zX Axi ?_)); (try (refine hK _ _ ?_; clear hK K; (try simp only [nq, ↓reduceIte, Nat.reduceEqDiff]))); refine @unH _ ?_; refine zA Axi ?_; (repeat (refine inC ?_; intro hc)); try (refine inK ?_; intro K hK))
       refine ⟨_, ?_, _, i + 1, zs, rfl, by omega, rfl, e1, e2, e3, e4, e5, e10, e37, e38, rfl, hlv11, vsb11, hzs, hP12⟩
       omega
      ·have hFs : F s = [] := by
        have h : F = _ := hF
        rw [h]
        simp only [hbad, if_false]
       have hP12 : Akn base S T (.func yf yi yc) pl pieces sv cv (.slice ta ts.length tc) ts thisb db mb yb ab gb true (L ++ (os.take (i + 1)).flatMap F) ys H9 := by
        rw [List.take_add_one, hsi, Option.toList_some, List.flatMap_append, List.flatMap_singleton, hFs, List.append_nil]
        exact hP9
       replace hFs : Aqs _ := hFs
       (refine @unH _ ?_; refine zA Axi ?_; (repeat (refine inC ?_; intro hc)); try (refine inK ?_; intro K hK))
       refine ⟨_, ?_, _, i + 1, ys, rfl, by omega, rfl, e1, e2, e3, e4, e5, e10, e37, e38, rfl, hlv9, vsb9, hys, hP12⟩
       omega
     ·obtain rfl : i = os.length := by omega
      (refine @unH _ ?_; refine zA Axi ?_; (repeat (refine inC ?_; intro hc)); try (refine inK ?_; intro K hK))
      (refine @unH _ ?_; refine z9 Tryz.results117 ?_)
      obtain ⟨hy1, hy2⟩ := (show ys.take c = xs.take c /\ ys.drop ts.length = xs.drop ts.length from hys)
      refine ⟨by trivial, ys, hy1, hy2, ?_⟩
      have h : _ = os.flatMap F := hFS
      rw [h]
      rw [List.take_length] at hP5
      exact hP5
def Awt := And.intro (fun H => Aqx (H := H) Tryz.underlying25 rfl Tryz.sizeOf25) (And.intro @Bxy (And.intro (fun H => Aq1 (H := H) (P := Tryz.prog) (h := Tryz.zeroValue3)) (And.intro (fun H => Axo (H := H) Tryz.sizeOf3) (And.intro @Cql (fun H => Aqd (H := H) Tryz.underlying3 rfl)))))
def Bq0 := And.intro (fun H => Aq1 (H := H) (P := Tryz.prog) (h := Tryz.zeroValue85)) (And.intro (fun H => Aq1 (H := H) (P := Tryz.prog) (h := Tryz.zeroValue159)) (And.intro (fun H => Aye (H := H) Tryz.sizeOf159) (And.intro (fun H => Ak8 (H := H) Tryz.sizeOf159) (And.intro (fun H => Aqd (H := H) Tryz.underlying159 rfl) (And.intro (fun H => Aqd (H := H) Tryz.underlying78 rfl) @Bqk)))))
theorem Dxf {p q : Prop} (g : q) (h : Hid q -> p := by
 intro g
 repeat' (first
 | (refine Axn rfl ?_; intro Kz hKz; simp -implicitDefEqProofs (disch := first | omega | (simp only [qd] <;> omega)) only [xq, ↓xp, qc, Nat.reduceAdd, List.range, List.range.loop, fine, Nat.reduceEqDiff, ↓reduceIte, yielded, reduceCtorEq, Nat.reduceLT, Nat.reduceMul, Nat.reduceSub, one, Nat.reduceLeDiff, Aqa, Bq0, aq, ↓ap, qe0, qe1, qe2, *, -g, -hKz, Aqt, cells_func, List.size_toArray, List.length_cons, List.length_nil, Nat.reduceAdd, Nat.reduceLT]; try (refine hKz _ _ ?_; clear hKz Kz))
 | (refine Axs rfl ?_; intro Kz hKz; simp -implicitDefEqProofs (disch := first | omega | (simp only [qd] <;> omega)) only [xq, ↓xp, qc, Nat.reduceAdd, List.range, List.range.loop, fine, Nat.reduceEqDiff, ↓reduceIte, yielded, reduceCtorEq, Nat.reduceLT, Nat.reduceMul, Nat.reduceSub, one, Nat.reduceLeDiff, Aqa, Bq0, aq, ↓ap, qe0, qe1, qe2, *, -g, -hKz, Aqt, cells_func, List.size_toArray, List.length_cons, List.length_nil, Nat.reduceAdd, Nat.reduceLT]; try (refine hKz _ _ ?_; clear hKz Kz; (try simp only [nq, ↓reduceIte, Nat.reduceEqDiff])))
 | (refine Aqu ?_; (try simp only [nq, ↓reduceIte, Nat.reduceEqDiff]))
 | (refine Axr ?_; (try simp only [nq, ↓reduceIte, Nat.reduceEqDiff]))
 | (refine Axb ?_; (try simp only [nq, ↓reduceIte, Nat.reduceEqDiff]))
 | (refine Azb ?_; (try simp only [nq, ↓reduceIte, Nat.reduceEqDiff]))
 | (refine Axy (by simp only [Aqm, Aqr, Nat.reduceEqDiff, Nat.reduceLT, ↓reduceIte, *, -g]; rfl) ?_ ?_ <;> (intro hcz; first | (exfalso; simp -implicitDefEqProofs (disch := omega) only [*, -g, bq, reduceCtorEq] at hcz; done) | (simp only [dq, qe3, qe4, qe5, qe6] at hcz) | skip))
 | (refine Axq ?_)
 | (refine Aqo ?_)
 | (refine Aql ?_))
 (try (revert Kz; refine unK ?_)); (repeat (revert hcz; refine unC ?_))
 exact Hid.out g) : Hid p := ⟨h ⟨g⟩⟩
theorem Dje {p q : Prop} (g : q) (h : Hid q -> p := by
 intro g
 simp -implicitDefEqProofs (disch := first | omega | (simp only [qd] <;> omega)) only [xq, ↓xp, qc, Nat.reduceAdd, List.range, List.range.loop, fine, Nat.reduceEqDiff, ↓reduceIte, yielded, reduceCtorEq, Nat.reduceLT, Nat.reduceMul, Nat.reduceSub, one, Nat.reduceLeDiff, Aqa, Bq0, aq, ↓ap, qe0, qe1, qe2, *, -g, -hK, Aqt, cells_func, List.size_toArray, List.length_cons, List.length_nil, Nat.reduceAdd, Nat.reduceLT]
 exact Hid.out g) : Hid p := ⟨h ⟨g⟩⟩
theorem Bkv (main : Md) {S : Nat -> Prop} {A : List Int -> Prop} {T : Bool -> List (List Int) -> Hp -> Prop} {yf : Fn} {yi yc : Array Value} {pl pieces : Int} {sv cv tv : Value} {start ts : List Int} {thisb db mb : Nat} (hdm : db ≠ mb) (hln : ts.length <= 8) (hts6 : ∀ t ∈ ts, 0 <= t /\ t < 6) (h1 : 1 <= pl)
  (hC : Akq Tryz.prog main (.func yf yi yc) S (fun H v xs => v = .agg (ints xs).toArray) A T) (hgo : ∀ L H, ¬ T false L H) (hA : ∀ l, l.length = 8 -> A l) (H : Hp) (hT : T true [] H) (vth : H thisb = some (true, .cells #[.pointer (some ⟨db, 0, none⟩)] 78 (0, 0)))
  (vdb : H db = some (true, dayO pl pieces sv cv tv mb)) (hts : SlI H tv ts) (hst : SlI H sv start) (hs6 : ∀ x ∈ start, 0 <= x /\ x < 6) (hsl : start.length <= 1000) (hk : Aj4 H mb ts.length pl ts) (nth : ¬ S thisb) (nd : ¬ S db) (nm : ¬ S mb) (nt : ts ≠ [] -> ∀ b, rowB tv = some b -> ¬ S b) :
  FnX Tryz.prog main 116 #[.func yf yi yc, .pointer (some ⟨thisb, 0, none⟩)] H fun e H' => e = .returned (.tuple #[]) /\ T true ((Axl ts.length pl ts (oOf start)).map fun cs => cs ++ List.replicate (8 - ts.length) 0) H' /\ Aj4 H' mb ts.length pl ts /\
   ∀ b x, ¬ S b -> b ≠ mb -> H b = some x -> H' b = some x := by
 obtain ⟨es, cl, vmb, hmap⟩ := hk
 refine Aqk Tryz.func116 rfl Tryz.ntmps116 (by simp) ?_
 (refine @unH _ ?_; refine Dxf ?_; (repeat (refine inC ?_; intro hc)); try (refine inK ?_; intro K hK))
 (intro yb hyb; generalize hG : Hp.set _ yb _ = H1; have lH1 := Aqg hG hyb; have vyb := Aqf hG; clear hG)
 have vth1 := lH1 _ _ vth
 have vdb1 := lH1 _ _ vdb
 have vmb1 := lH1 _ _ vmb
 have hT1 := hC.keep _ _ _ H1 hT fun b x _ hx => lH1 _ _ hx
 have ny : ¬ S yb := fun h => hC.ex _ _ _ _ hT h hyb
 ((try (refine @unH _ ?_; refine Dje ?_)); (try (refine hK _ _ ?_; clear hK K; (try simp only [nq, ↓reduceIte, Nat.reduceEqDiff]))); refine @unH _ ?_; refine Dxf ?_; (repeat (refine inC ?_; intro hc)); try (refine inK ?_; intro K hK))
 (intro ab hab; generalize hG : Hp.set _ ab _ = H2; have lH2 := Aqg hG hab; have vab := Aqf hG; clear hG)
 have vyb2 := lH2 _ _ vyb
 have vth2 := lH2 _ _ vth1
 have vdb2 := lH2 _ _ vdb1
 have vmb2 := lH2 _ _ vmb1
 have hT2 := hC.keep _ _ _ H2 hT1 fun b x _ hx => lH2 _ _ hx
 have na : ¬ S ab := fun h => hC.ex _ _ _ _ hT1 h hab
 ((try (refine @unH _ ?_; refine Dje ?_)); (try (refine hK _ _ ?_; clear hK K; (try simp only [nq, ↓reduceIte, Nat.reduceEqDiff]))); refine @unH _ ?_; refine Dxf ?_; (repeat (refine inC ?_; intro hc)); try (refine inK ?_; intro K hK))
 intro gb hgb
 have ng : ¬ S gb := fun h => hC.ex _ _ _ _ hT2 h hgb
 have hle3 : ∀ o, H2.le (H2.set gb o) := fun o => Hp.le_set hgb
 ((try (refine @unH _ ?_; refine Dje ?_)); (try (refine hK _ _ ?_; clear hK K; (try simp only [nq, ↓reduceIte, Nat.reduceEqDiff]))); refine @unH _ ?_; refine Dxf ?_; (repeat (refine inC ?_; intro hc)); try (refine inK ?_; intro K hK))
 generalize hG : Hp.set H2 gb _ = H3
 have l3 : H2.le H3 := hG ▸ Hp.le_set hgb
 have vgb3 : H3 gb = _ := hG ▸ Aqw
 clear hG
 have vth3 := l3 _ _ vth2
 have vdb3 := l3 _ _ vdb2
 have vmb3 := l3 _ _ vmb2
 have l03 : H.le H3 := Hp.le_trans lH1 (Hp.le_trans lH2 l3)
 have hP : Akn H S T (.func yf yi yc) pl pieces sv cv tv ts thisb db mb yb ab gb true [] (List.replicate 8 0) H3 :=
  ⟨hC.keep _ _ _ H3 hT2 fun b x _ hx => l3 _ _ hx, vth3, vdb3, hts.le l03, ⟨es, cl, vmb3, hmap⟩, l3 _ _ vyb2, l3 _ _ vab, vgb3, by simp, nth, nd, nm, nt, ny, na, ng, fun b x _ _ _ hx => l03 _ _ hx⟩
 have hfirst := fun H' (hd : H' db = some (true, dayO pl pieces sv cv tv mb)) (hs : SlI H' sv start) => Aj8 main H' db pl pieces sv cv tv start mb hd hs hs6 (by omega)
 have hst3 := hst.le l03
 have hfr3 : ∀ b x, b ≠ ab -> H b = some x -> H3 b = some x := fun b x _ hx => l03 _ _ hx
 have nHa : ∀ b x, H b = some x -> b ≠ ab := fun b x hx e => by have := lH1 _ _ hx; rw [e, hab] at this; cases this
 clear hT hT1 hT2 vth vdb vmb vth1 vdb1 vmb1 vth2 vdb2 vmb2 lH1 lH2 l3 hle3 vyb vyb2 vab hyb hab hgb hts hst
 refine Az4 3 [(true, 0), (true, 1), (true, 2), (false, 3)] (by kernel_rfl) (by kernel_rfl) (by simp) (by kernel_rfl) ?_; intro K hK
 (iterate 2 (apply Axc rfl rfl rfl; (focus (simp -implicitDefEqProofs (disch := first | omega | (simp only [qd] <;> omega)) only [xq, ↓xp, qc, Nat.reduceAdd, List.range, List.range.loop, fine, Nat.reduceEqDiff, ↓reduceIte, yielded, reduceCtorEq, Nat.reduceLT, Nat.reduceMul, Nat.reduceSub, one, Nat.reduceLeDiff, Aqa, Bq0, aq, ↓ap, qe0, qe1, qe2, *, -hK, Aqz, Aqt, cells_func, List.size_toArray, List.length_cons, List.length_nil, Nat.reduceAdd, Nat.reduceLT] <;> (first | exact rfl | exact ⟨rfl, rfl⟩ | exact ⟨rfl, trivial⟩))); simp -implicitDefEqProofs (disch := first | omega | (simp only [qd] <;> omega)) only [Aqn, Aqc]))
 (apply Axc rfl rfl rfl; (focus (simp -implicitDefEqProofs (disch := first | omega | (simp only [qd] <;> omega)) only [xq, ↓xp, qc, Nat.reduceAdd, List.range, List.range.loop, fine, Nat.reduceEqDiff, ↓reduceIte, yielded, reduceCtorEq, Nat.reduceLT, Nat.reduceMul, Nat.reduceSub, one, Nat.reduceLeDiff, Aqa, Bq0, aq, ↓ap, qe0, qe1, qe2, *, -hK, Azm, Aqt, cells_func, List.size_toArray, List.length_cons, List.length_nil, Nat.reduceAdd, Nat.reduceLT]; exact Azq (hfirst H3 vdb3 hst3))); simp -implicitDefEqProofs (disch := omega) only [Aqn, Aqc])
 refine Ajz ?_
 have hrec := Bwx main hdm hln hts6 h1 hC hgo hA ts.length 0 (oOf start) H (List.replicate 8 0) [] H3 rfl (by omega) (Ak4 start 0 (by omega) hs6) hP
 have hall : (fun cs => (List.replicate 8 (0 : Int)).take 0 ++ cs ++ (List.replicate 8 (0 : Int)).drop ts.length) = fun cs => cs ++ List.replicate (8 - ts.length) 0 := by
  funext cs
  rw [List.take_zero, List.nil_append, List.drop_replicate]
 rw [hall, List.drop_zero, List.nil_append] at hrec
 replace hgo : Aqs _ := hgo
 replace hA : Aqs _ := hA
 simp only [Av0] at hrec
 simp -implicitDefEqProofs (disch := first | omega | (simp only [qd] <;> omega)) only [xq, ↓xp, qc, Nat.reduceAdd, List.range, List.range.loop, fine, Nat.reduceEqDiff, ↓reduceIte, yielded, reduceCtorEq, Nat.reduceLT, Nat.reduceMul, Nat.reduceSub, one, Nat.reduceLeDiff, Aqa, Bq0, aq, ↓ap, qe0, qe1, qe2, *, -hK, Aqt, cells_func, List.size_toArray, List.length_cons, List.length_nil, Nat.reduceAdd, Nat.reduceLT]
 rw [Bzw, Ax9]
 simp only [Array.empty_append, List.append_toArray, List.cons_append, List.nil_append]
 refine hrec.runs.mono ?_
 rintro _ H5 ⟨rfl, xs', _, _, hP5⟩
 simp -implicitDefEqProofs (disch := first | omega | (simp only [qd] <;> omega)) only [xq, ↓xp, qc, Nat.reduceAdd, List.range, List.range.loop, fine, Nat.reduceEqDiff, ↓reduceIte, yielded, reduceCtorEq, Nat.reduceLT, Nat.reduceMul, Nat.reduceSub, one, Nat.reduceLeDiff, Aqa, Bq0, aq, ↓ap, qe0, qe1, qe2, *, -hK, Aqt, cells_func, List.size_toArray, List.length_cons, List.length_nil, Nat.reduceAdd, Nat.reduceLT]
 refine hK _ _ ?_
 (refine @unH _ ?_; refine zD Tryz.results116 ?_)
 exact ⟨rfl, hP5.cl, hP5.known, fun b x hS hbm hx => hP5.fr b x hS hbm (nHa b x hx) hx⟩
theorem Bxo (a : Int) : IntKind.i64.wrap (IntKind.i64.wrap a + 1) = IntKind.i64.wrap (a + 1) := by
 rw [IntKind.wrap_i64, IntKind.wrap_i64, IntKind.wrap_i64]; omega
theorem Cju (pl : Int) (m : Nat) (t : Int) (hm : m < 64) : (Axz pl m t).length <= 6 := by
 unfold Axz
 split
 ·simp
 ·split
  ·rw [Ak3]; exact Aw4 m hm
  ·simp
theorem Bjg {α β : Type} (f : α -> List β) (k : Nat) : ∀ (l : List α), (∀ x ∈ l, (f x).length <= k) -> (l.flatMap f).length <= l.length * k
 | [], _ => by simp
 | x :: l, h => by
  rw [List.flatMap_cons, List.length_append, List.length_cons, Nat.succ_mul]
  have := h x List.mem_cons_self
  have := Bjg f k l fun y hy => h y (List.mem_cons_of_mem _ hy)
  omega
theorem Bxw (L : Nat) (pl : Int) : ∀ (ts : List Int) (m : Nat), m < 64 -> (∀ t ∈ ts, 0 <= t /\ t < 6) -> (Axl L pl ts m).length <= 6 ^ ts.length
 | [], _, _, _ => by simp [Axl]
 | t :: ts, m, hm, ht => by
  unfold Axl
  have h6 := ht t List.mem_cons_self
  have := Bjg (fun s => if Azc m t + optF L pl ts (Aqv m s t) <= optF L pl (t :: ts) m then (Axl L pl ts (Aqv m s t)).map (s :: ·) else []) (6 ^ ts.length) (Axz pl m t) (fun s hs => by
   split
   ·rw [List.length_map]
    exact Bxw L pl ts _ (Aks hm (Azp hs).2 h6.1 h6.2) fun x hx => ht x (List.mem_cons_of_mem _ hx)
   ·simp)
  have h2 := Cju pl m t hm
  refine Nat.le_trans this ?_
  rw [List.length_cons, Nat.pow_succ, Nat.mul_comm (6 ^ ts.length)]
  exact Nat.mul_le_mul_right _ h2
def cntC (l r cb : Nat) (lo : Loop) (t : Bool) (L : List (List Int)) (H : Hp) : Prop :=
 t = true /\ H l = some (true, .loop lo) /\ H r = some (true, .deferred (some [])) /\ H cb = some (true, .cells #[.int .i64 (IntKind.i64.wrap (L.length : Nat))] 3 (0, 0))
theorem Cqu (main : Md) (H : Hp) (places pieces : Int) (sv cv tv : Value) (start : List Int) (xss : List (List Int)) (ts : List Int) (hd : Awx H places pieces sv cv tv start xss ts) :
  FnX Tryz.prog main 39 #[.agg #[.int .i64 places, .int .i64 pieces, sv, cv], tv] H fun e H' => e = .returned (.tuple #[.int .i64 ((Axl ts.length places ts (oOf start)).length : Nat), .int .i64 0]) /\ H.le H' := by
 obtain ⟨sa, sn, sc, rfl⟩ := hd.st.isSlice
 obtain ⟨ca, cn, cc, rfl⟩ := hd.calls.isSlice
 obtain ⟨ta, tc, rfl, htc, _⟩ := id hd.truth
 refine Aqk Tryz.func39 rfl Tryz.ntmps39 (by simp) ?_
 (refine @unH _ ?_; refine zA Awt ?_; (repeat (refine inC ?_; intro hc)); try (refine inK ?_; intro K hK))
 (intro vb hvb; generalize hG : Hp.set _ vb _ = H1; have lH1 := Aqg hG hvb; have vvb := Aqf hG; clear hG)
 have hd1 := hd.le lH1
 ((try (refine @unH _ ?_; refine zX Awt ?_)); (try (refine hK _ _ ?_; clear hK K; (try simp only [nq, ↓reduceIte, Nat.reduceEqDiff]))); refine @unH _ ?_; refine zA Awt ?_; (repeat (refine inC ?_; intro hc)); try (refine inK ?_; intro K hK))
 refine (Akt main H1 places pieces _ _ _ start xss ts hd1).runs.mono ?_
 rintro _ H2 ⟨db, mb, rfl, lH2, hdm, hdb, hmb, vdb, vmb⟩
 have hd2 := hd1.le lH2
 have hl8 : ts.length <= 8 := by have := hd.true.1; have := hd.few; omega
 ((try (refine @unH _ ?_; refine zX Awt ?_)); (try (refine hK _ _ ?_; clear hK K; (try simp only [nq, ↓reduceIte, Nat.reduceEqDiff]))); refine @unH _ ?_; refine zA Awt ?_; (repeat (refine inC ?_; intro hc)); try (refine inK ?_; intro K hK))
 (intro cb hcb; generalize hG : Hp.set _ cb _ = H4; have lH4 := Aqg hG hcb; have vcb := Aqf hG; clear hG)
 have vcb4 := vcb
 have hcb2 := hcb
 have l24 := lH4
 clear lH4 vcb
 ((try (refine @unH _ ?_; refine zX Awt ?_)); (try (refine hK _ _ ?_; clear hK K; (try simp only [nq, ↓reduceIte, Nat.reduceEqDiff]))); refine @unH _ ?_; refine zA Awt ?_; (repeat (refine inC ?_; intro hc)); try (refine inK ?_; intro K hK))
 refine (Awz main H4 db).runs.mono ?_
 rintro _ H5 ⟨thisb, rfl, vth5, lH5⟩
 have vcb5 := lH5 _ _ vcb4
 have l25 := Hp.le_trans l24 lH5
 have vdb5 := l25 _ _ vdb
 have vmb5 := l25 _ _ vmb
 have hd5 := hd2.le l25
 have l05 : H.le H5 := Hp.le_trans lH1 (Hp.le_trans lH2 l25)
 have vdb2 := vdb
 have vmb2 := vmb
 clear lH5 vcb4 vdb vmb l24
 ((try (refine @unH _ ?_; refine zX Awt ?_)); (try (refine hK _ _ ?_; clear hK K; (try simp only [nq, ↓reduceIte, Nat.reduceEqDiff]))); refine @unH _ ?_; refine zA Awt ?_; (repeat (refine inC ?_; intro hc)); try (refine inK ?_; intro K hK))
 refine Av4 (fun e => e 8 = .pointer (some ⟨cb, 0, none⟩) /\ e 19 = .func (.func 116) #[] #[.pointer (some ⟨thisb, 0, none⟩)]) ⟨rfl, rfl⟩ ?_
 rintro e ⟨e8, e19⟩
 refine Ayv (g := 116) (fi := #[]) (cap := #[.pointer (some ⟨thisb, 0, none⟩)]) (by rw [Aqm (by omega), e19]) (by omega) (fun _ _ _ _ => Bvc _ _ _) (fun r l lo hr hl hlo1 hlo2 hround => ?_)
 have hlr : r ≠ l := fun e => by rw [<- e, Aqw] at hl; cases hl
 have hnl : H5 l = none := by
  rw [Aqp (Ne.symm hlr)] at hl; exact hl
 have hloe : ({ ({ lo with state := LoopState.busy } : Loop) with state := .ready, pending := none } : Loop) = lo := by
  cases lo; simp only [] at hlo1 hlo2; subst hlo1 hlo2; rfl
 have hC : Akq Tryz.prog main (.func (.yield l) #[] #[]) (fun b => b = l ∨ b = r ∨ b = cb) (fun H v xs => v = .agg (ints xs).toArray) (fun _ => True) (cntC l r cb lo) := by
  refine ⟨?_, ?_, ?_⟩
  ·rintro t L H H' ⟨h0, h1, h2, h3⟩ hk
   exact ⟨h0, hk _ _ (.inl rfl) h1, hk _ _ (.inr (.inl rfl)) h2, hk _ _ (.inr (.inr rfl)) h3⟩
  ·rintro t L H b ⟨h0, h1, h2, h3⟩ hb
   rcases hb with rfl | rfl | rfl
   ·rw [h1]; simp
   ·rw [h2]; simp
   ·rw [h3]; simp
  ·rintro L H v' xs ⟨_, h1, h2, h3⟩ rfl hA
   refine hround H _ _ h1 ?_
   (refine @unH _ ?_; refine zA (And.intro Awt @Bool.or_true) ?_; (repeat (refine inC ?_; intro hc)); try (refine inK ?_; intro K hK))
   refine ⟨h1, ?_⟩
   have ncl : cb ≠ l := fun e => by rw [e, h1] at h3; cases h3
   have nrc : r ≠ cb := fun e => by rw [e, h3] at h2; cases h2
   generalize hB : Hp.set H l (.loop { lo with state := .busy }) = Hb
   have vlb : Hb l = some (true, .loop { lo with state := .busy }) := by rw [<- hB, Aqw]
   have hbf : ∀ b x, b ≠ l -> H b = some x -> Hb b = some x := fun b x hn hx => by rw [<- hB, Aqp hn]; exact hx
   have hb3 := hbf _ _ ncl h3
   have hb2 := hbf _ _ hlr h2
   replace hbf : Aqs _ := hbf
   replace hloe : Aqs _ := hloe
   clear hB h1 h2 h3
   (refine @unH _ ?_; refine zA (And.intro Awt @Bool.or_true) ?_; (repeat (refine inC ?_; intro hc)); try (refine inK ?_; intro K hK))
   refine ⟨rfl, _, (Aqp (Ne.symm ncl)).trans vlb, true, rfl, ?_, ?_⟩
   ·have hloe' : ({ ({ lo with state := LoopState.busy } : Loop) with state := .ready, pending := none } : Loop) = lo := hloe
    rw [hloe']
    refine ⟨rfl, Aqw, (Aqp hlr).trans ((Aqp nrc).trans hb2), (Aqp ncl).trans ?_⟩
    rw [Aqw, Bxo, List.length_append]
    rfl
   ·intro b x hb hx
    have n1 : b ≠ l := fun h => hb (.inl h)
    rw [Aqp n1, Aqp (fun e => hb (.inr (.inr e)))]
    exact (show ∀ b x, b ≠ l -> H b = some x -> Hb b = some x from hbf) b x n1 hx
 generalize hG : Hp.set (Hp.set H5 r (.deferred (some []))) l (.loop lo) = H6
 have l56 : H5.le H6 := fun b x hx => by rw [<- hG]; exact Hp.le_set hl _ _ (Hp.le_set hr _ _ hx)
 have vl6 : H6 l = some (true, .loop lo) := by rw [<- hG, Aqw]
 have vr6 : H6 r = some (true, .deferred (some [])) := by rw [<- hG, Aqp hlr, Aqw]
 clear hG
 have nS : ∀ b x, H2 b = some x -> ¬ (b = l ∨ b = r ∨ b = cb) := fun b x hx h => by
  have h5 := l25 _ _ hx
  rcases h with rfl | rfl | rfl
  ·rw [hnl] at h5; cases h5
  ·rw [hr] at h5; cases h5
  ·rw [hcb2] at hx; cases hx
 have hst6 : ∀ x ∈ start, 0 <= x /\ x < 6 := fun x hx => by
  have := hd.ok.2.2.2.2.2.2.1 x hx; have := hd.ok.2.2.2.1; omega
 have hts6 : ∀ t ∈ ts, 0 <= t /\ t < 6 := hd.true.bnd hd.ok
 have hsl : start.length <= 1000 := by have := hd.ok.2.2.2.2.1; have := hd.ok.2.1; omega
 have hp1 : 1 <= places := hd.ok.1
 have nth : ¬ (thisb = l ∨ thisb = r ∨ thisb = cb) := fun h => by
  rcases h with e | e | e
  ·rw [e, hnl] at vth5; cases vth5
  ·rw [e, hr] at vth5; cases vth5
  ·rw [e, vcb5] at vth5; simp at vth5
 have ntv : ts ≠ [] -> ∀ b, rowB (.slice ta ts.length tc) = some b -> ¬ (b = l ∨ b = r ∨ b = cb) := fun hne b hb => by
  obtain ⟨b', o', p', c', fr', he, hb', _⟩ := SlI.get hd2.truth (List.getElem?_eq_getElem (List.length_pos_iff.2 hne))
  subst he
  cases hb
  exact nS _ _ hb'
 have hblen : (Axl ts.length places ts (oOf start)).length <= 1679616 := Nat.le_trans (Bxw _ _ ts _ (Ak4 start 0 (by omega) hst6) hts6) (Nat.pow_le_pow_right (by decide) hl8)
 have hrun := Bkv main (A := fun _ => True) hdm hl8 hts6 hp1 hC (fun L H h => by cases h.1) (fun _ _ => trivial) H6 ⟨rfl, vl6, vr6, l56 _ _ vcb5⟩ (l56 _ _ vth5) (l56 _ _ vdb5) ((hd5.le l56).truth) ((hd5.le l56).st) hst6 hsl (Bqd _ _ _ _ _ (l56 _ _ vmb5)) nth (nS _ _ vdb2) (nS _ _ vmb2) ntv
 refine hrun.runs.mono ?_
 clear hrun hC hround
 rintro _ H7 ⟨rfl, ⟨_, vl7, vr7, vcb7⟩, _, hfr7⟩
 rw [List.length_map] at vcb7
 generalize (Axl ts.length places ts (oOf start)).length = N at *
 rw [w64 (N : Int) (by omega) (by omega)] at vcb7
 have ncl : cb ≠ l := fun e => by rw [e, vl7] at vcb7; cases vcb7
 have nHm : ∀ b x, H b = some x -> b ≠ mb := fun b x hx e => by have := lH1 _ _ hx; rw [e, hmb] at this; cases this
 have l07 : H.le H7 := fun b x hx => hfr7 _ _ (nS _ _ (lH2 _ _ (lH1 _ _ hx))) (nHm b x hx) (l56 _ _ (l05 _ _ hx))
 have hnlH : ∀ b x, H b = some x -> b ≠ l := fun b x hx e => nS _ _ (lH2 _ _ (lH1 _ _ hx)) (.inl e)
 have nHr : ∀ b x, H b = some x -> b ≠ r := fun b x hx e => nS _ _ (lH2 _ _ (lH1 _ _ hx)) (.inr (.inl e))
 refine Bqe vl7 hlo1 hlo2 ?_
 have vcb9 : (H7.set l (.loop { lo with state := .exhausted })) cb = _ := (Aqp ncl).trans vcb7
 have vr9 : (H7.set l (.loop { lo with state := .exhausted })) r = _ := (Aqp hlr).trans vr7
 have l09 : H.le (H7.set l (.loop { lo with state := .exhausted })) := fun b x hx => by rw [Aqp (hnlH b x hx)]; exact l07 _ _ hx
 generalize H7.set l (.loop { lo with state := .exhausted }) = H9 at *
 clear vl7 vr7 vcb7 l07 hfr7 hlo1 hlo2 hloe vl6 vr6 l56 vcb5 vth5 vdb5 vmb5 hd5 hd2 hd1 l25 l05 nS nth ntv hl hr hnl vdb2 vmb2 hcb2 hcb vvb hvb lH1 lH2 e19
 (try simp only [nq, ↓reduceIte, Nat.reduceEqDiff])
 (refine @unH _ ?_; refine zA Awt ?_; (repeat (refine inC ?_; intro hc)); try (refine inK ?_; intro K hK))
 refine Ax8 ?_
 (try simp only [nq, ↓reduceIte, Nat.reduceEqDiff])
 refine Avr vr9 ?_
 rw [Akd Tryz.results39 (by decide) (by decide)]
 exact ⟨by first | rfl | trivial, fun b x hx => by rw [Aqp (nHr b x hx)]; exact l09 _ _ hx⟩
end Go.Proofs.YtgniilnljeedlaaGreatDoor
end
