/- Texts SmR SmU SmX SmY. -/
import Derived.Test.YtnfnaehonkbknaaGreatDoorJ18
set_option linter.defProp false
set_option linter.unusedSimpArgs false
set_option linter.unusedVariables false
set_option maxRecDepth 100000
set_option maxHeartbeats 2000000
section
namespace Go.Proofs.YtnfnaehonkbknaaGreatDoor
open Go Go.X Go.Proofs.Tryz
def Azo := aN @Dwj (aN @Dwc (aN @Avp (aN @Bjz (aN @Dvn (aN @Dw2 (aN @Dyi (aN @Bww (aN @Bwx (aN (fun H => Axe (H := H) underlying124) (aN (fun H => Aqz (H := H) underlying124 sizeOf123) (aN (fun H => Aqn (H := H) underlying123 rfl sizeOf123) (aN (fun H => Aqs (H := H) (P := Tryz.prog) (h := zeroValue123)) (aN (fun H => Aqr (H := H) sizeOf123) (aN (fun H => Aqe (H := H) underlying123 (i := 0) rfl (off := 0) rfl sizeOf101) (aN @Dv4 @Byq)))))))))))))))
def Cqv := aN @Dwc (aN @Dv1 (aN @Dvf @Dvy))
def Cqw := aN @Dwc (aN @Dv1 (aN @Dvf @Dvz))
theorem Cqc (main : Md) (H : Hp) (pb hb : Nat) (p hour : Int) (h0 : 0 <= p) (h1 : p < 6) (x : Hint) (hx : Axi x) (q1 q2 : Bool) (f1 f2 : Nat × Nat) (vp : H pb = some (q1, .cells #[.int .i64 p] 3 f1)) (vh : H hb = some (q2, .cells #[.int .i64 hour] 3 f2)) :
  FnX Tryz.prog main 70 #[.agg (Axn x).toArray, .pointer (some ⟨pb, 0, none⟩), .pointer (some ⟨hb, 0, none⟩)] H fun e H' => e = .returned (.bool (decide ((gB x p).lo <= hour))) /\ H.le H' := by
 have hl := Axs hx
 have hex := Akl hx
 obtain ⟨hb1, hb2, _⟩ := Ayb hx (Cxa hx h0 h1)
 generalize gB x p = g at *
 generalize Axn x = HC at *
 refine Aql func70 rfl ntmps70 (by simp) ?_
 (refine @unH _ (zA Cqv ?_); (try clear hK K); intro K hK hc)
 (intro xb hxb; generalize hG : Hp.set _ xb _ = H1; have lH1 := Aqc hG hxb; have vxb := Aqb hG; clear hG)
 have vp1 := lH1 _ _ vp
 have vh1 := lH1 _ _ vh
 (refine @unH _ (zU Cqv ?_); (try clear hK K); intro K hK hc)
 (refine Akn 8 [(true, 0), (true, 1), (true, 2), (true, 3), (true, 4), (true, 5), (true, 6), (true, 7)] (by kernel_rfl) (by kernel_rfl) (by simp) (by kernel_rfl) ?_; intro K hK; (iterate 8 (refine @unH _ ?_; refine z3 Cqv ?_)); refine Awa (hK _ _ ?_); clear hK K; (try refine @unH _ (zQ ?_)))
 (refine @unH _ ?_; refine z9 results70 ?_)
 exact ⟨trivial, lH1⟩
theorem Cqd (main : Md) (H : Hp) (pb hb : Nat) (p hour : Int) (h0 : 0 <= p) (h1 : p < 6) (x : Hint) (hx : Axi x) (q1 q2 : Bool) (f1 f2 : Nat × Nat) (vp : H pb = some (q1, .cells #[.int .i64 p] 3 f1)) (vh : H hb = some (q2, .cells #[.int .i64 hour] 3 f2)) :
  FnX Tryz.prog main 71 #[.agg (Axn x).toArray, .pointer (some ⟨pb, 0, none⟩), .pointer (some ⟨hb, 0, none⟩)] H fun e H' => e = .returned (.bool (decide (hour < (gB x p).hi))) /\ H.le H' := by
 have hl := Axs hx
 have hex := Akl hx
 obtain ⟨hb1, hb2, _⟩ := Ayb hx (Cxa hx h0 h1)
 generalize gB x p = g at *
 generalize Axn x = HC at *
 refine Aql func71 rfl ntmps71 (by simp) ?_
 (refine @unH _ (zA Cqw ?_); (try clear hK K); intro K hK hc)
 (intro xb hxb; generalize hG : Hp.set _ xb _ = H1; have lH1 := Aqc hG hxb; have vxb := Aqb hG; clear hG)
 have vp1 := lH1 _ _ vp
 have vh1 := lH1 _ _ vh
 (refine @unH _ (zU Cqw ?_); (try clear hK K); intro K hK hc)
 (refine Akn 8 [(true, 0), (true, 1), (true, 2), (true, 3), (true, 4), (true, 5), (true, 6), (true, 7)] (by kernel_rfl) (by kernel_rfl) (by simp) (by kernel_rfl) ?_; intro K hK; (iterate 8 (refine @unH _ ?_; refine z3 Cqw ?_)); refine Awa (hK _ _ ?_); clear hK K; (try refine @unH _ (zQ ?_)))
 (refine @unH _ ?_; refine z9 results71 ?_)
 exact ⟨trivial, lH1⟩
def sq1 (p hour : Int) (x : Hint) : Bool := decide ((gB x p).lo <= hour)
def sq2 (p hour : Int) (x : Hint) : Bool := decide (hour < (gB x p).hi)
theorem Dj7 (main : Md) (H : Hp) (pb hb : Nat) (p hour : Int) (h0 : 0 <= p) (h1 : p < 6) (vp : H pb = some (true, .cells #[.int .i64 p] 3 (0, 0))) (vh : H hb = some (true, .cells #[.int .i64 hour] 3 (0, 0))) :
  IsF Tryz.prog main H (.func (.func 70) #[] #[.pointer (some ⟨pb, 0, none⟩), .pointer (some ⟨hb, 0, none⟩)]) (sq1 p hour) := fun H' x hl hx =>
 Ajd.fn (fun _ _ => Dxz _) (Cqc main H' pb hb p hour h0 h1 x hx _ _ _ _ (hl _ _ vp) (hl _ _ vh))
theorem Dj8 (main : Md) (H : Hp) (pb hb : Nat) (p hour : Int) (h0 : 0 <= p) (h1 : p < 6) (vp : H pb = some (true, .cells #[.int .i64 p] 3 (0, 0))) (vh : H hb = some (true, .cells #[.int .i64 hour] 3 (0, 0))) :
  IsF Tryz.prog main H (.func (.func 71) #[] #[.pointer (some ⟨pb, 0, none⟩), .pointer (some ⟨hb, 0, none⟩)]) (sq2 p hour) := fun H' x hl hx =>
 Ajd.fn (fun _ _ => Dx0 _) (Cqd main H' pb hb p hour h0 h1 x hx _ _ _ _ (hl _ _ vp) (hl _ _ vh))
theorem Dzi (f g : Fn) (x y u w : Array Value) : Instr.fill (fun i => some (i * 1, 1)) ((Array.range (2 * 1)).map fun x => (Value.agg #[Value.nilFunc]).cells[x % (Value.agg #[Value.nilFunc]).cells.size]!) [(0, .agg #[.func f x u]), (1, .agg #[.func g y w])] = some #[.func f x u, .func g y w] := by
 kernel_rfl
theorem Cwh {H : Hp} (f g : Fn) (x y : Array Value) (u w : Array Value) (K : Value -> Hp -> Prop) (E : Value -> Hp -> Prop) :
  wpS Tryz.prog (Instr.buildSlice 124 2 #[(0, .agg #[.func f x u]), (1, .agg #[.func g y w])]) H K E = ∀ nb, H nb = none -> K (.slice (some ⟨nb, 0, none⟩) 2 2) (H.set nb (.cells #[.func f x u, .func g y w] 123 (0, 0))) := by
 unfold Instr.buildSlice
 have hn1 : ¬ 2 * 1 > 2 ^ 24 := by decide
 have hn2 : ¬ 2 * 1 = 0 := by decide
 simp only [Aqa, Aqh underlying124, Aqw sizeOf123, hn1, hn2, if_false, Aq8 zeroValue123, Aqd]
 rw [Dzi]
 simp only [newRow, newObj, Aqa, wpS, Aqd]
def snW (L : List (Int × Int × Hint)) (hour : Int) (k : Nat) : Nat := max (cntL (sq1 k hour) L) (cntL (sq2 k hour) L)
def snS (L : List (Int × Int × Hint)) (hour : Int) (n : Nat) : Nat -> Int × Nat
 | 0 => (-1, n)
 | k + 1 => if snW L hour k < (snS L hour n k).2 then ((k : Int), snW L hour k) else snS L hour n k
def snE (s : Sm) (hour : Int) : Int × Int × Int := if begE s [] hour = 0 then (if (snS (susp s) hour (Azh s) s.places.toNat).1 < 0 then (0, 0, 11) else ((snS (susp s) hour (Azh s) s.places.toNat).1, ((snS (susp s) hour (Azh s) s.places.toNat).2 : Int), 0)) else (0, 0, begE s [] hour)
theorem By8 (H : Hp) (s : Sm) (dv hv nv : Value) (hs : SmIn H dv hv nv s) (ok : SmOk s) (h : Int) :
  FnX Tryz.prog (.wg Tryz.prog) 35 #[smV s.places dv hv nv, .int .i64 h] H fun e H' => e = .returned (.tuple #[.int .i64 (snE s h).1, .int .i64 (snE s h).2.1, .int .i64 (snE s h).2.2]) /\ H.le H' := by
 obtain ⟨da, dc, ha, kc, na, nc, rfl, rfl, rfl, l1, l2, l3⟩ := hs.forms
 have hbeg := fun H dv hv nv (hs : SmIn H dv hv nv s) => Azf H s dv hv nv hs ok h _ [] (nilS H) (by simp)
 have hr0 : begE s [] h = 0 -> snE s h = (if (snS (susp s) h (Azh s) s.places.toNat).1 < 0 then (0, 0, 11) else ((snS (susp s) h (Azh s) s.places.toNat).1, ((snS (susp s) h (Azh s) s.places.toNat).2 : Int), 0)) := fun e => if_pos e
 have hr1 : begE s [] h ≠ 0 -> snE s h = (0, 0, begE s [] h) := fun e => if_neg e
 generalize begE s [] h = z at *
 generalize snE s h = r at *
 replace hbeg : Aqo _ := hbeg
 replace hr0 : Aqo _ := hr0
 replace hr1 : Aqo _ := hr1
 have q0 := ok.p0
 have q6 := ok.p1
 refine Aql func35 rfl ntmps35 (by simp) ?_
 (refine @unH _ (zA Azo ?_); (try clear hK K); intro K hK hc)
 (intro sb hsb ub hub; replace hub : (Hp.set _ sb _) ub = none := hub; generalize hG : Hp.set _ sb _ = H1 at hub ⊢; have lH1 := Aqc hG hsb; have wsb := Aqb hG; clear hG; generalize hG : Hp.set _ ub _ = H2; have lH2 := Aqc hG hub; have vub := Aqb hG; have vsb := lH2 _ _ wsb; have nsbub := Aqq wsb hub; clear hG wsb)
 have hs2 := hs.le (Hp.le_trans lH1 lH2)
 have l02 := Hp.le_trans lH1 lH2
 clear hsb hub hs lH1 lH2
 (refine @unH _ (zU Azo ?_); (try clear hK K); intro K hK hc)
 refine ((show ∀ H dv hv nv (hs : SmIn H dv hv nv s), _ from hbeg) H2 _ _ _ hs2).runs.mono ?_
 clear hbeg
 rintro _ H3 ⟨v, rfl, lH3, hv, _⟩
 have l03 := Hp.le_trans l02 lH3
 have vs3 := lH3 _ _ vsb
 have vu3 := lH3 _ _ vub
 clear l02 lH3 vsb vub hs2
 by_cases hz : z = 0
 ·subst hz
  replace hv := hv (.inl rfl)
  replace hr0 := hr0 rfl
  replace hr0 : Aqo _ := hr0
  clear hr1
  (refine @unH _ (zU Azo ?_); (try clear hK K); intro K hK hc)
  refine (Av8 _ H3 s ok v hv).runs.mono ?_
  rintro _ H4 ⟨rfl, lH4⟩
  have l04 := Hp.le_trans l03 lH4
  have vs4 := lH4 _ _ vs3
  have vu4 := lH4 _ _ vu3
  have hv4 := hv.le lH4
  clear hv l03 lH4 vs3 vu3
  have hnl : Azh s <= 1000 := by
   have h1 := Bzb (Axd s) (Azw ok)
   have h2 := Ax6 s
   have h3 := ok.h1
   rw [Ayg]
   show (Azj (Axd s)).length <= 1000
   omega
  have hpl : ((s.places.toNat : Nat) : Int) = s.places := by omega
  have hok := Azw ok
  have hln : (Axd s).length <= 1000 := by rw [Ax6]; have := ok.h1; omega
  have hsu : Azj (Axd s) = susp s := rfl
  clear ok
  generalize Azh s = N at *
  generalize susp s = SS at *
  generalize Axd s = TT at *
  replace hsu : Aqo _ := hsu
  replace hok : Aqo _ := hok
  (refine @unH _ (zU Azo ?_); (try clear hK K); intro K hK hc)
  refine Axh (fun w a' H' => ∃ e, ∃ k : Nat, w = 6 - k /\ k <= s.places.toNat /\ a' = act 55 e [] /\ e 3 = .pointer (some ⟨ub, 0, none⟩) /\ e 7 = v /\ e 4 = .int .i64 (snS SS h N k).1 /\ e 5 = .int .i64 ((snS SS h N k).2 : Nat) /\ e 24 = .int .i64 s.places /\ e 25 = .int .i64 (k : Nat) /\ H.le H' /\ SlT H' v TT /\ H' ub = some (true, .cells #[.int .i64 h] 3 (0, 0))) (n := 6) ?_ ?_
  ·exact ⟨_, 0, by omega, by omega, rfl, rfl, rfl, rfl, rfl, rfl, rfl, l04, hv4, vu4⟩
  clear hv4 l04 vs4 vu4
  rintro w a' H5 ⟨e, k, rfl, hk, rfl, e3, e7, e4, e5, e24, e25, l05, hv5, vu5⟩
  by_cases hlt : k < s.places.toNat
  ·(refine @unH _ (zA Azo ?_); (try clear hK K); intro K hK hc)
   intro pb hpb
   (refine @unH _ (zU (aN Azo @Cwh) ?_); (try clear hK K); intro K hK hc)
   intro ab hab
   replace hab : (Hp.set H5 pb _) ab = none := hab
   generalize hG : Hp.set H5 pb _ = H6 at hab ⊢
   have l06 := Hp.le_trans l05 (Aqc hG hpb)
   have vp6 := Aqb hG
   have vu6 := (Aqc hG hpb) _ _ vu5
   have hv6 := hv5.le (Aqc hG hpb)
   clear hG hpb l05 vu5 hv5
   replace vp6 : H6 pb = some (true, .cells #[.int .i64 (k : Nat)] 3 (0, 0)) := vp6
   generalize hG : Hp.set H6 ab _ = H7
   have lH7 := Aqc hG hab
   have va7 := Aqb hG
   have vp7 := lH7 _ _ vp6
   have vu7 := lH7 _ _ vu6
   have hv7 := hv6.le lH7
   have l07 := Hp.le_trans l06 lH7
   clear hG hab l06 vu6 hv6 vp6 lH7
   refine hK _ _ ?_
   clear hK K
   (try refine @unH _ (zQ ?_))
   (refine @unH _ (zA Azo ?_); (try clear hK K); intro K hK hc)
   obtain ⟨c1, hc1⟩ : ∃ c1, c1 = cntL (sq1 k h) SS := ⟨_, rfl⟩
   obtain ⟨c2, hc2⟩ : ∃ c2, c2 = cntL (sq2 k h) SS := ⟨_, rfl⟩
   have hn1 : snW SS h k = max c1 c2 := by rw [hc1, hc2]; rfl
   have hsn : snS SS h N (k + 1) = if snW SS h k < (snS SS h N k).2 then ((k : Int), snW SS h k) else snS SS h N k := rfl
   rw [hn1] at hsn
   clear hn1
   generalize snS SS h N k = w at *
   obtain ⟨wb, wm⟩ := w
   replace hsn : Aqo _ := hsn
   replace hc1 : Aqo _ := hc1
   replace hc2 : Aqo _ := hc2
   refine Axh (fun w a' H' => ∃ e, ∃ j : Nat, w = 2 - j /\ j <= 2 /\ a' = act 55 e [] /\ e 3 = .pointer (some ⟨ub, 0, none⟩) /\ e 7 = v /\ e 4 = .int .i64 wb /\ e 5 = .int .i64 (wm : Nat) /\ e 8 = .pointer (some ⟨pb, 0, none⟩) /\ e 24 = .int .i64 s.places /\ e 25 = .int .i64 (k : Nat) /\ e 9 = .int .i64 ((if j = 0 then 0 else if j = 1 then c1 else max c1 c2 : Nat) : Int) /\ e 32 = .slice (some ⟨ab, 0, none⟩) 2 2 /\ e 33 = .int .i64 (2 : Nat) /\ e 34 = .int .i64 (j : Nat) /\ H.le H' /\ SlT H' v TT /\ H' ub = some (true, .cells #[.int .i64 h] 3 (0, 0)) /\ H' pb = some (true, .cells #[.int .i64 (k : Nat)] 3 (0, 0)) /\ H' ab = some (true, .cells #[.func (.func 70) #[] #[.pointer (some ⟨pb, 0, none⟩), .pointer (some ⟨ub, 0, none⟩)], .func (.func 71) #[] #[.pointer (some ⟨pb, 0, none⟩), .pointer (some ⟨ub, 0, none⟩)]] 123 (0, 0))) (n := 2) ?_ ?_
   ·exact ⟨_, 0, by omega, by omega, rfl, e3, e7, e4, e5, rfl, e24, e25, rfl, rfl, rfl, rfl, l07, hv7, vu7, vp7, va7⟩
   clear l07 hv7 vu7 vp7 va7 e3 e7 e4 e5 e24 e25
   rintro w a' H8 ⟨e, j, rfl, hj, rfl, e3, e7, e4, e5, e8, e24, e25, e9, e32, e33, e34, l08, hv8, vu8, vp8, va8⟩
   rcases (by omega : j = 0 ∨ j = 1 ∨ j = 2) with rfl | rfl | rfl
   ·simp only [if_true] at e9
    (refine @unH _ (zA Azo ?_); (try clear hK K); intro K hK hc)
    (intro tb htb; generalize hG : Hp.set _ tb _ = H9; have lH9 := Aqc hG htb; have vtb := Aqb hG; clear hG)
    have l09 := Hp.le_trans l08 lH9
    have hv9 := hv8.le lH9
    have vu9 := lH9 _ _ vu8
    have vp9 := lH9 _ _ vp8
    have va9 := lH9 _ _ va8
    clear lH9 htb l08 hv8 vu8 vp8 va8
    (refine @unH _ (zU Azo ?_); (try clear hK K); intro K hK hc)
    refine (Avu _ H9 v TT hv9 hok hln _ _ _ (sq1 k h) (Dj7 _ H9 pb ub k h (by omega) (by omega) vp9 vu9)).runs.mono ?_
    rintro _ H10 ⟨rfl, lH10⟩
    rw [show Azj TT = SS from hsu, show cntL (sq1 k h) SS = c1 from Eq.symm hc1]
    have l10 := Hp.le_trans l09 lH10
    have hv10 := hv9.le lH10
    have vu10 := lH10 _ _ vu9
    have vp10 := lH10 _ _ vp9
    have va10 := lH10 _ _ va9
    clear l09 hv9 vu9 vp9 va9 lH10 vtb
    (refine @unH _ (zU Azo ?_); (try clear hK K); intro K hK hc)
    exact ⟨_, by omega, _, 1, rfl, by omega, rfl, e3, e7, e4, e5, e8, e24, e25, congrArg (Value.int .i64) (by simp only [Nat.one_ne_zero, if_true, if_false]; split <;> omega), e32, e33, rfl, l10, hv10, vu10, vp10, va10⟩
   ·simp only [Nat.one_ne_zero, if_true, if_false] at e9
    (refine @unH _ (zA Azo ?_); (try clear hK K); intro K hK hc)
    (intro tb htb; generalize hG : Hp.set _ tb _ = H9; have lH9 := Aqc hG htb; have vtb := Aqb hG; clear hG)
    have l09 := Hp.le_trans l08 lH9
    have hv9 := hv8.le lH9
    have vu9 := lH9 _ _ vu8
    have vp9 := lH9 _ _ vp8
    have va9 := lH9 _ _ va8
    clear lH9 htb l08 hv8 vu8 vp8 va8
    (refine @unH _ (zU Azo ?_); (try clear hK K); intro K hK hc)
    refine (Avu _ H9 v TT hv9 hok hln _ _ _ (sq2 k h) (Dj8 _ H9 pb ub k h (by omega) (by omega) vp9 vu9)).runs.mono ?_
    rintro _ H10 ⟨rfl, lH10⟩
    rw [show Azj TT = SS from hsu, show cntL (sq2 k h) SS = c2 from Eq.symm hc2]
    have l10 := Hp.le_trans l09 lH10
    have hv10 := hv9.le lH10
    have vu10 := lH10 _ _ vu9
    have vp10 := lH10 _ _ vp9
    have va10 := lH10 _ _ va9
    clear l09 hv9 vu9 vp9 va9 lH10 vtb
    (refine @unH _ (zU Azo ?_); (try clear hK K); intro K hK hc)
    exact ⟨_, by omega, _, 2, rfl, by omega, rfl, e3, e7, e4, e5, e8, e24, e25, congrArg (Value.int .i64) (by simp only [show ¬ (2 : Nat) = 0 by decide, show ¬ (2 : Nat) = 1 by decide, if_true, if_false]; split <;> omega), e32, e33, rfl, l10, hv10, vu10, vp10, va10⟩
   ·simp only [show ¬ (2 : Nat) = 0 by decide, show ¬ (2 : Nat) = 1 by decide, if_false] at e9
    by_cases hb : max c1 c2 < wm
    ·replace hsn : Aqo (snS SS h N (k + 1) = ((k : Int), max c1 c2)) := Eq.trans (show snS SS h N (k + 1) = _ from hsn) (if_pos hb)
     generalize max c1 c2 = mm at *
     (refine @unH _ (zA Azo ?_); (try clear hK K); intro K hK hc)
     exact ⟨_, by omega, _, k + 1, rfl, by omega, rfl, e3, e7, by rw [show snS SS h N (k + 1) = _ from hsn]; rfl, by rw [show snS SS h N (k + 1) = _ from hsn]; rfl, e24, rfl, l08, hv8, vu8⟩
    ·replace hsn : Aqo (snS SS h N (k + 1) = (wb, wm)) := Eq.trans (show snS SS h N (k + 1) = _ from hsn) (if_neg hb)
     generalize max c1 c2 = mm at *
     (refine @unH _ (zA Azo ?_); (try clear hK K); intro K hK hc)
     exact ⟨_, by omega, _, k + 1, rfl, by omega, rfl, e3, e7, by rw [show snS SS h N (k + 1) = _ from hsn]; exact e4, by rw [show snS SS h N (k + 1) = _ from hsn]; exact e5, e24, rfl, l08, hv8, vu8⟩
  ·obtain rfl : k = s.places.toNat := by omega
   generalize snS SS h N s.places.toNat = w at *
   obtain ⟨b, m⟩ := w
   by_cases hb : b < 0
   ·replace hr0 : Aqo (r = (0, 0, 11)) := Eq.trans (show r = _ from hr0) (if_pos hb)
    (refine @unH _ (zA Azo ?_); (try clear hK K); intro K hK hc)
    (refine @unH _ ?_; refine zC results35 ?_)
    exact ⟨by rw [show r = _ from hr0], l05⟩
   ·replace hr0 : Aqo (r = (b, (m : Int), 0)) := Eq.trans (show r = _ from hr0) (if_neg hb)
    (refine @unH _ (zA Azo ?_); (try clear hK K); intro K hK hc)
    (refine @unH _ ?_; refine zC results35 ?_)
    exact ⟨by rw [show r = _ from hr0], l05⟩
 ·replace hr1 := hr1 hz
  replace hr1 : Aqo _ := hr1
  clear hv hr0
  (refine @unH _ (zU Azo ?_); (try clear hK K); intro K hK hc)
  (refine @unH _ ?_; refine zC results35 ?_)
  exact ⟨by rw [show r = _ from hr1], l03⟩
def Ajv := aN @Dw2 (aN (fun H => Aqs (H := H) (P := Tryz.prog) (h := zeroValue22)) (aN @Dwj (aN @Avp (aN @Dyi (aN @Dk8 (aN @Ayv (aN @Dwc @Dv9)))))))
def Axz := aN @Dwc (aN @Dvo (aN @Dwa (aN @Dye (aN (fun H => Bka (H := H) underlying22 sizeOf3 zeroValue3 rfl typeInfo3 (by decide)) (aN @Dyi (aN @Dk8 (aN @Dv9 (aN @Dv2 (aN (fun H => Cvp (H := H) underlying91 sizeOf3) (fun H => Bv6 (H := H) underlying91 sizeOf3))))))))))
theorem Aj2 {H : Hp} {b x : Nat} {o : Obj} (h : (Hp.set H b o) x = none) : x ≠ b /\ H x = none := by
 unfold Hp.set at h
 by_cases e : x = b
 ·rw [if_pos e] at h; cases h
 ·rw [if_neg e] at h; exact ⟨e, h⟩
theorem Bxz {P : Program} {H : Hp} {fn : Func} {t u v x : Tmp} {ty1 ty2 ty3 : TypeId} (h : fn.results = #[.cell t ty1, .cell u ty2, .cell v ty3, .tmp x]) {n : Nat} {e : Nat -> Value} {ds : List Deferred} (ht : t < n) (hu' : u < n) (hv : v < n) (hx : x < n) {b0 b1 b2 : Nat}
  (h0 : e t = .pointer (some ⟨b0, 0, none⟩)) (h1 : e u = .pointer (some ⟨b1, 0, none⟩)) (h2 : e v = .pointer (some ⟨b2, 0, none⟩)) {d1 d2 d3 : TypeDesc} (hu1 : P.underlying ty1 = some d1) (hd1 : aggB d1 = false) (hu2 : P.underlying ty2 = some d2) (hd2 : aggB d2 = false) (hu3 : P.underlying ty3 = some d3) (hd3 : aggB d3 = false)
  {x0 x1 x2 : Value} (w0 : H.cell ⟨b0, 0, none⟩ = some x0) (w1 : H.cell ⟨b1, 0, none⟩ = some x1) (w2 : H.cell ⟨b2, 0, none⟩ = some x2) (K : Value -> Hp -> Prop) (E : Value -> Hp -> Prop) (hK : K (.tuple #[x0, x1, x2, e x]) H) :
  wpS P (results fn (act n e ds).tmps) H K E := by
 simp only [results, h, act_get? ht, act_get? hu', act_get? hv, act_get? hx, h0, h1, h2]
 simp [-bind_pure_comp, results, h, act_get? ht, act_get? hu', act_get? hv, act_get? hx, h0, h1, h2, asAddr, Aqa, Aqd, Ck6 hu1 hd1, Ck6 hu2 hd2, Ck6 hu3 hd3]
 exact ⟨_, w0, _, w1, _, w2, hK⟩
theorem Bym {x : Hint} (h : Axi x) {n : Nat} (hn : n <= 6) : ((Axn x).drop 18).take n = ints (x.first.take n) := by
 obtain ⟨b0, b1, b2, b3, b4, b5, f0, f1, f2, f3, f4, f5, s, rfl⟩ := Av5 h
 have : (Axn ⟨[b0, b1, b2, b3, b4, b5], [f0, f1, f2, f3, f4, f5], s⟩).drop 18 = ints [f0, f1, f2, f3, f4, f5] ++ [.bool s] := rfl
 rw [this, List.take_append_of_le_length (by simp [ints]; omega)]
 simp [ints, List.map_take]
theorem Czl (main : Md) (H : Hp) (b0 b1 b2 sb : Nat) (ham hour z : Int) (x : Hint) (hx : Axi x) (hz : 0 <= z) (v0 : H b0 = some (true, .cells #[.int .i64 z] 3 (0, 0))) :
  FnX Tryz.prog main 58 #[.int .i64 ham, .int .i64 hour, .agg (Axn x).toArray, .pointer (some ⟨b0, 0, none⟩), .pointer (some ⟨sb, 0, none⟩), .pointer (some ⟨b1, 0, none⟩), .pointer (some ⟨b2, 0, none⟩)] H fun e H' => e = .returned (.tuple #[]) /\ H.le H' := by
 have hl := Axs hx
 have hex := Akl hx
 generalize Axn x = HC at *
 refine Aql func58 rfl ntmps58 (by simp) ?_
 (refine @unH _ (zA Axz ?_); (try clear hK K); intro K hK hc)
 (intro b hb; generalize hG : Hp.set _ b _ = H1; have lH1 := Aqc hG hb; have vb := Aqb hG; clear hG)
 have vo1 := lH1 _ _ v0
 (refine @unH _ (zU Axz ?_); (try clear hK K); intro K hK hc)
 (refine @unH _ ?_; refine zD results58 ?_)
 exact ⟨rfl, lH1⟩
theorem Ckp (main : Md) (H : Hp) (b0 b1 b2 sb n dcap : Nat) (da : Option Addr) (pl : Int) (hv nv : Value) (ham hour z y : Int) (w : Value) (x : Hint) (hx : Axi x) (hz : z < 0) (hn : n <= 6) (v0 : H b0 = some (true, .cells #[.int .i64 z] 3 (0, 0)))
  (v1 : H b1 = some (true, .cells #[.int .i64 y] 3 (0, 0))) (v2 : H b2 = some (true, .cells #[w] 22 (0, 0))) (vs : H sb = some (true, smO pl (.slice da n dcap) hv nv)) (n01 : b0 ≠ b1) :
  FnX Tryz.prog main 58 #[.int .i64 ham, .int .i64 hour, .agg (Axn x).toArray, .pointer (some ⟨b0, 0, none⟩), .pointer (some ⟨sb, 0, none⟩), .pointer (some ⟨b1, 0, none⟩), .pointer (some ⟨b2, 0, none⟩)] H fun e H' => e = .returned (.tuple #[]) /\ H' b0 = some (true, .cells #[.int .i64 ham] 3 (0, 0)) /\ H' b1 = some (true, .cells #[.int .i64 hour] 3 (0, 0)) /\ (∃ w', H' b2 = some (true, .cells #[w'] 22 (0, 0)) /\ SlI H' w' (x.first.take n)) /\ ∀ b x, b ≠ b0 -> b ≠ b1 -> b ≠ b2 -> H b = some x -> H' b = some x := by
 have hl := Axs hx
 have hex := Akl hx
 have htk := Bym hx hn
 have hone : ∀ v ∈ (Axn x).drop 18, one v = true := fun v hv => Bxo x v (List.mem_of_mem_drop hv)
 generalize Axn x = HC at *
 have n02 : b0 ≠ b2 := fun e => by rw [e, v2] at v0; simp at v0
 have n12 : b1 ≠ b2 := fun e => by rw [e, v2] at v1; simp at v1
 have ns0 : sb ≠ b0 := fun e => by rw [e, v0] at vs; simp at vs
 have ns1 : sb ≠ b1 := fun e => by rw [e, v1] at vs; simp at vs
 have n10 := Ne.symm n01
 have n20 := Ne.symm n02
 have n21 := Ne.symm n12
 have ns2 : sb ≠ b2 := fun e => by rw [e, v2] at vs; simp at vs
 replace htk : Aqo _ := htk
 replace hone : Aqo _ := hone
 refine Aql func58 rfl ntmps58 (by simp) ?_
 (refine @unH _ (zA Axz ?_); (try clear hK K); intro K hK hc)
 (intro xb hxb; generalize hG : Hp.set _ xb _ = H1; have lH1 := Aqc hG hxb; have vxb := Aqb hG; clear hG)
 have u0 := lH1 _ _ v0
 have u1 := lH1 _ _ v1
 have u2 := lH1 _ _ v2
 have us := lH1 _ _ vs
 have nx0 := Aqq v0 hxb
 have nx1 := Aqq v1 hxb
 have nx2 := Aqq v2 hxb
 have nxs := Aqq vs hxb
 clear v0 v1 v2 vs hxb
 (refine @unH _ (zU Axz ?_); (try clear hK K); intro K hK hc)
 refine Az1 (Q := only fun a' H' => ∃ e' nb, a' = act 22 e' [] /\ e' 6 = .pointer (some ⟨b2, 0, none⟩) /\ e' 9 = .pointer (some ⟨xb, 0, none⟩) /\ H1 nb = none /\ H' b0 = some (true, .cells #[.int .i64 ham] 3 (0, 0)) /\ H' b1 = some (true, .cells #[.int .i64 hour] 3 (0, 0)) /\ H' b2 = some (true, .cells #[.slice (some ⟨nb, 0, none⟩) n n] 22 (0, 0)) /\ H' nb = some (true, .cells (Array.replicate n (.int .i64 0)) 3 (0, 0)) /\ ∀ c z, c ≠ b0 -> c ≠ b1 -> c ≠ b2 -> H1 c = some z -> H' c = some z) ?_ ?_
 ·refine Azl (fun HX => HX sb = some (true, smO pl (.slice da n dcap) hv nv)) [8] (.free 0 (.free 1 (.free 2 (.take 3 (.free 4 (.two 5 (.one 6 (.one 7 (.one 8 .nil))) 6 (.two 5 (.one 7 (.one 8 .nil)) 7 (.one 5 (.one 8 .nil))))))))) (by kernel_rfl) (by kernel_rfl) (by decide) (by kernel_rfl) ?_; intro K hK
  (refine @unH _ ?_; refine zI Axz ?_)
  (refine @unH _ ?_; refine zI Axz ?_)
  (refine @unH _ ?_; refine zI Axz ?_)
  (refine @unH _ ?_; refine zJ Axz ?_)
  (refine @unH _ ?_; refine zI Axz ?_)
  refine Ak1 ?_ ?_
  ·(refine @unH _ ?_; refine zX Axz ?_)
   intro nb hnb
   have m0 := Aqq u0 hnb
   have m1 := Aqq u1 hnb
   have m2 := Aqq u2 hnb
   have ms := Aqq us hnb
   refine ⟨.inr (fun _ => by simp only [ms, if_false]), Aqt ?_⟩
   (refine @unH _ ?_; refine zX Axz ?_)
   refine ⟨.inr (fun _ => by first | trivial | simp only [ms, if_false]), Aqt ?_⟩
   (refine @unH _ ?_; refine zX Axz ?_)
   refine ⟨.inr (fun _ => by first | trivial | simp only [ms, if_false]), Aqt ?_⟩
   (refine @unH _ ?_; refine zX Axz ?_)
   refine ⟨.inl (by decide), Axk (hK _ _ ?_)⟩
   exact ⟨_, nb, rfl, rfl, rfl, hnb, by simp [Hp.set, n01, n02, n12, n10, n20, n21, m0, m1, m2, Ne.symm m0, Ne.symm m1, Ne.symm m2], by simp [Hp.set, n01, n02, n12, n10, n20, n21, m0, m1, m2, Ne.symm m0, Ne.symm m1, Ne.symm m2], by simp [Hp.set, n01, n02, n12, n10, n20, n21, m0, m1, m2, Ne.symm m0, Ne.symm m1, Ne.symm m2], by simp [Hp.set, n01, n02, n12, n10, n20, n21, m0, m1, m2, Ne.symm m0, Ne.symm m1, Ne.symm m2], fun c z c0 c1 c2 hz => by
    have hcn : c ≠ nb := fun e => by rw [e, hnb] at hz; cases hz
    simp [Hp.set, c0, c1, c2, hcn, hz]⟩
  ·(refine @unH _ ?_; refine zX Axz ?_)
   refine ⟨.inr (fun _ => trivial), Ak1 ?_ ?_⟩
   ·(refine @unH _ ?_; refine zX Axz ?_)
    intro nb hnb
    replace hnb : (Hp.set H1 b0 _) nb = none := hnb
    replace hnb := (Aj2 hnb).2
    have m0 := Aqq u0 hnb
    have m1 := Aqq u1 hnb
    have m2 := Aqq u2 hnb
    have ms := Aqq us hnb
    refine ⟨.inr (fun _ => by simp only [ms, if_false]), Aqt ?_⟩
    (refine @unH _ ?_; refine zX Axz ?_)
    refine ⟨.inr (fun _ => by first | trivial | simp only [ms, if_false]), Aqt ?_⟩
    (refine @unH _ ?_; refine zX Axz ?_)
    refine ⟨.inl (by decide), Axk (hK _ _ ?_)⟩
    exact ⟨_, nb, rfl, rfl, rfl, hnb, by simp [Hp.set, n01, n02, n12, n10, n20, n21, m0, m1, m2, Ne.symm m0, Ne.symm m1, Ne.symm m2], by simp [Hp.set, n01, n02, n12, n10, n20, n21, m0, m1, m2, Ne.symm m0, Ne.symm m1, Ne.symm m2], by simp [Hp.set, n01, n02, n12, n10, n20, n21, m0, m1, m2, Ne.symm m0, Ne.symm m1, Ne.symm m2], by simp [Hp.set, n01, n02, n12, n10, n20, n21, m0, m1, m2, Ne.symm m0, Ne.symm m1, Ne.symm m2], fun c z c0 c1 c2 hz => by
     have hcn : c ≠ nb := fun e => by rw [e, hnb] at hz; cases hz
     simp [Hp.set, c0, c1, c2, hcn, hz]⟩
   ·(refine @unH _ ?_; refine zX Axz ?_)
    refine ⟨.inr (fun _ => trivial), Aqt ?_⟩
    (refine @unH _ ?_; refine zX Axz ?_)
    intro nb hnb
    replace hnb : (Hp.set (Hp.set H1 b0 _) b1 _) nb = none := hnb
    replace hnb := (Aj2 (Aj2 hnb).2).2
    have m0 := Aqq u0 hnb
    have m1 := Aqq u1 hnb
    have m2 := Aqq u2 hnb
    have ms := Aqq us hnb
    refine ⟨.inr (fun _ => by simp only [ms, if_false]), Aqt ?_⟩
    (refine @unH _ ?_; refine zX Axz ?_)
    refine ⟨.inl (by decide), Axk (hK _ _ ?_)⟩
    exact ⟨_, nb, rfl, rfl, rfl, hnb, by simp [Hp.set, n01, n02, n12, n10, n20, n21, m0, m1, m2, Ne.symm m0, Ne.symm m1, Ne.symm m2], by simp [Hp.set, n01, n02, n12, n10, n20, n21, m0, m1, m2, Ne.symm m0, Ne.symm m1, Ne.symm m2], by simp [Hp.set, n01, n02, n12, n10, n20, n21, m0, m1, m2, Ne.symm m0, Ne.symm m1, Ne.symm m2], by simp [Hp.set, n01, n02, n12, n10, n20, n21, m0, m1, m2, Ne.symm m0, Ne.symm m1, Ne.symm m2], fun c z c0 c1 c2 hz => by
     have hcn : c ≠ nb := fun e => by rw [e, hnb] at hz; cases hz
     simp [Hp.set, c0, c1, c2, hcn, hz]⟩
 ·intro e a' H' q
  cases e with
  | normal =>
   obtain ⟨e', nb, rfl, e6, e9, hnb, w0, w1, w2, wn, hfr⟩ := q
   have wx := hfr _ _ (Ne.symm nx0) (Ne.symm nx1) (Ne.symm nx2) vxb
   show wpX _ _ _ _ _ _ _
   (refine Akn 3 [(true, 0), (true, 1), (true, 2), (false, 3)] (by kernel_rfl) (by kernel_rfl) (by simp) (by kernel_rfl) ?_; intro K hK; (iterate 3 (refine @unH _ ?_; refine z3 Axz ?_)); refine Bvx ?_; (refine @unH _ ?_; refine zX Axz ?_); try (refine hK _ _ ?_; clear hK K; (try refine @unH _ (zQ ?_))))
   have hmin : min 6 n = n := by omega
   have wn' : H' nb = some (true, .cells (ints (List.replicate n 0)).toArray 3 (0, 0)) := by
    rw [wn, ints, List.map_replicate, List.toArray_replicate]
   have htk2 : (HC.drop 18).take (min 6 n) = ints (x.first.take n) := by rw [hmin]; exact htk
   have hrl : (ints (List.replicate n 0)).length = n := by rw [Aq1, List.length_replicate]
   refine Byf underlying22 sizeOf3 _ _ nb 0 n n xb 18 6 6 wn' wx (by omega) (by omega) (fun v hv => (show ∀ v ∈ HC.drop 18, one v = true from hone) v (List.mem_of_mem_take hv)) _ _ ?_
   have hfl : (x.first.take n).length = n := by rw [List.length_take, hx.f]; omega
   rw [htk2, Ayj (by rw [Aq1, hrl, hfl])]
   have q0 : nb ≠ b0 := fun e => by rw [e, u0] at hnb; cases hnb
   have q1 : nb ≠ b1 := fun e => by rw [e, u1] at hnb; cases hnb
   have q2 : nb ≠ b2 := fun e => by rw [e, u2] at hnb; cases hnb
   have hh0 : H nb = none := Hp.le_none lH1 hnb
   generalize hG : Hp.set H' nb _ = H4
   have z0 := Aqf hG w0 (Ne.symm q0)
   have z1 := Aqf hG w1 (Ne.symm q1)
   have z2 := Aqf hG w2 (Ne.symm q2)
   have zn := Aqb hG
   have hf4 : ∀ c z, c ≠ b0 -> c ≠ b1 -> c ≠ b2 -> H c = some z -> H4 c = some z := fun c z c0 c1 c2 hz => Aqf hG (hfr c z c0 c1 c2 (lH1 _ _ hz)) (fun e => by rw [e, hh0] at hz; cases hz)
   clear hG wn wn' w0 w1 w2 wx hfr
   (refine @unH _ ?_; refine zX Axz ?_)
   refine hK _ _ ?_
   clear hK K
   (refine @unH _ ?_; refine zD results58 ?_)
   refine ⟨rfl, z0, z1, ⟨_, z2, ⟨some ⟨nb, 0, none⟩, n, by rw [hfl], by rw [hfl]; exact Nat.le_refl _, fun i y hy => ⟨nb, 0, true, _, _, rfl, zn, ?_⟩⟩⟩, hf4⟩
   simp only [Nat.zero_add, List.getElem?_toArray]
   unfold ints
   rw [List.getElem?_map, hy]
   rfl
  | _ => exact q.elim
def FstT (n b0 b1 b2 : Nat) (H2 : Hp) (L : List (Int × Int × Hint)) (H' : Hp) : Prop :=
 (∃ z y w, H' b0 = some (true, .cells #[.int .i64 z] 3 (0, 0)) /\ H' b1 = some (true, .cells #[.int .i64 y] 3 (0, 0)) /\ H' b2 = some (true, .cells #[w] 22 (0, 0)) /\
  match L with
  | [] => z = -1
  | x :: _ => z = x.1 /\ 0 <= z /\ y = x.2.1 /\ SlI H' w (x.2.2.first.take n)) /\
 ∀ b x, b ≠ b0 -> b ≠ b1 -> b ≠ b2 -> H2 b = some x -> H' b = some x
theorem Bvn (main : Md) (H2 : Hp) (b0 b1 b2 sb n dcap : Nat) (da : Option Addr) (pl : Int) (hv nv : Value) (hn : n <= 6) (vs : H2 sb = some (true, smO pl (.slice da n dcap) hv nv)) (n01 : b0 ≠ b1) (ns0 : sb ≠ b0) (ns1 : sb ≠ b1) (ns2 : sb ≠ b2) :
  HCl Tryz.prog main (.func (.func 58) #[] #[.pointer (some ⟨b0, 0, none⟩), .pointer (some ⟨sb, 0, none⟩), .pointer (some ⟨b1, 0, none⟩), .pointer (some ⟨b2, 0, none⟩)]) (fun ham _ _ => 0 <= ham) (fun b => b = b0 ∨ b = b1 ∨ b = b2) (FstT n b0 b1 b2 H2) := by
 refine ⟨?_, ?_, ?_⟩
 ·rintro L H H' ⟨⟨z, y, w, h0, h1, h2, h3⟩, h4⟩ hl
  refine ⟨⟨z, y, w, hl _ _ h0, hl _ _ h1, hl _ _ h2, ?_⟩, fun b x e0 e1 e2 hx => hl _ _ (h4 b x e0 e1 e2 hx)⟩
  cases L with
  | nil => exact h3
  | cons x L => exact ⟨h3.1, h3.2.1, h3.2.2.1, h3.2.2.2.le hl⟩
 ·rintro L H b ⟨⟨z, y, w, h0, h1, h2, h3⟩, h4⟩ (rfl | rfl | rfl)
  ·rw [h0]; simp
  ·rw [h1]; simp
  ·rw [h2]; simp
 ·rintro L H ham hour x ⟨⟨z, y, w, h0, h1, h2, h3⟩, h4⟩ hxo hA
  cases L with
  | nil =>
   refine Ajd.fn (fun _ _ => Cj2 _) ((Ckp main H b0 b1 b2 sb n dcap da pl hv nv ham hour z y w x hxo (by rw [show z = -1 from h3]; decide) hn h0 h1 h2 (h4 _ _ ns0 ns1 ns2 vs) n01).mono ?_)
   rintro _ H' ⟨rfl, g0, g1, ⟨w', g2, g3⟩, g4⟩
   exact ⟨rfl, ⟨⟨ham, hour, w', g0, g1, g2, rfl, hA, rfl, g3⟩, fun b x e0 e1 e2 hx => g4 b x e0 e1 e2 (h4 b x e0 e1 e2 hx)⟩, fun b x hb hx => g4 b x (fun e => hb (.inl e)) (fun e => hb (.inr (.inl e))) (fun e => hb (.inr (.inr e))) hx⟩
  | cons x0 L =>
   refine Ajd.fn (fun _ _ => Cj2 _) ((Czl main H b0 b1 b2 sb ham hour z x hxo h3.2.1 h0).mono ?_)
   rintro _ H' ⟨rfl, hl⟩
   exact ⟨rfl, ⟨⟨z, y, w, hl _ _ h0, hl _ _ h1, hl _ _ h2, h3.1, h3.2.1, h3.2.2.1, h3.2.2.2.le hl⟩, fun b x e0 e1 e2 hx => hl _ _ (h4 b x e0 e1 e2 hx)⟩, fun b x _ hx => hl _ _ hx⟩
def fstE (s : Sm) : Int × Int × List Int × Int := match susp s with
 | [] => (0, 0, [], 11)
 | x :: _ => (x.1, x.2.1, x.2.2.first.take s.doors.length, 0)
theorem By3 (H : Hp) (s : Sm) (dv hv nv : Value) (hs : SmIn H dv hv nv s) (ok : SmOk s) :
  FnX Tryz.prog (.wg Tryz.prog) 22 #[smV s.places dv hv nv] H fun e H' => ∃ w, e = .returned (.tuple #[.int .i64 (fstE s).1, .int .i64 (fstE s).2.1, w, .int .i64 (fstE s).2.2.2]) /\ SlI H' w (fstE s).2.2.1 /\ H.le H' := by
 obtain ⟨da, dc, ha, kc, na, nc, rfl, rfl, rfl, l1, l2, l3⟩ := hs.forms
 refine Aql func22 rfl ntmps22 (by simp) ?_
 (refine @unH _ (zA Ajv ?_); (try clear hK K); intro K hK hc)
 intro sb hsb b0 hb0 b1 hb1 b2 hb2
 replace hb2 : (Hp.set (Hp.set (Hp.set H sb _) b0 _) b1 _) b2 = none := hb2
 replace hb1 : (Hp.set (Hp.set H sb _) b0 _) b1 = none := hb1
 replace hb0 : (Hp.set H sb _) b0 = none := hb0
 obtain ⟨n0s, f0⟩ := Aj2 hb0
 obtain ⟨n10, f1⟩ := Aj2 hb1
 obtain ⟨n1s, f1⟩ := Aj2 f1
 obtain ⟨n21, f2⟩ := Aj2 hb2
 obtain ⟨n20, f2⟩ := Aj2 f2
 obtain ⟨n2s, f2⟩ := Aj2 f2
 clear hb0 hb1 hb2
 have l01 : H.le (Hp.set (Hp.set (Hp.set (Hp.set H sb (smO s.places (.slice da s.doors.length dc) (.slice ha s.hampers.length kc) (.slice na s.noses.length nc))) b0 (.cells #[.int .i64 0] 3 (0, 0))) b1 (.cells #[.int .i64 0] 3 (0, 0))) b2 (.cells #[.slice none 0 0] 22 (0, 0))) := fun c z hc => by
  have c0 : c ≠ sb := fun e => by rw [e, hsb] at hc; cases hc
  have c1 : c ≠ b0 := fun e => by rw [e, f0] at hc; cases hc
  have c2 : c ≠ b1 := fun e => by rw [e, f1] at hc; cases hc
  have c3 : c ≠ b2 := fun e => by rw [e, f2] at hc; cases hc
  simp only [Hp.set, c0, c1, c2, c3, if_false, hc]
 generalize hG : Hp.set (Hp.set (Hp.set (Hp.set H sb _) b0 _) b1 _) b2 _ = H1 at l01 ⊢
 have vs : H1 sb = some (true, smO s.places (.slice da s.doors.length dc) (.slice ha s.hampers.length kc) (.slice na s.noses.length nc)) := by rw [<- hG]; simp [Hp.set, Ne.symm n0s, Ne.symm n1s, Ne.symm n2s]
 have v0 : H1 b0 = some (true, .cells #[.int .i64 0] 3 (0, 0)) := by rw [<- hG]; simp [Hp.set, Ne.symm n10, Ne.symm n20]
 have v1 : H1 b1 = some (true, .cells #[.int .i64 0] 3 (0, 0)) := by rw [<- hG]; simp [Hp.set, Ne.symm n21]
 have v2 : H1 b2 = some (true, .cells #[.slice none 0 0] 22 (0, 0)) := by rw [<- hG]; simp [Hp.set]
 have hs1 := hs.le l01
 clear hG hs
 (refine @unH _ (zU Ajv ?_); (try clear hK K); intro K hK hc)
 refine (Azf H1 s _ _ _ hs1 ok 0 _ [] (nilS H1) (by simp)).runs.mono ?_
 rw [Bq2]
 rintro _ H2 ⟨v, rfl, lH2, hv, _⟩
 have l02 := Hp.le_trans l01 lH2
 replace vs := lH2 _ _ vs
 replace v0 := lH2 _ _ v0
 replace v1 := lH2 _ _ v1
 replace v2 := lH2 _ _ v2
 clear hs1 l01 lH2
 have hss : Azj (Axd s) = susp s := rfl
 by_cases hz : Azh s = 0
 ·rw [if_pos hz]
  have hfe : fstE s = (0, 0, [], 11) := by
   unfold fstE
   rw [List.length_eq_zero_iff.1 ((Ayg s).symm.trans hz)]
  replace hfe : Aqo _ := hfe
  clear hz hv hss
  (refine @unH _ (zU Ajv ?_); (try clear hK K); intro K hK hc)
  generalize hG : Hp.set (Hp.set (Hp.set H2 b0 _) b1 _) b2 _ = H3
  have w0 : H3 b0 = some (true, .cells #[.int .i64 0] 3 (0, 0)) := by rw [<- hG]; simp [Hp.set, Ne.symm n10, Ne.symm n20]
  have w1 : H3 b1 = some (true, .cells #[.int .i64 0] 3 (0, 0)) := by rw [<- hG]; simp [Hp.set, Ne.symm n21]
  have w2 : H3 b2 = some (true, .cells #[.slice none 0 0] 22 (0, 0)) := by rw [<- hG]; simp [Hp.set]
  have l03 : H.le H3 := fun c z hc => by
   have c1 : c ≠ b0 := fun e => by rw [e, f0] at hc; cases hc
   have c2 : c ≠ b1 := fun e => by rw [e, f1] at hc; cases hc
   have c3 : c ≠ b2 := fun e => by rw [e, f2] at hc; cases hc
   rw [<- hG]
   simp only [Hp.set, c1, c2, c3, if_false]
   exact l02 _ _ hc
  clear hG
  refine Axt ?_
  (try refine @unH _ (zQ ?_))
  rw [Aq7]
  refine Bxz results22 (by decide) (by decide) (by decide) (by decide) rfl rfl rfl underlying3 rfl underlying3 rfl underlying22 rfl (by rw [cell_of w0]; rfl) (by rw [cell_of w1]; rfl) (by rw [cell_of w2]; rfl) _ _ ?_
  rw [show fstE s = _ from hfe]
  exact ⟨_, rfl, nilS _, l03⟩
 ·rw [if_neg hz] at hv ⊢
  replace hv := hv (.inl rfl)
  have hzn : Aqo (¬ Azh s = 0) := hz
  clear hz
  (refine @unH _ (zU Ajv ?_); (try clear hK K); intro K hK hc)
  generalize hG : Hp.set H2 b0 _ = H3
  have w0 := Aqb hG
  have w1 := Aqf hG v1 n10
  have w2 := Aqf hG v2 n20
  have ws := Aqf hG vs (Ne.symm n0s)
  have hv3 : SlT H3 v (Axd s) := hv.move fun x p c fr hx => ⟨p, Aqf hG hx (fun e => by rw [e, v0] at hx; simp at hx)⟩
  have l03 : ∀ c z, c ≠ b0 -> c ≠ b1 -> c ≠ b2 -> H c = some z -> H3 c = some z := fun c z c0 _ _ hc => Aqf hG (l02 _ _ hc) c0
  clear hG v0 v1 v2 vs hv
  have hcl := Bvn (.wg Tryz.prog) H3 b0 b1 b2 sb s.doors.length dc da s.places _ _ ok.dl ws (Ne.symm n10) (Ne.symm n0s) (Ne.symm n1s) (Ne.symm n2s)
  refine (Av6 _ hcl H3 v _ (fun L H' hT _ => hv3.move fun x p c fr hx => ⟨p, hT.2 x _ (fun e => by rw [e, w0] at hx; simp at hx) (fun e => by rw [e, w1] at hx; simp at hx) (fun e => by rw [e, w2] at hx; simp at hx) hx⟩) (Azw ok) (fun t ht _ _ _ _ => (Ay7 ok t ht).1) (by rw [Ax6]; have := ok.h1; omega) [] ⟨⟨-1, 0, _, w0, w1, w2, rfl⟩, fun _ _ _ _ _ hx => hx⟩).runs.mono ?_
  clear hcl w0 w1 w2 ws hv3
  rintro _ H4 ⟨rfl, hT, hfr⟩
  rw [List.nil_append, hss] at hT
  obtain ⟨⟨z, y, w, w0, w1, w2, hL⟩, hF⟩ := hT
  have l04 : H.le H4 := fun c x hc => hF c x (fun e => by rw [e, f0] at hc; cases hc) (fun e => by rw [e, f1] at hc; cases hc) (fun e => by rw [e, f2] at hc; cases hc) (l03 c x (fun e => by rw [e, f0] at hc; cases hc) (fun e => by rw [e, f1] at hc; cases hc) (fun e => by rw [e, f2] at hc; cases hc) hc)
  clear hF hfr l03 hss
  have hfe : ∃ l, SlI H4 w l /\ fstE s = (z, y, l, 0) := by
   cases hS : susp s with
   | nil => exact absurd ((Ayg s).trans (by rw [hS]; rfl)) hzn
   | cons x L =>
    rw [hS] at hL
    obtain ⟨h1, _, h2, h3⟩ := hL
    exact ⟨_, h3, by unfold fstE; rw [hS]; simp only [h1, h2]⟩
  obtain ⟨l, hl, hfe⟩ := hfe
  replace hfe : Aqo _ := hfe
  clear hL
  obtain ⟨wa, wn, wc, rfl⟩ := hl.isSlice
  (refine @unH _ (zU Ajv ?_); (try clear hK K); intro K hK hc)
  have m01 := Ne.symm n10
  have m02 := Ne.symm n20
  have m12 := Ne.symm n21
  refine Azl (fun HX => HX b0 = some (true, .cells #[.int .i64 z] 3 (0, 0)) /\ HX b1 = some (true, .cells #[.int .i64 y] 3 (0, 0)) /\ HX b2 = some (true, .cells #[.slice wa wn wc] 22 (0, 0))) [] (.take 0 (.take 1 (.take 2 (.one 3 (.one 4 (.one 5 (.free 6 .nil))))))) (by kernel_rfl) (by kernel_rfl) (by decide) (by kernel_rfl) ?_; intro K hK
  have hS0 : (fun HX : Hp => HX b0 = some (true, .cells #[.int .i64 z] 3 (0, 0)) /\ HX b1 = some (true, .cells #[.int .i64 y] 3 (0, 0)) /\ HX b2 = some (true, .cells #[.slice wa wn wc] 22 (0, 0))) H4 := ⟨w0, w1, w2⟩
  (apply Aq5 rfl rfl rfl ‹_›; (focus (intro HX hHX; simp -implicitDefEqProofs (disch := first | omega | (simp only [qd] <;> omega)) only [xq, ↓xp, qc, Nat.reduceAdd, List.range, List.range.loop, fine, Nat.reduceEqDiff, ↓reduceIte, yielded, reduceCtorEq, Nat.reduceLT, Nat.reduceMul, Nat.reduceSub, one, Nat.reduceLeDiff, Aqj, Ajv, aq, ↓ap, qe0, qe1, qe2, *, -hK, Aq3, hHX.1] <;> (first | exact rfl | exact ⟨rfl, rfl⟩ | exact ⟨rfl, trivial⟩))); simp -implicitDefEqProofs (disch := first | omega | (simp only [qd] <;> omega)) only [Aq0, Aqp])
  (apply Aq5 rfl rfl rfl ‹_›; (focus (intro HX hHX; simp -implicitDefEqProofs (disch := first | omega | (simp only [qd] <;> omega)) only [xq, ↓xp, qc, Nat.reduceAdd, List.range, List.range.loop, fine, Nat.reduceEqDiff, ↓reduceIte, yielded, reduceCtorEq, Nat.reduceLT, Nat.reduceMul, Nat.reduceSub, one, Nat.reduceLeDiff, Aqj, Ajv, aq, ↓ap, qe0, qe1, qe2, *, -hK, Aq3, hHX.2.1] <;> (first | exact rfl | exact ⟨rfl, rfl⟩ | exact ⟨rfl, trivial⟩))); simp -implicitDefEqProofs (disch := first | omega | (simp only [qd] <;> omega)) only [Aq0, Aqp])
  (apply Aq5 rfl rfl rfl ‹_›; (focus (intro HX hHX; simp -implicitDefEqProofs (disch := first | omega | (simp only [qd] <;> omega)) only [xq, ↓xp, qc, Nat.reduceAdd, List.range, List.range.loop, fine, Nat.reduceEqDiff, ↓reduceIte, yielded, reduceCtorEq, Nat.reduceLT, Nat.reduceMul, Nat.reduceSub, one, Nat.reduceLeDiff, Aqj, Ajv, aq, ↓ap, qe0, qe1, qe2, *, -hK, Aq3, hHX.2.2] <;> (first | exact rfl | exact ⟨rfl, rfl⟩ | exact ⟨rfl, trivial⟩))); simp -implicitDefEqProofs (disch := first | omega | (simp only [qd] <;> omega)) only [Aq0, Aqp])
  refine Aqt ?_
  (refine @unH _ ?_; refine zX Ajv ?_)
  refine ⟨.inr fun _ => trivial, Aqt ?_⟩
  (refine @unH _ ?_; refine zX Ajv ?_)
  refine ⟨.inr fun _ => by simp only [Hp.set, if_true, if_false, m01, m02, m12, n10, n20, n21, w0, w1, w2, and_self], Aqt ?_⟩
  (refine @unH _ ?_; refine zX Ajv ?_)
  refine ⟨.inr fun _ => by simp only [Hp.set, if_true, if_false, m01, m02, m12, n10, n20, n21, w0, w1, w2, and_self], ?_⟩
  (refine @unH _ ?_; refine zI Ajv ?_)
  refine Axk (hK _ _ ?_)
  clear hK K hS0
  generalize hG : Hp.set (Hp.set (Hp.set H4 b0 _) b1 _) b2 _ = H5
  have hall : ∀ c x, H4 c = some x -> H5 c = some x := fun c x hx => by
   rw [<- hG]
   by_cases e2 : c = b2
   ·subst e2; rw [Axp, <- hx, w2]
   ·rw [Aqv e2]
    by_cases e1 : c = b1
    ·subst e1; rw [Axp, <- hx, w1]
    ·rw [Aqv e1]
     by_cases e0 : c = b0
     ·subst e0; rw [Axp, <- hx, w0]
     ·rw [Aqv e0]; exact hx
  clear hG
  replace w0 := hall _ _ w0
  replace w1 := hall _ _ w1
  replace w2 := hall _ _ w2
  replace hl := hl.le hall
  have l05 : H.le H5 := fun c x hx => hall _ _ (l04 _ _ hx)
  show wpX _ _ _ _ _ _ _
  refine Axt ?_
  (try refine @unH _ (zQ ?_))
  rw [Aq7]
  refine Bxz results22 (by decide) (by decide) (by decide) (by decide) rfl rfl rfl underlying3 rfl underlying3 rfl underlying22 rfl (by rw [cell_of w0]; rfl) (by rw [cell_of w1]; rfl) (by rw [cell_of w2]; rfl) _ _ ?_
  rw [show fstE s = _ from hfe]
  exact ⟨_, rfl, hl, l05⟩
def Ajm := aN @Bvr (aN @Dyg (aN @Dyb (aN @Dv9 (aN @Dyd (aN @Dw8 (aN @Dwc (aN @Dxt @Ax1)))))))
def lowI (l : List Int) : Int := match l.getLast? with
 | none => 0
 | some x => x + 1
def Bqz (l : List Int) (k : Nat) : List (List Int) := (List.range k).map fun (i : Nat) => l ++ [lowI l + (i : Int)]
def Ax8 (n : Nat) : Nat -> List (List Int)
 | 0 => [[]]
 | k + 1 => match (Ax8 n k)[k]? with
  | none => Ax8 n k
  | some l => Ax8 n k ++ Bqz l ((n : Int) - lowI l).toNat
def Aye (n : Nat) : List (List Int) := Ax8 n 16
def Cvt (n : Nat) : Bool := (List.range 17).all fun k => decide ((Ax8 n k).length <= 16) && (Ax8 n k).all fun l => decide (lowI l <= (n : Int)) && decide (0 <= lowI l) && decide (l.length <= 4)
theorem Cvu (n : Nat) (hn : n <= 4) : Cvt n = true := by
 rcases (by omega : n = 0 ∨ n = 1 ∨ n = 2 ∨ n = 3 ∨ n = 4) with rfl | rfl | rfl | rfl | rfl <;> kernel_rfl
theorem Cxr {n k : Nat} (hn : n <= 4) (hk : k <= 16) : (Ax8 n k).length <= 16 /\ ∀ l ∈ Ax8 n k, lowI l <= (n : Int) /\ 0 <= lowI l /\ l.length <= 4 := by
 have h := Cvu n hn
 unfold Cvt at h
 rw [List.all_eq_true] at h
 have h := h k (List.mem_range.2 (by omega))
 rw [Bool.and_eq_true, List.all_eq_true] at h
 refine ⟨by simpa using h.1, fun l hl => ?_⟩
 have := h.2 l hl
 simp only [Bool.and_eq_true, decide_eq_true_eq] at this
 exact ⟨this.1.1, this.1.2, this.2⟩
theorem Bv8 {n k : Nat} (h : (Ax8 n k).length <= k) : ∀ j, Ax8 n (k + j) = Ax8 n k
 | 0 => rfl
 | j + 1 => by
  have ih := Bv8 h j
  show (match (Ax8 n (k + j))[k + j]? with | none => Ax8 n (k + j) | some l => Ax8 n (k + j) ++ Bqz l ((n : Int) - lowI l).toNat) = _
  rw [ih, List.getElem?_eq_none (by omega)]
theorem Czv (l : List Int) (k : Nat) : Bqz l (k + 1) = Bqz l k ++ [l ++ [lowI l + (k : Int)]] := by
 unfold Bqz
 rw [List.range_succ, List.map_append]
 rfl
theorem Cvr {H0 H : Hp} {b : Nat} {u : Value} (hb : H0 b = none) (hl : H0.le H) (hv : H b = some (true, .cells #[u] 22 (0, 0))) : RowX none H0 H (.slice (some ⟨b, 0, none⟩) 1 1) 22 [u] :=
 ⟨Lex.of hl, .inr ⟨b, #[u], 1, hb, hv, rfl, rfl, Nat.le_refl _, fun i w h => by
  cases i with
  | zero => simpa using h
  | succ i => simp at h⟩⟩
theorem Bv7 {H : Hp} {a : Option Addr} {n cap : Nat} {xss : List (List Int)} (h : SlR H (.slice a n cap) xss) {i : Nat} {xs : List Int} (hx : xss[i]? = some xs) :
  ∃ (b o : Nat) (p : Bool) (c : Array Value) (fr : Nat × Nat) (w : Value), a = some ⟨b, o, none⟩ /\ H b = some (p, .cells c 22 fr) /\ c[o + i]? = some w /\ SlI H w xs := by
 obtain ⟨a', cap', he, _, hg⟩ := h
 cases he
 exact hg i xs hx
theorem last_at {l : List Int} (h : l ≠ []) : ∃ x, l[l.length - 1]? = some x /\ lowI l = x + 1 := by
 unfold lowI
 rw [List.getLast?_eq_getElem?]
 have hl : 0 < l.length := List.length_pos_iff.2 h
 rw [List.getElem?_eq_getElem (show l.length - 1 < l.length by omega)]
 exact ⟨_, rfl, rfl⟩
theorem By5 (m : Md) (H : Hp) (n : Nat) (hn : n <= 4) :
  FnX Tryz.prog m 69 #[.int .i64 (n : Nat)] H fun e H' => ∃ v, e = .returned v /\ SlR H' v (Aye n) /\ H.le H' := by
 refine Aql func69 rfl ntmps69 (by simp) ?_
 (refine @unH _ (zA Ajm ?_); (try clear hK K); intro K hK hc)
 (intro ob hob; generalize hG : Hp.set _ ob _ = H1; have lH1 := Aqc hG hob; have vob := Aqb hG; clear hG)
 have hrow : RowX none H H1 (.slice (some ⟨ob, 0, none⟩) 1 1) 22 [.slice none 0 0] := Cvr hob lH1 vob
 have hR : Rows H1 [.slice none 0 0] (Ax8 n 0) := ⟨rfl, fun i xs hi => by
  cases i with
  | zero => simp only [Ax8, List.getElem?_cons_zero, Option.some.injEq] at hi; subst hi; exact ⟨_, rfl, nilS _⟩
  | succ i => simp [Ax8] at hi⟩
 clear hob lH1 vob
 (refine @unH _ (zU Ajm ?_); (try clear hK K); intro K hK hc)
 refine Axh (fun w a' H' => ∃ e k ov vs, w = 16 - k /\ k <= 16 /\ k <= (Ax8 n k).length /\ a' = act 44 e [] /\ e 0 = .int .i64 (n : Nat) /\ e 3 = ov /\ e 4 = .int .i64 (k : Nat) /\ RowX none H H' ov 22 vs /\ Rows H' vs (Ax8 n k)) (n := 16) ?_ ?_
 ·exact ⟨_, 0, _, _, by omega, by omega, Nat.zero_le _, rfl, rfl, rfl, rfl, hrow, hR⟩
 clear hrow hR
 rintro w a' H2 ⟨e, k, ov, vs, rfl, hk, hk2, rfl, e0, e3, e4, hrow, hR⟩
 obtain ⟨hlen, hall⟩ := Cxr hn hk
 have hsucc : Ax8 n (k + 1) = match (Ax8 n k)[k]? with | none => Ax8 n k | some l => Ax8 n k ++ Bqz l ((n : Int) - lowI l).toNat := rfl
 have hend := Bv8 (n := n) (k := k)
 obtain ⟨oa, oc, rfl⟩ := hrow.len
 have hvl := hR.1
 have hsr := hrow.rows hR
 generalize Ax8 n k = R0 at *
 rw [hvl] at hsr e3
 by_cases hlt : k < R0.length
 ·have hkt := List.getElem?_eq_getElem hlt
  obtain ⟨g1, g2, g3⟩ := hall _ (List.getElem_mem hlt)
  generalize R0[k] = l at *
  rw [hkt] at hsucc
  simp only at hsucc
  replace hsucc : Aqo _ := hsucc
  replace hall : Aqo _ := hall
  replace hend : Aqo _ := hend
  obtain ⟨b, o, p, c, fr, u, rfl, hb, hcu, hu⟩ := Bv7 hsr hkt
  obtain ⟨ua, uc, rfl, _, _⟩ := id hu
  replace hvl : Aqo _ := hvl
  refine Cqn (fun a' H' => ∃ e, a' = act 44 e [] /\ e 0 = .int .i64 (n : Nat) /\ e 3 = .slice (some ⟨b, o, none⟩) R0.length oc /\ e 4 = .int .i64 (k : Nat) /\ H' = H2) ?_ ?_
  ·(refine @unH _ (zA Ajm ?_); (try clear hK K); intro K hK hc)
   exact ⟨_, rfl, e0, e3, e4, trivial⟩
  clear e0 e3 e4
  rintro _ HQ ⟨e, rfl, e0, e3, e4, hQ⟩
  rw [hQ]; clear hQ HQ
  refine Axy (Azt ?_)
  refine Axy ?_
  (refine @unH _ (zS Ajm ?_); (try clear hK K); intro K hK hc)
  refine Cqn (fun a' H' => ∃ e, a' = act 44 e [] /\ e 0 = .int .i64 (n : Nat) /\ e 3 = .slice (some ⟨b, o, none⟩) R0.length oc /\ e 4 = .int .i64 (k : Nat) /\ e 5 = .slice ua l.length uc /\ e 6 = .int .i64 (lowI l) /\ H' = H2) ?_ ?_
  ·by_cases hl0 : l = []
   ·have hlow : lowI l = 0 := by rw [hl0]; rfl
    have hln : l.length <= 0 := by rw [hl0]; exact Nat.le_refl _
    replace hlow : Aqo _ := hlow
    clear hl0
    (refine @unH _ (zA Ajm ?_); (try clear hK K); intro K hK hc)
    exact ⟨_, rfl, e0, e3, e4, rfl, by rw [show lowI l = 0 from hlow]; rfl, trivial⟩
   ·obtain ⟨z, hz, hlow⟩ := last_at hl0
    have hln : 0 < l.length := List.length_pos_iff.2 hl0
    obtain ⟨ub, uo, up, cc, ufr, rfl, hub, hux⟩ := hu.get hz
    have hux2 : cc[uo + ((l.length : Int) - 1).toNat]? = some (.int .i64 z) := by rw [show ((l.length : Int) - 1).toNat = l.length - 1 by omega]; exact hux
    have hz0 : 0 <= z + 1 /\ z + 1 <= n := by rw [<- hlow]; exact ⟨g2, g1⟩
    obtain ⟨hz1, hz2⟩ := hz0
    replace hlow : Aqo _ := hlow
    clear hl0
    (refine @unH _ (zA Ajm ?_); (try clear hK K); intro K hK hc)
    exact ⟨_, rfl, e0, e3, e4, rfl, by rw [show lowI l = _ from hlow]; rfl, trivial⟩
  clear e0 e3 e4
  rintro _ HQ ⟨e, rfl, e0, e3, e4, e5, e6, hQ⟩
  rw [hQ]; clear hQ HQ
  (refine @unH _ (zA Ajm ?_); (try clear hK K); intro K hK hc)
  obtain ⟨q, hq⟩ : ∃ q : Nat, q = ((n : Int) - lowI l).toNat := ⟨_, rfl⟩
  have hqn : lowI l + (q : Int) = n := by omega
  rw [<- hq] at hsucc
  have hq4 : q <= 4 := by omega
  clear hq
  have hns := Czv l
  generalize lowI l = lo at *
  replace hns : Aqo _ := hns
  refine Axh (fun w a' H' => ∃ e x ov vs, w = q - x /\ x <= q /\ a' = act 44 e [] /\ e 0 = .int .i64 (n : Nat) /\ e 3 = ov /\ e 4 = .int .i64 (k : Nat) /\ e 5 = .slice ua l.length uc /\ e 7 = .int .i64 (lo + (x : Int)) /\ RowX none H H' ov 22 vs /\ Rows H' vs (R0 ++ Bqz l x) /\ SlI H' (.slice ua l.length uc) l) (n := q) ?_ ?_
  ·exact ⟨_, 0, .slice (some ⟨b, o, none⟩) vs.length oc, vs, by omega, by omega, rfl, e0, by rw [show vs.length = R0.length from hvl]; exact e3, e4, e5, by simp [Axg], hrow, by simpa [Bqz] using hR, hu⟩
  clear e0 e3 e4 e5 e6 hrow hR hu hsr hb hcu
  rintro w a' H4 ⟨e, x, ov, vs, rfl, hx, rfl, e0, e3, e4, e5, e7, hrow, hR, hu⟩
  by_cases hxq : x < q
  ·obtain ⟨oa, oc, rfl⟩ := hrow.len
   have hvb : vs.length <= 20 := by
    rw [hR.1, List.length_append]
    simp only [Bqz, List.length_map, List.length_range]
    omega
   (refine @unH _ (zA Ajm ?_); (try clear hK K); intro K hK hc)
   refine (Czb _ H4 _ l hu (by omega)).runs.mono ?_
   rintro _ H5 ⟨cv, rfl, hcl⟩
   have l45 := hcl.1.toLe
   obtain ⟨ca, cc2, rfl⟩ := id hcl.len
   rw [Aq1] at hcl ⊢
   (refine @unH _ (zU Ajm ?_); intro _ _ hc)
   intro nb hnb
   refine Bjp hcl hnb (by omega) _ _ _ _ (fun v6 H6 hw ho6 => ?_)
   have l46 := hw.1.toLe
   have hwv := hw.ints
   obtain ⟨wa, wc, rfl⟩ := id hw.len
   (refine @unH _ (zU Ajm ?_); intro _ _ hc)
   intro mb hmb
   refine Cwc (hrow.le l46) rfl hmb (by omega) _ _ _ _ (fun v7 H7 hrB hoB => ?_)
   (refine @unH _ (zU Ajm ?_); (try clear hK K); intro K hK hc)
   have hmv : ∀ v xs, SlI H6 v xs -> SlI H7 v xs := fun v xs h => h.move fun x p c fr hx => hoB.cells hx (by decide)
   refine ⟨_, by omega, _, x + 1, v7, _, rfl, hxq, rfl, e0, rfl, e4, e5, ?_, hrB, ?_, hmv _ _ (hu.le l46)⟩
   ·simp only [Axg, Nat.reduceEqDiff, ↓reduceIte]
    exact congrArg (Value.int .i64) (by omega)
   ·rw [show Bqz l (x + 1) = _ from (show ∀ k : Nat, Bqz l (k + 1) = Bqz l k ++ [l ++ [lo + (k : Int)]] from hns) x, <- List.append_assoc]
    exact (hR.mono fun v xs h => hmv _ _ (h.le l46)).snoc (hmv _ _ hwv)
  ·obtain rfl : x = q := by omega
   obtain ⟨oa, oc, rfl⟩ := hrow.len
   (refine @unH _ (zA Ajm ?_); (try clear hK K); intro K hK hc)
   refine ⟨_, by omega, _, k + 1, _, vs, rfl, by omega, ?_, rfl, e0, e3, rfl, hrow, by rw [show Ax8 n (k + 1) = _ from hsucc]; exact hR⟩
   rw [show Ax8 n (k + 1) = _ from hsucc, List.length_append]
   omega
 ·obtain rfl : k = R0.length := by omega
  replace hend : Aqo _ := hend
  replace hsucc : Aqo _ := hsucc
  replace hall : Aqo _ := hall
  replace hvl : Aqo _ := hvl
  (refine @unH _ (zA Ajm ?_); (try clear hK K); intro K hK hc)
  (refine @unH _ ?_; refine z9 results69 ?_)
  refine ⟨_, rfl, ?_, hrow.1.toLe⟩
  have h16 := (show R0.length <= R0.length -> ∀ j : Nat, Ax8 n (R0.length + j) = R0 from hend) (Nat.le_refl _) (16 - R0.length)
  rw [show R0.length + (16 - R0.length) = 16 by omega] at h16
  unfold Aye
  rw [h16]
  exact hsr
end Go.Proofs.YtnfnaehonkbknaaGreatDoor
end
section
namespace Go.X
open Go
theorem SlG.cells {e : TypeId} {sz : Nat} (hsz : 0 < sz) {H : Hp} {b o n cap : Nat} {rows : List (List Value)} (h : SlG e sz H (.slice (some ⟨b, o, none⟩) n cap) rows) : ∀ j u, (rows.flatMap id)[j]? = some u -> H.cell ⟨b, o + j, none⟩ = some u := by
 have hl : ∀ r ∈ rows, (id r : List Value).length = sz := fun r hr => by
  obtain ⟨i, hi⟩ := List.getElem?_of_mem hr
  obtain ⟨_, _, _, _, _, _, _, _, h4, _⟩ := h.get hi
  exact h4
 intro j u hj
 rw [Awo id sz hsz rows hl] at hj
 cases hi : rows[j / sz]? with
 | none => rw [hi] at hj; cases hj
 | some r =>
  rw [hi] at hj
  simp only [Option.bind_some, id] at hj
  obtain ⟨b', o', p, c, fr, h1, h2, h3, h4, h5⟩ := h.get hi
  cases h1
  have hm : j % sz < sz := Nat.mod_lt _ hsz
  have hx := Cq8 h5 h3 hj
  rw [cell_of h2]
  rw [show o + j = o + j / sz * sz + j % sz by have := Nat.div_add_mod j sz; rw [Nat.mul_comm] at this; omega]
  exact hx
theorem SlG.of {e : TypeId} {sz : Nat} (hsz : 0 < sz) {H : Hp} {b N : Nat} {p : Bool} {c : Array Value} {fr : Nat × Nat} {rows : List (List Value)} (hb : H b = some (p, .cells c e fr)) (hr : ∀ r ∈ rows, r.length = sz) (hc : ∀ (j : Nat) (u : Value), (rows.flatMap id)[j]? = some u -> c[j]? = some u) (hN : rows.length <= N) : SlG e sz H (.slice (some ⟨b, 0, none⟩) rows.length N) rows := by
 refine ⟨_, N, rfl, hN, fun i r hi => ⟨b, 0, p, c, fr, rfl, hb, ?_, hr r (List.mem_of_getElem? hi), ?_⟩⟩
 ·have hir := (List.getElem?_eq_some_iff.1 hi).1
  have hlen : (rows.flatMap id).length = rows.length * sz := by
   rw [Ak9 id sz rows hr]
  have h1 : i * sz + sz <= rows.length * sz := by
   rw [<- Nat.succ_mul]
   exact Nat.mul_le_mul_right _ hir
  have h2 : i * sz + sz - 1 < (rows.flatMap id).length := by omega
  have h3 := hc _ _ (List.getElem?_eq_getElem h2)
  have h4 := (Array.getElem?_eq_some_iff.1 h3).1
  omega
 ·apply Array.ext_getElem?
  intro k
  have hrl := hr r (List.mem_of_getElem? hi)
  rw [Array.getElem?_extract]
  by_cases hk : k < sz
  ·have hfl : (rows.flatMap id)[i * sz + k]? = r[k]? := by
    rw [Awo id sz hsz rows hr, Nat.mul_comm, Nat.mul_add_div hsz, Nat.div_eq_of_lt hk, Nat.add_zero, hi, Nat.mul_add_mod, Nat.mod_eq_of_lt hk]
    rfl
   have h2 : k < r.length := by omega
   have h3 := hc (i * sz + k) r[k] (by rw [hfl, List.getElem?_eq_getElem h2])
   have h4 := (Array.getElem?_eq_some_iff.1 h3).1
   rw [if_pos (by omega), Nat.zero_add, h3]
   simp [h2]
  ·rw [if_neg (by omega), Array.getElem?_eq_none (by simp; omega)]
theorem Bk5 {P : Program} {t e : TypeId} {z : Value} {inf : TypeInfo} {sz : Nat} (hsz : 0 < sz) (hu : P.underlying t = some (.slice e)) (hs : ∀ w, (sizeOf e).run P w = .ok sz w) (hz : ∀ w, (zeroValue e).run P w = .ok z w) (hzc : z.cells.size = sz)
  (hi : ∀ w, (typeInfo e).run P w = .ok inf w) (hby : inf.bytes <= 1024) (hby0 : 0 < inf.bytes) {H : Hp} {a : Option Addr} {n : Nat} {rows1 rows2 : List (List Value)} (h1 : SlG e sz H (.slice a n n) rows1)
  {g : Option Addr} {m cap : Nat} (h2 : SlG e sz H (.slice g m cap) rows2) (hn : n + m <= 1000000)
  (ty : TypeId) (cb : Array Bool) (K : Next -> Hp -> Prop) (E : Value -> Hp -> Prop)
  (h0 : rows2 = [] -> K (.value (.slice a n n)) H)
  (h : ∀ b' C N, H b' = none -> rows2 ≠ [] -> n + m <= N -> C.size = N * sz -> (∀ r ∈ rows1 ++ rows2, r.length = sz) -> (∀ (j : Nat) (u : Value), ((rows1 ++ rows2).flatMap id)[j]? = some u -> C[j]? = some u) -> K (.value (.slice (some ⟨b', 0, none⟩) (n + m) N)) (H.set b' (.cells C e (0, 0)))) :
  wpS P (builtin .append #[t, t] ty cb #[.slice a n n, .slice g m cap]) H K E := by
 have hl1 := h1.len.1
 have hl2 := h2.len.1
 by_cases hm : m = 0
 ·subst hm
  have : rows2 = [] := List.eq_nil_of_length_eq_zero hl2.symm
  exact Bxe hu hs _ _ _ _ _ _ _ (Nat.le_refl _) _ _ (h0 this)
 have hr1 : ∀ r ∈ rows1, (id r : List Value).length = sz := fun r hr => by
  obtain ⟨i, hi⟩ := List.getElem?_of_mem hr
  obtain ⟨_, _, _, _, _, _, _, _, h4, _⟩ := h1.get hi
  exact h4
 have hr2 : ∀ r ∈ rows2, (id r : List Value).length = sz := fun r hr => by
  obtain ⟨i, hi⟩ := List.getElem?_of_mem hr
  obtain ⟨_, _, _, _, _, _, _, _, h4, _⟩ := h2.get hi
  exact h4
 obtain ⟨⟨gb, go, rfl⟩⟩ : Nonempty (∃ gb go, g = some ⟨gb, go, none⟩) := by
  cases hx : rows2 with
  | nil => rw [hx] at hl2; exact absurd hl2 hm
  | cons r l =>
   obtain ⟨b, o, _, _, _, hh, _⟩ := h2.get (i := 0) (r := r) (by rw [hx]; rfl)
   exact ⟨b, o, hh⟩
 have hinf := Akb hi
 have hf1 : (rows1.flatMap id).length = n * sz := by rw [Ak9 id sz rows1 hr1, hl1]
 have hf2 : (rows2.flatMap id).length = m * sz := by rw [Ak9 id sz rows2 hr2, hl2]
 simp only [builtin]
 rw [Aqa]
 unfold Builtin.append_
 simp only [List.getElem?_toArray, List.getElem?_cons_zero, List.getElem?_cons_succ]
 rw [Aqa, Aqh hu]
 simp only [Aqa, Aqw hs, Aqh hu, Aqd, Bool.false_eq_true, if_false, Builtin.lenOf, Bzc]
 have hfirst : ∀ (K' : Array Value -> Hp -> Prop), wpS P (Builtin.firstCells sz m (.slice (some ⟨gb, go, none⟩) m cap)) H K' E = K' (rows2.flatMap id).toArray H := fun K' => by
  unfold Builtin.firstCells
  exact Azg hf2 (h2.cells hsz) K' E
 have hold : ∀ (K' : Array Value -> Hp -> Prop), wpS P (Builtin.firstCells sz n (.slice a n n)) H K' E = K' (rows1.flatMap id).toArray H := fun K' => by
  unfold Builtin.firstCells
  cases hx : rows1 with
  | nil =>
   rw [hx] at hl1
   simp only [List.length_nil] at hl1
   subst hl1
   cases a with
   | none => rfl
   | some a => simp only [loadCells, Nat.zero_mul]; rfl
  | cons r l =>
   obtain ⟨b, o, _, _, _, hh, _⟩ := h1.get (i := 0) (r := r) (by rw [hx]; rfl)
   subst hh
   simp only
   rw [<- hx]
   exact Azg hf1 (h1.cells hsz) K' E
 rw [if_neg (show ¬ n + m <= n by omega)]
 have hnc := Bz7 (n + m) n (by omega)
 simp only [Aju hinf]
 rw [if_neg (by intro hh; have := hh.2; simp at this; omega)]
 rw [if_neg (by
  have : Builtin.nextslicecap (n + m) n * inf.bytes <= (2 * (n + m) + 400) * 1024 := Nat.mul_le_mul hnc hby
  omega)]
 simp only [choose, wpS, Question.forced, Bool.false_eq_true, if_false, Question.cut]
 intro t
 simp only [Av1, hold, Bool.not_false, if_true, hfirst, Aq8 hz, newRow, newObj, Aqa, wpS, Aqd]
 intro b' hb'
 generalize hN : n + m + t % (2 ^ 63 - (n + m)) = N
 have hNge : n + m <= N := by omega
 have hall : ∀ r ∈ rows1 ++ rows2, r.length = sz := fun r hr => by
  rcases List.mem_append.1 hr with h | h
  ·exact hr1 r h
  ·exact hr2 r h
 generalize hC : (rows1.flatMap id).toArray ++ (rows2.flatMap id).toArray ++ _ = C
 refine h b' C N hb' (fun e => hm (by rw [hl2, e]; rfl)) hNge ?_ hall fun j u hj => ?_
 ·rw [<- hC]
  simp only [Array.size_append, List.size_toArray, Builtin.zeroCells, Array.size_map, Array.size_range, hzc, hf1, hf2]
  rw [<- Nat.add_mul, <- Nat.add_mul]
  congr 1
  omega
 ·rw [List.flatMap_append] at hj
  have hjl := (List.getElem?_eq_some_iff.1 hj).1
  rw [<- hC, Array.getElem?_append_left (by simpa using hjl)]
  simpa using hj
theorem Bk6 {P : Program} {t e : TypeId} {z : Value} {inf : TypeInfo} {sz : Nat} (hsz : 0 < sz) (hu : P.underlying t = some (.slice e)) (hs : ∀ w, (sizeOf e).run P w = .ok sz w) (hz : ∀ w, (zeroValue e).run P w = .ok z w) (hzc : z.cells.size = sz)
  (hi : ∀ w, (typeInfo e).run P w = .ok inf w) (hby : inf.bytes <= 1024) (hby0 : 0 < inf.bytes) {H : Hp} {a : Option Addr} {n : Nat} {rows1 rows2 : List (List Value)} (h1 : SlG e sz H (.slice a n n) rows1)
  {g : Option Addr} {m cap : Nat} (h2 : SlG e sz H (.slice g m cap) rows2) (hn : n + m <= 1000000)
  (ty : TypeId) (cb : Array Bool) (K : Next -> Hp -> Prop) (E : Value -> Hp -> Prop)
  (h : ∀ v' H', SlG e sz H' v' (rows1 ++ rows2) -> H.le H' -> K (.value v') H') :
  wpS P (builtin .append #[t, t] ty cb #[.slice a n n, .slice g m cap]) H K E := by
 have hl1 := h1.len.1
 have hl2 := h2.len.1
 refine Bk5 hsz hu hs hz hzc hi hby hby0 h1 h2 hn ty cb K E (fun e => h _ H (by rw [e, List.append_nil]; exact h1) (Hp.le_refl _)) fun b' C N hb' _ hN _ hall hC => ?_
 have hb : (H.set b' (.cells C e (0, 0))) b' = some (true, .cells C e (0, 0)) := by rw [Azr, if_pos rfl]
 have hres := SlG.of hsz (rows := rows1 ++ rows2) (N := N) hb hall hC (by rw [List.length_append, <- hl1, <- hl2]; exact hN)
 rw [List.length_append, <- hl1, <- hl2] at hres
 exact h _ _ hres (Hp.le_set hb')
end Go.X
end
