/- Texts SmL SmV SmO SmO2. -/
import Derived.Test.YtnfnaehonkbknaaGreatDoorJ18
set_option linter.defProp false
set_option linter.unusedSimpArgs false
set_option linter.unusedVariables false
set_option maxRecDepth 100000
set_option maxHeartbeats 2000000
section
namespace Go.Proofs.YtnfnaehonkbknaaGreatDoor
open Go Go.X
def Ak3 := And.intro (fun H => Aqp (H := H) Tryz.underlying26 rfl Tryz.sizeOf26) (And.intro @Azn (And.intro @Bq4 (And.intro @Cvi @Dja)))
def Awv := And.intro (fun H => Aqv (H := H) (P := Tryz.prog) (h := Tryz.zeroValue87)) (And.intro @Bzm (And.intro (fun H => Aqp (H := H) Tryz.underlying87 rfl Tryz.sizeOf87) (fun H => Aqr (H := H) Tryz.sizeOf87)))
def Av4 := And.intro (fun H => Aqd (H := H) Tryz.underlying87 (i := 0) rfl (off := 0) rfl Tryz.sizeOf3) (And.intro (fun H => Aqf (H := H) Tryz.underlying3 rfl) (fun H => Aqd (H := H) Tryz.underlying87 (i := 1) rfl (off := 1) rfl Tryz.sizeOf3))
def Ay9 := And.intro (fun H => Aqf (H := H) Tryz.underlying3 rfl) (And.intro (fun H => Aqd (H := H) Tryz.underlying93 (i := 0) rfl (off := 0) rfl Tryz.sizeOf89) (And.intro (fun H => Aq5 (H := H) Tryz.underlying89 Tryz.sizeOf87) (And.intro (fun H => Aqd (H := H) Tryz.underlying87 (i := 0) rfl (off := 0) rfl Tryz.sizeOf3) (And.intro @Bk7 (fun H => Aqd (H := H) Tryz.underlying87 (i := 1) rfl (off := 1) rfl Tryz.sizeOf3)))))
def gB (x : Hint) (p : Int) : Bd := x.bs.getD p.toNat bd0
theorem Czi {x : Hint} (h : Axp x) {p : Int} (h0 : 0 <= p) (h1 : p < 6) : x.bs[p.toNat]? = some (gB x p) := by
 unfold gB
 rw [List.getD, List.getElem?_eq_getElem (by rw [h.b]; omega)]
 rfl
abbrev bdO (b : Bd) : Obj := .cells #[.int .i64 b.lo, .int .i64 b.hi, .bool b.some] 87 (0, 0)
theorem Cy0 (b : Bd) : BdC #[.int .i64 b.lo, .int .i64 b.hi, .bool b.some] 0 b := ⟨rfl, rfl, rfl⟩
theorem Cja (b b' : Bd) : Bjt #[.int .i64 b.lo, .int .i64 b.hi, .bool b.some] 0 b' = #[.int .i64 b'.lo, .int .i64 b'.hi, .bool b'.some] := by simp [Bjt]
theorem Avn (main : Md) (H : Hp) (bb : Nat) (b : Bd) (x : Int) (vb : H bb = some (true, bdO b)) :
  FnX Tryz.prog main 46 #[.pointer (some ⟨bb, 0, none⟩), .int .i64 x] H fun e' H' => e' = .returned (.tuple #[]) /\ H' bb = some (true, bdO (Aza b x)) /\ ∀ y, y ≠ bb -> H' y = H y :=
 (Byc main H bb 0 b x _ _ vb (Cy0 b)).mono fun e H' ⟨h1, h2, h3⟩ => ⟨h1, by rw [h2, Cja], h3⟩
def arrF (p : Int) (b : Bd) (x : Int × Int × Hint) : Bd := Aza (Aza b (gB x.2.2 p).lo) (gB x.2.2 p).hi
theorem Bkx (main : Md) (H : Hp) (ob pb : Nat) (p : Int) (h0 : 0 <= p) (h1 : p < 6) (ham hour : Int) (x : Hint) (hx : Axp x) (b : Bd) (vo : H ob = some (true, bdO b)) (vp : H pb = some (true, .cells #[.int .i64 p] 3 (0, 0))) (hne : pb ≠ ob) :
  FnX Tryz.prog main 72 #[.int .i64 ham, .int .i64 hour, .agg (Axx x).toArray, .pointer (some ⟨ob, 0, none⟩), .pointer (some ⟨pb, 0, none⟩)] H fun e H' => e = .returned (.tuple #[]) /\ H' ob = some (true, bdO (arrF p b (ham, hour, x))) /\ ∀ b x, b ≠ ob -> H b = some x -> H' b = some x := by
 have hl := Ax1 hx
 have hex := Ak7 hx
 have hbd := Bqn hx (Czi hx h0 h1)
 obtain ⟨hb1, hb2, _⟩ := hbd
 unfold arrF
 simp only
 generalize gB x p = g at *
 generalize Axx x = HC at *
 refine Aqo Tryz.func72 rfl Tryz.ntmps72 (by simp) ?_
 (refine @unH _ (zA Ay9 ?_); (repeat refine inC fun hc => ?_); try refine inK fun K hK => ?_)
 (intro b hb; generalize hG : Hp.set _ b _ = H1; have lH1 := Aqc hG hb; have vb := Aqb hG; clear hG)
 have vo1 := lH1 _ _ vo
 have vp1 := lH1 _ _ vp
 ((try refine @unH _ (zX Ay9 ?_)); (try (refine hK _ _ ?_; clear hK K; try refine @unH _ (zQ ?_))); refine @unH _ (zA Ay9 ?_); (repeat refine inC fun hc => ?_); try refine inK fun K hK => ?_)
 refine (Avn main H1 ob _ g.lo vo1).runs.mono ?_
 rintro _ H2 ⟨rfl, h21, h22⟩
 have nob : b ≠ ob := fun e => by rw [e, vo] at hb; cases hb
 have vp2 := (h22 pb hne).trans vp1
 have vb2 := (h22 b nob).trans vb
 have hf2 : ∀ c z, c ≠ ob -> H c = some z -> H2 c = some z := fun c z hc hz => (h22 c hc).trans (lH1 _ _ hz)
 clear vo1 vp1 vb h22 lH1
 ((try refine @unH _ (zX Ay9 ?_)); (try (refine hK _ _ ?_; clear hK K; try refine @unH _ (zQ ?_))); refine @unH _ (zA Ay9 ?_); (repeat refine inC fun hc => ?_); try refine inK fun K hK => ?_)
 refine (Avn main H2 ob _ g.hi h21).runs.mono ?_
 rintro _ H3 ⟨rfl, h31, h32⟩
 ((try refine @unH _ (zX Ay9 ?_)); (try (refine hK _ _ ?_; clear hK K; try refine @unH _ (zQ ?_))); refine @unH _ (zA Ay9 ?_); (repeat refine inC fun hc => ?_); try refine inK fun K hK => ?_)
 (refine @unH _ ?_; refine zD Tryz.results72 ?_)
 exact ⟨rfl, h31, fun c z hc hz => (h32 c hc).trans (hf2 c z hc hz)⟩
def arrL (L : List (Int × Int × Hint)) (p : Int) : Bd := L.foldl (arrF p) bd0
theorem Ck4 (L : List (Int × Int × Hint)) (p : Int) (x : Int × Int × Hint) : arrL (L ++ [x]) p = arrF p (arrL L p) x := by simp [arrL]
theorem Bxn (main : Md) (H : Hp) (v : Value) (l : List Trail) (hv : SlT H v l) (hok : ∀ t ∈ l, Ax5 t) (hl : l.length <= 1000) (p : Int) (h0 : 0 <= p) (h1 : p < 6) :
  FnX Tryz.prog main 48 #[v, .int .i64 p] H fun e H' => e = .returned (.agg #[.int .i64 (arrL (Az6 l) p).lo, .int .i64 (arrL (Az6 l) p).hi, .bool (arrL (Az6 l) p).some]) /\ H.le H' := by
 obtain ⟨a, cap, rfl, hcap⟩ := hv.isSlice
 refine Aqo Tryz.func48 rfl Tryz.ntmps48 (by simp) ?_
 (refine @unH _ (zA Awv ?_); (repeat refine inC fun hc => ?_); try refine inK fun K hK => ?_)
 (intro pb hpb rb hrb; replace hrb : (Hp.set _ pb _) rb = none := hrb; generalize hG : Hp.set _ pb _ = H1 at hrb ⊢; have lH1 := Aqc hG hpb; have wpb := Aqb hG; clear hG; generalize hG : Hp.set _ rb _ = H2; have lH2 := Aqc hG hrb; have vrb := Aqb hG; have vpb := lH2 _ _ wpb; have npbrb := Aqq wpb hrb; clear hG wpb)
 have l02 := Hp.le_trans lH1 lH2
 have hv2 := hv.le l02
 have h0rb := Hp.le_none lH1 hrb
 clear lH1 lH2 hpb
 ((try refine @unH _ (zX Awv ?_)); (try (refine hK _ _ ?_; clear hK K; try refine @unH _ (zQ ?_))); refine @unH _ (zA Awv ?_); (repeat refine inC fun hc => ?_); try refine inK fun K hK => ?_)
 intro ob hob
 have nob := Aqq vpb hob
 have nrb := Aqq vrb hob
 generalize hG : Hp.set H2 ob _ = H3
 have lH3 := Aqc hG hob
 have vo3 := Aqb hG
 have vp3 := Aqi hG vpb nob
 have vr3 := Aqi hG vrb nrb
 have h00 := Hp.le_none l02 hob
 clear hG vpb vrb
 have hone := Bw1 main (A := fun _ _ _ => True) (yf := .func 72) (yi := #[]) (yc := #[.pointer (some ⟨ob, 0, none⟩), .pointer (some ⟨pb, 0, none⟩)]) H2 H3 _ _ hv2 ob (fun L => bdO (arrL L p)) lH3 hob (by rw [vo3]; rfl) (fun L H' ham hour x g1 g2 hxo _ => by
  refine Ajz.fn (fun _ _ => Djo _) ((Bkx main H' ob pb p h0 h1 ham hour x hxo _ g1 (g2 _ _ nob vp3) nob).mono ?_)
  rintro _ H4 ⟨rfl, h3, h4⟩
  exact ⟨rfl, by rw [h3, Ck4], h4⟩) hok (fun _ _ _ _ _ _ => trivial) hl
 ((try refine @unH _ (zX Awv ?_)); (try (refine hK _ _ ?_; clear hK K; try refine @unH _ (zQ ?_))); refine @unH _ (zA Awv ?_); (repeat refine inC fun hc => ?_); try refine inK fun K hK => ?_)
 refine hone.runs.mono ?_
 clear hone
 rintro _ H4 ⟨rfl, h3, h4⟩
 have l04 : H.le H4 := fun b x hx => h4 b x (fun e => by rw [e, h00] at hx; cases hx) (lH3 _ _ (l02 _ _ hx))
 have vr4 := h4 _ _ nrb vr3
 generalize arrL (Az6 l) p = w at *
 clear h4 vr3 vp3 vo3 l02 lH3 hv2
 ((try refine @unH _ (zX Awv ?_)); (try (refine hK _ _ ?_; clear hK K; try refine @unH _ (zQ ?_))); refine @unH _ (zA Awv ?_); (repeat refine inC fun hc => ?_); try refine inK fun K hK => ?_)
 (refine Axr ?_; (try simp only [nq, ↓reduceIte, Nat.reduceEqDiff]); rw [Aq7, Ax6 Tryz.results48 (by decide) (b := rb) (o := 0) rfl Tryz.underlying87 rfl Tryz.sizeOf87]; simp -implicitDefEqProofs (disch := first | omega | (simp only [qd] <;> omega)) only [xq, ↓xp, qc, Nat.reduceAdd, List.range, List.range.loop, fine, Nat.reduceEqDiff, ↓reduceIte, yielded, reduceCtorEq, Nat.reduceLT, Nat.reduceMul, Nat.reduceSub, one, Nat.reduceLeDiff, Aqj, Awv, Axk, List.extract_toArray])
 exact fun c z hc => by rw [Aqw (fun e => by rw [e, h0rb] at hc; cases hc)]; exact l04 _ _ hc
def Cxp (b : Bd) (h : Int) : Int := if b.lo <= h /\ h < b.hi then 3 else if h < b.lo then 2 else 1
theorem Bvz (main : Md) (H : Hp) (b : Bd) (h : Int) :
  FnX Tryz.prog main 49 #[.agg #[.int .i64 b.lo, .int .i64 b.hi, .bool b.some], .int .i64 h] H fun e H' => e = .returned (.int .i64 (Cxp b h)) /\ H.le H' := by
 unfold Cxp
 by_cases g1 : b.lo <= h
 ·have d1 : decide (b.lo <= h) = true := by simpa using g1
  by_cases g2 : h < b.hi
  ·have d2 : decide (h < b.hi) = true := by simpa using g2
   rw [if_pos ⟨g1, g2⟩]
   clear g1 g2
   refine Aqo Tryz.func49 rfl Tryz.ntmps49 (by simp) ?_
   (refine @unH _ (zA Av4 ?_); (repeat refine inC fun hc => ?_); try refine inK fun K hK => ?_)
   (intro bb hbb; generalize hG : Hp.set _ bb _ = H1; have lH1 := Aqc hG hbb; have vbb := Aqb hG; clear hG)
   ((try refine @unH _ (zX Av4 ?_)); (try (refine hK _ _ ?_; clear hK K; try refine @unH _ (zQ ?_))); refine @unH _ (zA Av4 ?_); (repeat refine inC fun hc => ?_); try refine inK fun K hK => ?_)
   (refine @unH _ ?_; refine z9 Tryz.results49 ?_)
   exact ⟨rfl, lH1⟩
  ·have d2 : decide (h < b.hi) = false := by simpa using g2
   have d3 : decide (h < b.lo) = false := by simp; omega
   rw [if_neg (fun g => g2 g.2), if_neg (by omega : ¬ h < b.lo)]
   clear g1 g2
   refine Aqo Tryz.func49 rfl Tryz.ntmps49 (by simp) ?_
   (refine @unH _ (zA Av4 ?_); (repeat refine inC fun hc => ?_); try refine inK fun K hK => ?_)
   (intro bb hbb; generalize hG : Hp.set _ bb _ = H1; have lH1 := Aqc hG hbb; have vbb := Aqb hG; clear hG)
   ((try refine @unH _ (zX Av4 ?_)); (try (refine hK _ _ ?_; clear hK K; try refine @unH _ (zQ ?_))); refine @unH _ (zA Av4 ?_); (repeat refine inC fun hc => ?_); try refine inK fun K hK => ?_)
   (refine @unH _ ?_; refine z9 Tryz.results49 ?_)
   exact ⟨rfl, lH1⟩
 ·have d1 : decide (b.lo <= h) = false := by simpa using g1
  have d3 : decide (h < b.lo) = true := by simp; omega
  rw [if_neg (fun g => g1 g.1), if_pos (by omega)]
  clear g1
  refine Aqo Tryz.func49 rfl Tryz.ntmps49 (by simp) ?_
  (refine @unH _ (zA Av4 ?_); (repeat refine inC fun hc => ?_); try refine inK fun K hK => ?_)
  (intro bb hbb; generalize hG : Hp.set _ bb _ = H1; have lH1 := Aqc hG hbb; have vbb := Aqb hG; clear hG)
  ((try refine @unH _ (zX Av4 ?_)); (try (refine hK _ _ ?_; clear hK K; try refine @unH _ (zQ ?_))); refine @unH _ (zA Av4 ?_); (repeat refine inC fun hc => ?_); try refine inK fun K hK => ?_)
  (refine @unH _ ?_; refine z9 Tryz.results49 ?_)
  exact ⟨rfl, lH1⟩
theorem Dkg {H : Hp} {b : Nat} {x : Int} {p : Bool} {fr : Nat × Nat} (h : H b = some (p, .cells #[.int .i64 x] 3 fr)) : SlI H (.slice (some ⟨b, 0, none⟩) 1 1) [x] := by
 refine ⟨some ⟨b, 0, none⟩, 1, rfl, Nat.le_refl _, fun i y hy => ?_⟩
 rcases i with _ | i
 ·simp only [List.getElem?_cons_zero, Option.some.injEq] at hy
  subst hy
  exact ⟨b, 0, p, _, _, rfl, h, rfl⟩
 ·simp at hy
theorem By0 {s : Sm} (ok : SmOk s) {p h : Int} (hb : begE s [p] h = 0) : 0 <= p /\ p < 6 := by
 unfold begE at hb
 have h6 := ok.p1
 simp only [List.any_cons, List.any_nil, Bool.or_false, Bool.or_eq_true, decide_eq_true_eq] at hb
 split at hb
 ·cases hb
 ·omega
def Cyh (s : Sm) (p h : Int) : Int := if begE s [p] h = 0 then Cxp (arrL (susp s) p) h else 0
theorem Bvu (H : Hp) (s : Sm) (dv hv nv : Value) (hs : SmIn H dv hv nv s) (ok : SmOk s) (p h : Int) :
  FnX Tryz.prog (.wg Tryz.prog) 12 #[smV s.places dv hv nv, .int .i64 p, .int .i64 h] H fun e H' => e = .returned (.tuple #[.int .i64 (Cyh s p h), .int .i64 (begE s [p] h)]) /\ H.le H' := by
 obtain ⟨da, dc, ha, kc, na, nc, rfl, rfl, rfl, l1, l2, l3⟩ := hs.forms
 have hpp : begE s [p] h = 0 -> 0 <= p /\ p < 6 := By0 ok
 have hr0 : begE s [p] h = 0 -> Cyh s p h = Cxp (arrL (susp s) p) h := fun e => if_pos e
 have hr1 : begE s [p] h ≠ 0 -> Cyh s p h = 0 := fun e => if_neg e
 have hbeg := fun H dv hv nv (hs : SmIn H dv hv nv s) pv (hp : SlI H pv [p]) => Aj2 H s dv hv nv hs ok h pv [p] hp (by simp)
 generalize begE s [p] h = z at *
 generalize Cyh s p h = r at *
 replace hpp : Aqk _ := hpp
 replace hr0 : Aqk _ := hr0
 replace hr1 : Aqk _ := hr1
 replace hbeg : Aqk _ := hbeg
 refine Aqo Tryz.func12 rfl Tryz.ntmps12 (by simp) ?_
 (refine @unH _ (zA Ak3 ?_); (repeat refine inC fun hc => ?_); try refine inK fun K hK => ?_)
 (intro sb hsb; generalize hG : Hp.set _ sb _ = H1; have lH1 := Aqc hG hsb; have vsb := Aqb hG; clear hG)
 have hs1 := hs.le lH1
 have h0sb := hsb
 clear hsb
 ((try refine @unH _ (zX Ak3 ?_)); (try (refine hK _ _ ?_; clear hK K; try refine @unH _ (zQ ?_))); refine @unH _ (zA Ak3 ?_); (repeat refine inC fun hc => ?_); try refine inK fun K hK => ?_)
 (intro pb hpb; generalize hG : Hp.set _ pb _ = H2; have lH2 := Aqc hG hpb; have vpb := Aqb hG; clear hG)
 have hs2 := hs1.le lH2
 have l02 := Hp.le_trans lH1 lH2
 have hp2 : SlI H2 (.slice (some ⟨pb, 0, none⟩) 1 1) [p] := Dkg vpb
 clear hs hs1 vsb hpb lH1 lH2 vpb
 refine ((show ∀ H dv hv nv (hs : SmIn H dv hv nv s) pv (hp : SlI H pv [p]), _ from hbeg) H2 _ _ _ hs2 _ hp2).runs.mono ?_
 clear hbeg
 rintro _ H3 ⟨v, rfl, lH3, hv, _⟩
 have l03 := Hp.le_trans l02 lH3
 clear hs2 hp2 lH3 l02 h0sb
 by_cases hz : z = 0
 ·subst hz
  replace hv := hv (.inl rfl)
  obtain ⟨p0, p1⟩ := hpp rfl
  replace hr0 : Aqk (r = Cxp (arrL (susp s) p) h) := hr0 rfl
  clear hpp hr1
  ((try refine @unH _ (zX Ak3 ?_)); (try (refine hK _ _ ?_; clear hK K; try refine @unH _ (zQ ?_))); refine @unH _ (zA Ak3 ?_); (repeat refine inC fun hc => ?_); try refine inK fun K hK => ?_)
  refine (Bxn _ H3 v _ hv (Aj3 ok) (by rw [Az4]; have := ok.h1; omega) p p0 p1).runs.mono ?_
  rintro _ H4 ⟨rfl, lH4⟩
  have l04 := Hp.le_trans l03 lH4
  clear l03 lH4
  rw [show arrL (Az6 (Axo s)) p = arrL (susp s) p from rfl]
  generalize arrL (susp s) p = w at *
  ((try refine @unH _ (zX Ak3 ?_)); (try (refine hK _ _ ?_; clear hK K; try refine @unH _ (zQ ?_))); refine @unH _ (zA Ak3 ?_); (repeat refine inC fun hc => ?_); try refine inK fun K hK => ?_)
  refine (Bvz _ H4 w h).runs.mono ?_
  rintro _ H5 ⟨rfl, lH5⟩
  ((try refine @unH _ (zX Ak3 ?_)); (try (refine hK _ _ ?_; clear hK K; try refine @unH _ (zQ ?_))); refine @unH _ (zA Ak3 ?_); (repeat refine inC fun hc => ?_); try refine inK fun K hK => ?_)
  (refine @unH _ ?_; refine zB Tryz.results12 ?_)
  exact ⟨by rw [show r = _ from hr0], Hp.le_trans l04 lH5⟩
 ·replace hr1 : Aqk (r = 0) := hr1 hz
  clear hv hpp hr0
  ((try refine @unH _ (zX Ak3 ?_)); (try (refine hK _ _ ?_; clear hK K; try refine @unH _ (zQ ?_))); refine @unH _ (zA Ak3 ?_); (repeat refine inC fun hc => ?_); try refine inK fun K hK => ?_)
  (refine @unH _ ?_; refine zB Tryz.results12 ?_)
  exact ⟨by rw [show r = _ from hr1], l03⟩
def fitS (s : Sm) (i b : Nat) : List (List Int × List Int) := fitL s (trL s (s.hampers.getD i 0)) b
theorem Cvc (s : Sm) (L : List (List Int × List Int)) {b : Nat} (h : b < 13) : (byL s L)[b]? = some (Ays s L (b : Int)) := by
 unfold byL
 rw [List.getElem?_map, List.getElem?_range h]
 rfl
theorem Byp (s : Sm) (i : Nat) (x : Int × Int × Hint) : x ∈ Bxh (Azw s i) ↔ ∃ b : Nat, b < 13 /\ fitS s i b ≠ [] /\ x = ((i : Int), (b : Int), Ays s (trL s (s.hampers.getD i 0)) (b : Int)) := by
 unfold Bxh
 simp only [List.mem_map, List.mem_filter, Azw]
 constructor
 ·rintro ⟨⟨y, b⟩, ⟨h1, h2⟩, rfl⟩
  have h3 := List.mem_zipIdx_iff_getElem?.1 h1
  simp only at h3 h2
  have hb : b < 13 := by
   have := (List.getElem?_eq_some_iff.1 h3).1
   simpa [byL] using this
  rw [Cvc s _ hb, Option.some.injEq] at h3
  subst h3
  refine ⟨b, hb, ?_, rfl⟩
  rw [Bkd] at h2
  unfold fitS
  intro h
  rw [h] at h2
  cases h2
 ·rintro ⟨b, hb, h, rfl⟩
  refine ⟨(Ays s (trL s (s.hampers.getD i 0)) (b : Int), b), ⟨List.mem_zipIdx_iff_getElem?.2 (Cvc s _ hb), ?_⟩, rfl⟩
  simp only [Bkd]
  unfold fitS at h
  cases hL : fitL s (trL s (s.hampers.getD i 0)) (b : Int) with
  | nil => exact absurd hL h
  | cons _ _ => rfl
theorem Aya (s : Sm) (x : Int × Int × Hint) : x ∈ susp s ↔ ∃ i b : Nat, i < s.hampers.length /\ b < 13 /\ fitS s i b ≠ [] /\ x = ((i : Int), (b : Int), Ays s (trL s (s.hampers.getD i 0)) (b : Int)) := by
 unfold susp Az6 Axo
 simp only [List.mem_flatMap, List.mem_map, List.mem_range]
 constructor
 ·rintro ⟨_, ⟨i, hi, rfl⟩, hx⟩
  obtain ⟨b, h1, h2, h3⟩ := (Byp s i x).1 hx
  exact ⟨i, b, hi, h1, h2, h3⟩
 ·rintro ⟨i, b, hi, h1, h2, h3⟩
  exact ⟨_, ⟨i, hi, rfl⟩, (Byp s i x).2 ⟨b, h1, h2, h3⟩⟩
def Bzq (s : Sm) (i b : Nat) (p : Int) : List Int := (fitS s i b).map fun tc => min 99 ((b : Int) + gI tc.2 p)
theorem Cqr (s : Sm) (i b : Nat) {p : Int} (h0 : 0 <= p) (h1 : p < s.places) (h6 : s.places <= 6) (hne : fitS s i b ≠ []) : IsBd (Bzq s i b p) (gB (Ays s (trL s (s.hampers.getD i 0)) (b : Int)) p) := by
 have h := Dq2 s (trL s (s.hampers.getD i 0)) (b : Int) (p := p.toNat) (by omega) (by omega)
 unfold gB
 rw [List.getD, h, Option.getD_some]
 have hp : ((p.toNat : Nat) : Int) = p := by omega
 rw [hp]
 refine Bw2 ?_
 intro hm
 unfold Bzq at hm
 rw [List.map_eq_nil_iff] at hm
 exact hne hm
theorem Dj5 (p : Int) : ∀ (L : List (Int × Int × Hint)) (w : Bd), L.foldl (arrF p) w = (L.flatMap fun x => [(gB x.2.2 p).lo, (gB x.2.2 p).hi]).foldl Aza w
 | [], _ => rfl
 | x :: L, w => by
  rw [List.foldl_cons, List.flatMap_cons, List.foldl_append, Dj5 p L]
  rfl
theorem Bw3 {α : Type} {L : List α} {V : α -> List Int} {g : α -> Bd} (h : ∀ x ∈ L, IsBd (V x) (g x)) (hne : L ≠ []) : IsBd (L.flatMap V) ((L.flatMap fun x => [(g x).lo, (g x).hi]).foldl Aza bd0) := by
 have h1 : IsBd (L.flatMap fun x => [(g x).lo, (g x).hi]) ((L.flatMap fun x => [(g x).lo, (g x).hi]).foldl Aza bd0) := Bw2 (by
  cases L with
  | nil => exact absurd rfl hne
  | cons x L => simp)
 generalize (L.flatMap fun x => [(g x).lo, (g x).hi]).foldl Aza bd0 = w at *
 have key : ∀ y, y ∈ (L.flatMap fun x => [(g x).lo, (g x).hi]) -> y ∈ L.flatMap V := by
  intro y hy
  obtain ⟨x, hx, hy⟩ := List.mem_flatMap.1 hy
  simp only [List.mem_cons, List.not_mem_nil, or_false] at hy
  refine List.mem_flatMap.2 ⟨x, hx, ?_⟩
  rcases hy with rfl | rfl
  ·exact (h x hx).lo
  ·exact (h x hx).hi
 refine ⟨h1.some, fun y hy => ?_, key _ h1.lo, key _ h1.hi⟩
 obtain ⟨x, hx, hy⟩ := List.mem_flatMap.1 hy
 have h2 := (h x hx).all y hy
 have h3 := h1.all _ (List.mem_flatMap.2 ⟨x, hx, List.mem_cons_self⟩)
 have h4 := h1.all _ (List.mem_flatMap.2 ⟨x, hx, List.mem_cons_of_mem _ List.mem_cons_self⟩)
 omega
def allT (s : Sm) : List (Nat × Nat × List Int × List Int) := (List.range s.hampers.length).flatMap fun i => (List.range 13).flatMap fun b => (fitS s i b).map fun tc => (i, b, tc.1, tc.2)
theorem Ajo (s : Sm) (i b : Nat) (t c : List Int) : (i, b, t, c) ∈ allT s ↔ i < s.hampers.length /\ b < 13 /\ (t, c) ∈ fitS s i b := by
 unfold allT
 simp only [List.mem_flatMap, List.mem_range, List.mem_map, Prod.mk.injEq]
 constructor
 ·rintro ⟨i', h1, b', h2, ⟨t', c'⟩, h3, rfl, rfl, rfl, rfl⟩
  exact ⟨h1, h2, h3⟩
 ·rintro ⟨h1, h2, h3⟩
  exact ⟨i, h1, b, h2, (t, c), h3, rfl, rfl, rfl, rfl⟩
theorem Dxv (s : Sm) : susp s = [] ↔ allT s = [] := by
 constructor
 ·intro h
  rw [List.eq_nil_iff_forall_not_mem]
  rintro ⟨i, b, t, c⟩ hx
  obtain ⟨h1, h2, h3⟩ := (Ajo s i b t c).1 hx
  have : ((i : Int), (b : Int), Ays s (trL s (s.hampers.getD i 0)) (b : Int)) ∈ susp s := (Aya s _).2 ⟨i, b, h1, h2, List.ne_nil_of_mem h3, rfl⟩
  rw [h] at this
  cases this
 ·intro h
  rw [List.eq_nil_iff_forall_not_mem]
  intro x hx
  obtain ⟨i, b, h1, h2, h3, rfl⟩ := (Aya s x).1 hx
  obtain ⟨⟨t, c⟩, h4⟩ := List.exists_mem_of_ne_nil _ h3
  have := (Ajo s i b t c).2 ⟨h1, h2, h4⟩
  rw [h] at this
  cases this
theorem Bqe {s : Sm} (ok : SmOk s) {p : Int} (h0 : 0 <= p) (h1 : p < s.places) (hne : susp s ≠ []) : IsBd ((allT s).map fun x => min 99 ((x.2.1 : Nat) + gI x.2.2.2 p : Int)) (arrL (susp s) p) := by
 have h6 := ok.p1
 unfold arrL
 rw [Dj5]
 have hb : IsBd ((susp s).flatMap fun x => Bzq s x.1.toNat x.2.1.toNat p) (((susp s).flatMap fun x => [(gB x.2.2 p).lo, (gB x.2.2 p).hi]).foldl Aza bd0) := by
  refine Bw3 ?_ hne
  intro x hx
  obtain ⟨i, b, _, _, h3, rfl⟩ := (Aya s x).1 hx
  exact Cqr s i b h0 h1 h6 h3
 generalize ((susp s).flatMap fun x => [(gB x.2.2 p).lo, (gB x.2.2 p).hi]).foldl Aza bd0 = w at *
 have key : ∀ y, y ∈ ((susp s).flatMap fun x => Bzq s x.1.toNat x.2.1.toNat p) ↔ y ∈ ((allT s).map fun x => min 99 ((x.2.1 : Nat) + gI x.2.2.2 p : Int)) := by
  intro y
  simp only [List.mem_flatMap, List.mem_map, Bzq]
  constructor
  ·rintro ⟨x, hx, ⟨t, c⟩, h4, rfl⟩
   obtain ⟨i, b, g1, g2, g3, rfl⟩ := (Aya s x).1 hx
   exact ⟨(i, b, t, c), (Ajo s i b t c).2 ⟨g1, g2, h4⟩, rfl⟩
  ·rintro ⟨⟨i, b, t, c⟩, hx, rfl⟩
   obtain ⟨g1, g2, g3⟩ := (Ajo s i b t c).1 hx
   exact ⟨_, (Aya s _).2 ⟨i, b, g1, g2, List.ne_nil_of_mem g3, rfl⟩, (t, c), g3, rfl⟩
 exact ⟨hb.some, fun y hy => hb.all y ((key y).2 hy), (key _).1 hb.lo, (key _).1 hb.hi⟩
theorem Ck2 {s : Sm} (ok : SmOk s) {i b : Nat} {t c : List Int} (h : (i, b, t, c) ∈ allT s) : ∃ t0 ∈ Axv s.doors, t = pad6 t0 /\ c = Aq4 s.doors (s.hampers.getD i 0) (pad6 t0) /\ i < s.hampers.length /\ b < 13 /\ fitB s.noses c b = true := by
 obtain ⟨h1, h2, h3⟩ := (Ajo s i b t c).1 h
 unfold fitS fitL trL at h3
 simp only [List.mem_filter, List.mem_map, Prod.mk.injEq] at h3
 obtain ⟨⟨t0, h4, rfl, rfl⟩, h5⟩ := h3
 exact ⟨t0, h4, rfl, rfl, h1, h2, h5⟩
theorem Czj {s : Sm} (ok : SmOk s) {i : Nat} (h : i < s.hampers.length) : 0 <= s.hampers.getD i 0 /\ s.hampers.getD i 0 < s.places := by
 rw [List.getD, List.getElem?_eq_getElem h, Option.getD_some]
 exact ok.hk _ (List.getElem_mem h)
theorem Ayp {s : Sm} (ok : SmOk s) {h : Int} (h0 : 0 <= h) (h1 : h < s.places) {t : List Int} (ht : t ∈ Axv s.doors) : Ayg (Edg s.doors (pad6 t)) h (Aq4 s.doors h (pad6 t)) := by
 have h6 := ok.p1
 exact Bks h6 h0 (by omega) ok.dk (Aka ok.dk ht)
theorem Dzb {s : Sm} (ok : SmOk s) {p : Int} (h0 : 0 <= p) (h1 : p < s.places) (hne : susp s ≠ []) : 0 <= (arrL (susp s) p).lo /\ (arrL (susp s) p).lo <= 99 /\ 0 <= (arrL (susp s) p).hi /\ (arrL (susp s) p).hi <= 99 := by
 have h6 := ok.p1
 have hb := Bqe ok h0 h1 hne
 have key : ∀ y ∈ ((allT s).map fun x => min 99 ((x.2.1 : Nat) + gI x.2.2.2 p : Int)), 0 <= y /\ y <= 99 := by
  intro y hy
  obtain ⟨⟨i, b, t, c⟩, hx, rfl⟩ := List.mem_map.1 hy
  obtain ⟨t0, g1, rfl, rfl, g2, g3, g4⟩ := Ck2 ok hx
  obtain ⟨q0, q1⟩ := Czj ok g2
  have := (Ayp ok q0 q1 g1).pos p h0 (by omega)
  simp only
  omega
 have := key _ hb.lo
 have := key _ hb.hi
 omega
theorem Ck7 {s : Sm} {p h : Int} (hb : begE s [p] h = 0) : 0 <= p /\ p < s.places /\ 0 <= h /\ h <= 12 /\ susp s ≠ [] := by
 unfold begE at hb
 simp only [List.any_cons, List.any_nil, Bool.or_false, Bool.or_eq_true, decide_eq_true_eq] at hb
 split at hb
 ·cases hb
 ·split at hb
  ·cases hb
  ·split at hb
   ·cases hb
   ·rename_i h1 h2 h3
    refine ⟨by omega, by omega, by omega, by omega, fun e => h3 ?_⟩
    rw [Awj, e]
    rfl
def Aja := And.intro (fun H => Aqv (H := H) (P := Tryz.prog) (h := Tryz.zeroValue34)) (And.intro (fun H => Aqp (H := H) Tryz.underlying26 rfl Tryz.sizeOf26) (And.intro (fun H => Aqf (H := H) Tryz.underlying3 rfl) (And.intro @Azn (And.intro @Bq4 (And.intro @Bzk (And.intro (fun H => Aqr (H := H) Tryz.sizeOf34) (And.intro (fun H => Aqv (H := H) (P := Tryz.prog) (h := Tryz.zeroValue87)) (And.intro @Bzm (And.intro (fun H => Aqd (H := H) Tryz.underlying87 (i := 2) rfl (off := 2) rfl Tryz.sizeOf4) (And.intro (fun H => Aqf (H := H) Tryz.underlying4 rfl) (And.intro (fun H => Aqd (H := H) Tryz.underlying87 (i := 0) rfl (off := 0) rfl Tryz.sizeOf3) (And.intro (fun H => Aqd (H := H) Tryz.underlying87 (i := 1) rfl (off := 1) rfl Tryz.sizeOf3) @Ajj))))))))))))
def Ak2 := And.intro (fun H => Aqp (H := H) Tryz.underlying26 rfl Tryz.sizeOf26) (And.intro @Azn (And.intro @Bq4 (And.intro @Cvi (And.intro (fun H => Bwy (H := H) Tryz.underlying87 (i := 0) rfl (off := 0) rfl Tryz.underlying3 rfl) @Cqb))))
def Avf := And.intro (fun H => Aqf (H := H) Tryz.underlying3 rfl) (And.intro (fun H => Aqd (H := H) Tryz.underlying93 (i := 0) rfl (off := 0) rfl Tryz.sizeOf89) (And.intro (fun H => Aq5 (H := H) Tryz.underlying89 Tryz.sizeOf87) (And.intro (fun H => Aqd (H := H) Tryz.underlying87 (i := 1) rfl (off := 1) rfl Tryz.sizeOf3) (And.intro (fun H => Aqd (H := H) Tryz.underlying87 (i := 0) rfl (off := 0) rfl Tryz.sizeOf3) @Bk7))))
def Bjp := @Bk7
theorem Cze {H : Hp} (a b c : Value) (K : Value -> Hp -> Prop) (E : Value -> Hp -> Prop) : wpS Tryz.prog (Instr.field 87 (.agg #[a, b, c]) 0) H K E = K a H := Bwy Tryz.underlying87 (i := 0) rfl (off := 0) rfl Tryz.underlying3 rfl [a, b, c] rfl K E
def Bye (s : Sm) (p : Int) : Int := if begE s [p] 0 = 0 then min 12 ((arrL (susp s) p).lo - 1) else 0
theorem sSafe_spec (H : Hp) (s : Sm) (dv hv nv : Value) (hs : SmIn H dv hv nv s) (ok : SmOk s) (p : Int) :
  FnX Tryz.prog (.wg Tryz.prog) 11 #[smV s.places dv hv nv, .int .i64 p] H fun e H' => e = .returned (.tuple #[.int .i64 (Bye s p), .int .i64 (begE s [p] 0)]) /\ H.le H' := by
 obtain ⟨da, dc, ha, kc, na, nc, rfl, rfl, rfl, l1, l2, l3⟩ := hs.forms
 have hpp : begE s [p] 0 = 0 -> 0 <= p /\ p < 6 := By0 ok
 have hqb : begE s [p] 0 = 0 -> 0 <= (arrL (susp s) p).lo /\ (arrL (susp s) p).lo <= 99 := fun e => by
  obtain ⟨g1, g2, _, _, g3⟩ := Ck7 e
  have := Dzb ok g1 g2 g3
  omega
 have hr0 : begE s [p] 0 = 0 -> Bye s p = min 12 ((arrL (susp s) p).lo - 1) := fun e => if_pos e
 have hr1 : begE s [p] 0 ≠ 0 -> Bye s p = 0 := fun e => if_neg e
 have hbeg := fun H dv hv nv (hs : SmIn H dv hv nv s) pv (hp : SlI H pv [p]) => Aj2 H s dv hv nv hs ok 0 pv [p] hp (by simp)
 generalize begE s [p] 0 = z at *
 generalize Bye s p = r at *
 replace hpp : Aqk _ := hpp
 replace hqb : Aqk _ := hqb
 replace hr0 : Aqk _ := hr0
 replace hr1 : Aqk _ := hr1
 replace hbeg : Aqk _ := hbeg
 refine Aqo Tryz.func11 rfl Tryz.ntmps11 (by simp) ?_
 (refine @unH _ (zA Ak2 ?_); (repeat refine inC fun hc => ?_); try refine inK fun K hK => ?_)
 (intro sb hsb; generalize hG : Hp.set _ sb _ = H1; have lH1 := Aqc hG hsb; have vsb := Aqb hG; clear hG)
 have hs1 := hs.le lH1
 have h0sb := hsb
 clear hsb
 ((try refine @unH _ (zX Ak2 ?_)); (try (refine hK _ _ ?_; clear hK K; try refine @unH _ (zQ ?_))); refine @unH _ (zA Ak2 ?_); (repeat refine inC fun hc => ?_); try refine inK fun K hK => ?_)
 (intro pb hpb; generalize hG : Hp.set _ pb _ = H2; have lH2 := Aqc hG hpb; have vpb := Aqb hG; clear hG)
 have hs2 := hs1.le lH2
 have l02 := Hp.le_trans lH1 lH2
 have hp2 : SlI H2 (.slice (some ⟨pb, 0, none⟩) 1 1) [p] := Dkg vpb
 clear hs hs1 vsb hpb lH1 lH2 vpb
 refine ((show ∀ H dv hv nv (hs : SmIn H dv hv nv s) pv (hp : SlI H pv [p]), _ from hbeg) H2 _ _ _ hs2 _ hp2).runs.mono ?_
 clear hbeg
 rintro _ H3 ⟨v, rfl, lH3, hv, _⟩
 have l03 := Hp.le_trans l02 lH3
 clear hs2 hp2 lH3 l02 h0sb
 by_cases hz : z = 0
 ·subst hz
  replace hv := hv (.inl rfl)
  obtain ⟨p0, p1⟩ := hpp rfl
  obtain ⟨b0, b1⟩ := hqb rfl
  replace hr0 : Aqk (r = min 12 ((arrL (susp s) p).lo - 1)) := hr0 rfl
  clear hpp hr1
  ((try refine @unH _ (zX Ak2 ?_)); (try (refine hK _ _ ?_; clear hK K; try refine @unH _ (zQ ?_))); refine @unH _ (zA Ak2 ?_); (repeat refine inC fun hc => ?_); try refine inK fun K hK => ?_)
  refine (Bxn _ H3 v _ hv (Aj3 ok) (by rw [Az4]; have := ok.h1; omega) p p0 p1).runs.mono ?_
  rintro _ H4 ⟨rfl, lH4⟩
  have l04 := Hp.le_trans l03 lH4
  clear l03 lH4
  rw [show arrL (Az6 (Axo s)) p = arrL (susp s) p from rfl]
  generalize arrL (susp s) p = w at *
  clear hqb hv
  ((try refine @unH _ (zX (And.intro Ak2 @Cze) ?_)); (try (refine hK _ _ ?_; clear hK K; try refine @unH _ (zQ ?_))); refine @unH _ (zA (And.intro Ak2 @Cze) ?_); (repeat refine inC fun hc => ?_); try refine inK fun K hK => ?_)
  (intro lb hlb; generalize hG : Hp.set _ lb _ = H5; have lH5 := Aqc hG hlb; have vlb := Aqb hG; clear hG)
  refine (Ayu _ H5 12 (w.lo - 1) lb _ _ vlb).runs.mono ?_
  rintro _ _ ⟨rfl, hQ⟩
  rw [hQ]; clear hQ
  have l05 := Hp.le_trans l04 lH5
  ((try refine @unH _ (zX Ak2 ?_)); (try (refine hK _ _ ?_; clear hK K; try refine @unH _ (zQ ?_))); refine @unH _ (zA Ak2 ?_); (repeat refine inC fun hc => ?_); try refine inK fun K hK => ?_)
  (refine @unH _ ?_; refine zB Tryz.results11 ?_)
  exact ⟨by rw [show r = _ from hr0], l05⟩
 ·replace hr1 : Aqk (r = 0) := hr1 hz
  clear hv hpp hqb hr0
  ((try refine @unH _ (zX Ak2 ?_)); (try (refine hK _ _ ?_; clear hK K; try refine @unH _ (zQ ?_))); refine @unH _ (zA Ak2 ?_); (repeat refine inC fun hc => ?_); try refine inK fun K hK => ?_)
  (refine @unH _ ?_; refine zB Tryz.results11 ?_)
  exact ⟨by rw [show r = _ from hr1], l03⟩
def comF (p : Int) (b : Bd) (x : Int × Int × Hint) : Bd := if (gB x.2.2 p).hi < 99 then arrF p b x else b
theorem Cqi (main : Md) (H : Hp) (ob pb : Nat) (p : Int) (h0 : 0 <= p) (h1 : p < 6) (ham hour : Int) (x : Hint) (hx : Axp x) (b : Bd) (vo : H ob = some (true, bdO b)) (vp : H pb = some (true, .cells #[.int .i64 p] 3 (0, 0))) (hne : pb ≠ ob) :
  FnX Tryz.prog main 45 #[.int .i64 ham, .int .i64 hour, .agg (Axx x).toArray, .pointer (some ⟨pb, 0, none⟩), .pointer (some ⟨ob, 0, none⟩)] H fun e H' => e = .returned (.tuple #[]) /\ H' ob = some (true, bdO (comF p b (ham, hour, x))) /\ ∀ b x, b ≠ ob -> H b = some x -> H' b = some x := by
 have hl := Ax1 hx
 have hex := Ak7 hx
 have hbd := Bqn hx (Czi hx h0 h1)
 obtain ⟨hb1, hb2, _⟩ := hbd
 unfold comF arrF
 simp only
 generalize gB x p = g at *
 generalize Axx x = HC at *
 by_cases hg : g.hi < 99
 ·rw [if_pos hg]
  refine Aqo Tryz.func45 rfl Tryz.ntmps45 (by simp) ?_
  (refine @unH _ (zA Avf ?_); (repeat refine inC fun hc => ?_); try refine inK fun K hK => ?_)
  (intro b hb; generalize hG : Hp.set _ b _ = H1; have lH1 := Aqc hG hb; have vb := Aqb hG; clear hG)
  have vo1 := lH1 _ _ vo
  have vp1 := lH1 _ _ vp
  ((try refine @unH _ (zX Avf ?_)); (try (refine hK _ _ ?_; clear hK K; try refine @unH _ (zQ ?_))); refine @unH _ (zA Avf ?_); (repeat refine inC fun hc => ?_); try refine inK fun K hK => ?_)
  refine (Avn main H1 ob _ g.lo vo1).runs.mono ?_
  rintro _ H2 ⟨rfl, h21, h22⟩
  have nob : b ≠ ob := fun e => by rw [e, vo] at hb; cases hb
  have vp2 := (h22 pb hne).trans vp1
  have vb2 := (h22 b nob).trans vb
  have hf2 : ∀ c z, c ≠ ob -> H c = some z -> H2 c = some z := fun c z hc hz => (h22 c hc).trans (lH1 _ _ hz)
  clear vo1 vp1 vb h22 lH1
  ((try refine @unH _ (zX Avf ?_)); (try (refine hK _ _ ?_; clear hK K; try refine @unH _ (zQ ?_))); refine @unH _ (zA Avf ?_); (repeat refine inC fun hc => ?_); try refine inK fun K hK => ?_)
  refine (Avn main H2 ob _ g.hi h21).runs.mono ?_
  rintro _ H3 ⟨rfl, h31, h32⟩
  ((try refine @unH _ (zX Avf ?_)); (try (refine hK _ _ ?_; clear hK K; try refine @unH _ (zQ ?_))); refine @unH _ (zA Avf ?_); (repeat refine inC fun hc => ?_); try refine inK fun K hK => ?_)
  (refine @unH _ ?_; refine zD Tryz.results45 ?_)
  exact ⟨rfl, h31, fun c z hc hz => (h32 c hc).trans (hf2 c z hc hz)⟩
 ·rw [if_neg hg]
  refine Aqo Tryz.func45 rfl Tryz.ntmps45 (by simp) ?_
  (refine @unH _ (zA Avf ?_); (repeat refine inC fun hc => ?_); try refine inK fun K hK => ?_)
  (intro b hb; generalize hG : Hp.set _ b _ = H1; have lH1 := Aqc hG hb; have vb := Aqb hG; clear hG)
  have vo1 := lH1 _ _ vo
  have vp1 := lH1 _ _ vp
  ((try refine @unH _ (zX Avf ?_)); (try (refine hK _ _ ?_; clear hK K; try refine @unH _ (zQ ?_))); refine @unH _ (zA Avf ?_); (repeat refine inC fun hc => ?_); try refine inK fun K hK => ?_)
  (refine @unH _ ?_; refine zD Tryz.results45 ?_)
  exact ⟨rfl, vo1, fun c z hc hz => lH1 _ _ hz⟩
def sinF (b : Bd) (x : Int × Int × Hint) : Bd := Aza b x.2.1
theorem Cxh (main : Md) (H : Hp) (ob : Nat) (ham hour : Int) (x : Hint) (hx : Axp x) (b : Bd) (vo : H ob = some (true, bdO b)) :
  FnX Tryz.prog main 61 #[.int .i64 ham, .int .i64 hour, .agg (Axx x).toArray, .pointer (some ⟨ob, 0, none⟩)] H fun e H' => e = .returned (.tuple #[]) /\ H' ob = some (true, bdO (sinF b (ham, hour, x))) /\ ∀ b x, b ≠ ob -> H b = some x -> H' b = some x := by
 have hl := Ax1 hx
 have hex := Ak7 hx
 unfold sinF
 simp only
 generalize Axx x = HC at *
 refine Aqo Tryz.func61 rfl Tryz.ntmps61 (by simp) ?_
 (refine @unH _ (zA @Bjp ?_); (repeat refine inC fun hc => ?_); try refine inK fun K hK => ?_)
 (intro b hb; generalize hG : Hp.set _ b _ = H1; have lH1 := Aqc hG hb; have vb := Aqb hG; clear hG)
 have vo1 := lH1 _ _ vo
 ((try refine @unH _ (zX @Bjp ?_)); (try (refine hK _ _ ?_; clear hK K; try refine @unH _ (zQ ?_))); refine @unH _ (zA @Bjp ?_); (repeat refine inC fun hc => ?_); try refine inK fun K hK => ?_)
 refine (Avn main H1 ob _ hour vo1).runs.mono ?_
 rintro _ H2 ⟨rfl, h21, h22⟩
 ((try refine @unH _ (zX @Bjp ?_)); (try (refine hK _ _ ?_; clear hK K; try refine @unH _ (zQ ?_))); refine @unH _ (zA @Bjp ?_); (repeat refine inC fun hc => ?_); try refine inK fun K hK => ?_)
 (refine @unH _ ?_; refine zD Tryz.results61 ?_)
 exact ⟨rfl, h21, fun c z hc hz => (h22 c hc).trans (lH1 _ _ hz)⟩
theorem Az9 {H H' : Hp} {b : Nat} {o : Obj} (l : H.le H') (h : H b = none) : H.le (H'.set b o) := fun x z hz => by
 rw [Aqw (fun e => by rw [e, h] at hz; cases hz)]
 exact l _ _ hz
def comL (L : List (Int × Int × Hint)) (p : Int) : Bd := L.foldl (comF p) bd0
theorem Cvr (L : List (Int × Int × Hint)) (p : Int) (x : Int × Int × Hint) : comL (L ++ [x]) p = comF p (comL L p) x := by simp [comL]
def bdE (z : Int) (b : Bd) : Int × Int × Int := if z = 0 then (if b.some then (b.lo, b.hi, 0) else (0, 0, 11)) else (0, 0, z)
def comE (s : Sm) (p : Int) : Int × Int × Int := bdE (begE s [p] 0) (comL (susp s) p)
theorem Cq9 (H : Hp) (s : Sm) (dv hv nv : Value) (hs : SmIn H dv hv nv s) (ok : SmOk s) (p : Int) :
  FnX Tryz.prog (.wg Tryz.prog) 10 #[smV s.places dv hv nv, .int .i64 p] H fun e H' => e = .returned (.tuple #[.agg #[.int .i64 (comE s p).1, .int .i64 (comE s p).2.1], .int .i64 (comE s p).2.2]) /\ H.le H' := by
 obtain ⟨da, dc, ha, kc, na, nc, rfl, rfl, rfl, l1, l2, l3⟩ := hs.forms
 have hpp : begE s [p] 0 = 0 -> 0 <= p /\ p < 6 := By0 ok
 have hr : comE s p = bdE (begE s [p] 0) (comL (susp s) p) := rfl
 have hbeg := fun H dv hv nv (hs : SmIn H dv hv nv s) pv (hp : SlI H pv [p]) => Aj2 H s dv hv nv hs ok 0 pv [p] hp (by simp)
 generalize begE s [p] 0 = z at *
 generalize comE s p = r at *
 replace hpp : Aqk _ := hpp
 replace hr : Aqk _ := hr
 replace hbeg : Aqk _ := hbeg
 refine Aqo Tryz.func10 rfl Tryz.ntmps10 (by simp) ?_
 (refine @unH _ (zA Aja ?_); (repeat refine inC fun hc => ?_); try refine inK fun K hK => ?_)
 (intro sb hsb qb hqb rb hrb; replace hrb : (Hp.set (Hp.set _ sb _) qb _) rb = none := hrb; replace hqb : (Hp.set _ sb _) qb = none := hqb; generalize hG : Hp.set _ sb _ = H1 at hqb hrb ⊢; have lH1 := Aqc hG hsb; have wsb := Aqb hG; clear hG; generalize hG : Hp.set _ qb _ = H2 at hrb ⊢; have lH2 := Aqc hG hqb; have wqb := Aqb hG; have nsbqb := Aqq wsb hqb; replace wsb := lH2 _ _ wsb; clear hG; generalize hG : Hp.set _ rb _ = H3; have lH3 := Aqc hG hrb; have vrb := Aqb hG; have vsb := lH3 _ _ wsb; have vqb := lH3 _ _ wqb; have nsbrb := Aqq wsb hrb; have nqbrb := Aqq wqb hrb; clear hG wsb wqb)
 have l03 := Hp.le_trans lH1 (Hp.le_trans lH2 lH3)
 have hs3 := hs.le l03
 have h0rb := Hp.le_none (Hp.le_trans lH1 lH2) hrb
 clear lH1 lH2 lH3 hsb hqb hrb hs
 ((try refine @unH _ (zX Aja ?_)); (try (refine hK _ _ ?_; clear hK K; try refine @unH _ (zQ ?_))); refine @unH _ (zA Aja ?_); (repeat refine inC fun hc => ?_); try refine inK fun K hK => ?_)
 (intro pb hpb; generalize hG : Hp.set _ pb _ = H4; have lH4 := Aqc hG hpb; have vpb := Aqb hG; clear hG)
 have hs4 := hs3.le lH4
 have l04 := Hp.le_trans l03 lH4
 have vr4 := lH4 _ _ vrb
 have vq4 := lH4 _ _ vqb
 have hp4 : SlI H4 (.slice (some ⟨pb, 0, none⟩) 1 1) [p] := Dkg vpb
 clear hs3 l03 lH4 vrb vqb vsb vpb hpb
 refine ((show ∀ H dv hv nv (hs : SmIn H dv hv nv s) pv (hp : SlI H pv [p]), _ from hbeg) H4 _ _ _ hs4 _ hp4).runs.mono ?_
 clear hbeg
 rintro _ H5 ⟨v, rfl, lH5, hv, _⟩
 have l05 := Hp.le_trans l04 lH5
 have vr5 := lH5 _ _ vr4
 have vq5 := lH5 _ _ vq4
 clear hs4 hp4 lH5 l04 vr4 vq4
 by_cases hz : z = 0
 ·subst hz
  replace hv := hv (.inl rfl)
  obtain ⟨p0, p1⟩ := hpp rfl
  clear hpp
  ((try refine @unH _ (zX Aja ?_)); (try (refine hK _ _ ?_; clear hK K; try refine @unH _ (zQ ?_))); refine @unH _ (zA Aja ?_); (repeat refine inC fun hc => ?_); try refine inK fun K hK => ?_)
  intro ob hob
  have nqo := Aqq vq5 hob
  have nro := Aqq vr5 hob
  ((try refine @unH _ (zX Aja ?_)); (try (refine hK _ _ ?_; clear hK K; try refine @unH _ (zQ ?_))); refine @unH _ (zA Aja ?_); (repeat refine inC fun hc => ?_); try refine inK fun K hK => ?_)
  generalize hG : Hp.set H5 ob _ = H6
  have lH6 := Aqc hG hob
  have vo6 := Aqb hG
  have vq6 := Aqi hG vq5 nqo
  have vr6 := Aqi hG vr5 nro
  have h0ob := Hp.le_none l05 hob
  clear hG vq5 vr5
  have hone := Bw1 (.wg Tryz.prog) (A := fun _ _ _ => True) (yf := .func 45) (yi := #[]) (yc := #[.pointer (some ⟨qb, 0, none⟩), .pointer (some ⟨ob, 0, none⟩)]) H5 H6 _ _ hv ob (fun L => bdO (comL L p)) lH6 hob (by rw [vo6]; rfl) (fun L H' ham hour x g1 g2 hxo _ => by
   refine Ajz.fn (fun _ _ => Dz9 _) ((Cqi _ H' ob qb p p0 p1 ham hour x hxo _ g1 (g2 _ _ nqo vq6) nqo).mono ?_)
   rintro _ H4 ⟨rfl, h3, h4⟩
   exact ⟨rfl, by rw [h3, Cvr], h4⟩) (Aj3 ok) (fun _ _ _ _ _ _ => trivial) (by rw [Az4]; have := ok.h1; omega)
  refine hone.runs.mono ?_
  clear hone
  rintro _ H7 ⟨rfl, h3, h4⟩
  have l07 : H.le H7 := fun b x hx => h4 b x (fun e => by rw [e, h0ob] at hx; cases hx) (lH6 _ _ (l05 _ _ hx))
  have vr7 := h4 _ _ nro vr6
  replace hr : Aqk (r = bdE 0 (comL (susp s) p)) := hr
  rw [show Az6 (Axo s) = susp s from rfl] at h3
  generalize comL (susp s) p = w at *
  clear h4 vr6 vq6 vo6 l05 lH6 hv
  obtain ⟨lo, hi, sm⟩ := w
  cases sm with
  | true =>
   ((try refine @unH _ (zX Aja ?_)); (try (refine hK _ _ ?_; clear hK K; try refine @unH _ (zQ ?_))); refine @unH _ (zA Aja ?_); (repeat refine inC fun hc => ?_); try refine inK fun K hK => ?_)
   (refine Axr ?_; (try simp only [nq, ↓reduceIte, Nat.reduceEqDiff]); rw [Aq7, results_cell_tmp Tryz.results10 (by decide) (by decide) (b := rb) (o := 0) rfl Tryz.underlying34 rfl Tryz.sizeOf34]; simp -implicitDefEqProofs (disch := first | omega | (simp only [qd] <;> omega)) only [xq, ↓xp, qc, Nat.reduceAdd, List.range, List.range.loop, fine, Nat.reduceEqDiff, ↓reduceIte, yielded, reduceCtorEq, Nat.reduceLT, Nat.reduceMul, Nat.reduceSub, one, Nat.reduceLeDiff, Aqj, Aja, Axk, List.extract_toArray])
   exact ⟨by rw [show r = _ from hr]; rfl, Az9 l07 h0rb⟩
  | false =>
   ((try refine @unH _ (zX Aja ?_)); (try (refine hK _ _ ?_; clear hK K; try refine @unH _ (zQ ?_))); refine @unH _ (zA Aja ?_); (repeat refine inC fun hc => ?_); try refine inK fun K hK => ?_)
   (refine Axr ?_; (try simp only [nq, ↓reduceIte, Nat.reduceEqDiff]); rw [Aq7, results_cell_tmp Tryz.results10 (by decide) (by decide) (b := rb) (o := 0) rfl Tryz.underlying34 rfl Tryz.sizeOf34]; simp -implicitDefEqProofs (disch := first | omega | (simp only [qd] <;> omega)) only [xq, ↓xp, qc, Nat.reduceAdd, List.range, List.range.loop, fine, Nat.reduceEqDiff, ↓reduceIte, yielded, reduceCtorEq, Nat.reduceLT, Nat.reduceMul, Nat.reduceSub, one, Nat.reduceLeDiff, Aqj, Aja, Axk, List.extract_toArray])
   exact ⟨by rw [show r = _ from hr]; rfl, Az9 l07 h0rb⟩
 ·clear hv hpp
  ((try refine @unH _ (zX Aja ?_)); (try (refine hK _ _ ?_; clear hK K; try refine @unH _ (zQ ?_))); refine @unH _ (zA Aja ?_); (repeat refine inC fun hc => ?_); try refine inK fun K hK => ?_)
  (refine Axr ?_; (try simp only [nq, ↓reduceIte, Nat.reduceEqDiff]); rw [Aq7, results_cell_tmp Tryz.results10 (by decide) (by decide) (b := rb) (o := 0) rfl Tryz.underlying34 rfl Tryz.sizeOf34]; simp -implicitDefEqProofs (disch := first | omega | (simp only [qd] <;> omega)) only [xq, ↓xp, qc, Nat.reduceAdd, List.range, List.range.loop, fine, Nat.reduceEqDiff, ↓reduceIte, yielded, reduceCtorEq, Nat.reduceLT, Nat.reduceMul, Nat.reduceSub, one, Nat.reduceLeDiff, Aqj, Aja, Axk, List.extract_toArray])
  exact ⟨by rw [show r = _ from hr, bdE, if_neg hz], Az9 l05 h0rb⟩
def Ax2 := And.intro (fun H => Aqv (H := H) (P := Tryz.prog) (h := Tryz.zeroValue34)) (And.intro (fun H => Aqp (H := H) Tryz.underlying26 rfl Tryz.sizeOf26) (And.intro @Bk6 (And.intro @Bzk (And.intro (fun H => Aqr (H := H) Tryz.sizeOf34) (And.intro (fun H => Aqd (H := H) Tryz.underlying26 (i := 2) rfl (off := 2) rfl Tryz.sizeOf22) (And.intro (fun H => Aqf (H := H) Tryz.underlying22 rfl) (And.intro (fun H => Aq8 (H := H) Tryz.underlying22) (And.intro @Ayo (And.intro (fun H => Aqv (H := H) (P := Tryz.prog) (h := Tryz.zeroValue87)) (And.intro @Cqc (And.intro (fun H => Bvv (H := H) Tryz.underlying83 Tryz.sizeOf127) (And.intro (fun H => Bvw (H := H) Tryz.underlying83 Tryz.sizeOf127) (And.intro (fun H => Bxe (H := H) Tryz.underlying83 Tryz.sizeOf127) (And.intro (fun H => Bxq (H := H) Tryz.underlying83 Tryz.sizeOf127) (And.intro @Bzm (And.intro (fun H => Aqd (H := H) Tryz.underlying87 (i := 2) rfl (off := 2) rfl Tryz.sizeOf4) (And.intro (fun H => Aqf (H := H) Tryz.underlying4 rfl) (And.intro (fun H => Aqd (H := H) Tryz.underlying87 (i := 0) rfl (off := 0) rfl Tryz.sizeOf3) (And.intro (fun H => Aqf (H := H) Tryz.underlying3 rfl) (And.intro (fun H => Aqd (H := H) Tryz.underlying87 (i := 1) rfl (off := 1) rfl Tryz.sizeOf3) @Ajj))))))))))))))))))))
theorem Dv9 {p q : Prop} (g : q) (h : Hid q -> p := by
 intro g
 repeat' (first
 | (refine Ax9 rfl ?_; intro Kz hKz; simp -implicitDefEqProofs (disch := first | omega | (simp only [qd] <;> omega)) only [xq, ↓xp, qc, Nat.reduceAdd, List.range, List.range.loop, fine, Nat.reduceEqDiff, ↓reduceIte, yielded, reduceCtorEq, Nat.reduceLT, Nat.reduceMul, Nat.reduceSub, one, Nat.reduceLeDiff, Aqj, Ax2, aq, ↓ap, qe0, qe1, qe2, *, -g, -hKz, Ay2 Tryz.underlying83 Tryz.sizeOf127]; try (refine hKz _ _ ?_; clear hKz Kz))
 | (refine Aju rfl ?_; intro Kz hKz; simp -implicitDefEqProofs (disch := first | omega | (simp only [qd] <;> omega)) only [xq, ↓xp, qc, Nat.reduceAdd, List.range, List.range.loop, fine, Nat.reduceEqDiff, ↓reduceIte, yielded, reduceCtorEq, Nat.reduceLT, Nat.reduceMul, Nat.reduceSub, one, Nat.reduceLeDiff, Aqj, Ax2, aq, ↓ap, qe0, qe1, qe2, *, -g, -hKz, Ay2 Tryz.underlying83 Tryz.sizeOf127]; try (refine hKz _ _ ?_; clear hKz Kz; (try simp only [nq, ↓reduceIte, Nat.reduceEqDiff])))
 | (refine Az8 ?_; (try simp only [nq, ↓reduceIte, Nat.reduceEqDiff]))
 | (refine Aje ?_; (try simp only [nq, ↓reduceIte, Nat.reduceEqDiff]))
 | (refine Aj7 ?_; (try simp only [nq, ↓reduceIte, Nat.reduceEqDiff]))
 | (refine Akm ?_; (try simp only [nq, ↓reduceIte, Nat.reduceEqDiff]))
 | (refine Ajt (by simp only [Axb, Axn, Nat.reduceEqDiff, Nat.reduceLT, ↓reduceIte, *, -g]; rfl) ?_ ?_ <;> (intro hcz; first | (exfalso; simp -implicitDefEqProofs (disch := omega) only [*, -g, bq, reduceCtorEq] at hcz; done) | (simp only [dq, qe3, qe4, qe5, qe6] at hcz) | skip))
 | (refine Ajm ?_)
 | (refine Azj ?_)
 | (refine Axs ?_))
 (try (revert Kz; refine unK ?_)); (repeat (revert hcz; refine unC ?_))
 exact Hid.out g) : Hid p := ⟨h ⟨g⟩⟩
theorem Dv7 {p q : Prop} (g : q) (h : Hid q -> p := by
 intro g
 simp -implicitDefEqProofs (disch := first | omega | (simp only [qd] <;> omega)) only [xq, ↓xp, qc, Nat.reduceAdd, List.range, List.range.loop, fine, Nat.reduceEqDiff, ↓reduceIte, yielded, reduceCtorEq, Nat.reduceLT, Nat.reduceMul, Nat.reduceSub, one, Nat.reduceLeDiff, Aqj, Ax2, aq, ↓ap, qe0, qe1, qe2, *, -g, -hK, Ay2 Tryz.underlying83 Tryz.sizeOf127]
 exact Hid.out g) : Hid p := ⟨h ⟨g⟩⟩
theorem Ay2 {P : Program} {H : Hp} {t e : TypeId} (hu : P.underlying t = some (.slice e)) {n : Nat} (hs : ∀ w, (sizeOf e).run P w = .ok n w) (b o len cap : Nat) (k k' k'' : IntKind) (i j m : Int) (h0 : 0 <= i) (h1 : i <= j) (h2 : j <= m) (h3 : m <= cap) (hne : i < m) (K : Value -> Hp -> Prop) (E : Value -> Hp -> Prop) :
  wpS P (Instr.sliceAt t (.slice (some ⟨b, o, none⟩) len cap) (some (.int k i)) (some (.int k' j)) (some (.int k'' m))) H K E = K (.slice (some ⟨b, o + i.toNat * n, none⟩) (j.toNat - i.toNat) (m.toNat - i.toNat)) H := by
 unfold Instr.sliceAt Instr.slice Instr.sliceBounds
 have hm : j <= (m.toNat : Int) := by omega
 have hj : i <= (j.toNat : Int) := by omega
 have hne' : ¬ m.toNat = i.toNat := by omega
 simp [-bind_pure_comp, Aqa, Aqh hu, Aqe, Ajc k'' m cap _ (by omega) h3, Ajc k' j m.toNat _ (by omega) hm, Ajc k i j.toNat _ h0 hj, Aq0 hs, Ake, hne']
def sinL (L : List (Int × Int × Hint)) : Bd := L.foldl sinF bd0
theorem Cw2 (L : List (Int × Int × Hint)) (x : Int × Int × Hint) : sinL (L ++ [x]) = sinF (sinL L) x := by simp [sinL]
def sinE (s : Sm) (i : Int) : Int × Int × Int := bdE (if i < 0 ∨ (s.hampers.length : Int) - 1 < i then 3 else 0) (sinL (Bxh (Azw s i.toNat)))
theorem SlT.only {H : Hp} {s : Sm} {a : Option Addr} {n cap : Nat} (h : SlT H (.slice a n cap) (Axo s)) {i : Nat} (hi : i < s.hampers.length) : ∃ b o, a = some ⟨b, o, none⟩ /\ SlT H (.slice (some ⟨b, o + i * 326, none⟩) 1 1) [Azw s i] := by
 have hx : ((Axo s).map Axc)[i]? = some (Axc (Azw s i)) := by
  unfold Axo
  rw [List.getElem?_map, List.getElem?_map, List.getElem?_range hi]
  rfl
 obtain ⟨b, o, p, c, fr, rfl, h2, h3, h4, h5⟩ := SlG.get h hx
 refine ⟨b, o, rfl, some ⟨b, o + i * 326, none⟩, 1, rfl, by simp, fun j r hr => ?_⟩
 rcases j with _ | j
 ·simp only [List.map_cons, List.getElem?_cons_zero, Option.some.injEq] at hr
  subst hr
  exact ⟨b, o + i * 326, p, c, fr, rfl, h2, by omega, h4, by simpa using h5⟩
 ·simp at hr
theorem Cjx (main : Md) {A : Int -> Int -> Hint -> Prop} {yf : Fn} {yi yc : Array Value} (H2 : Hp) (v : Value) (l : List Trail) (hv : SlT H2 v l) (ob : Nat) (O : List (Int × Int × Hint) -> Obj) (h0 : ∀ p c fr, H2 ob ≠ some (p, .cells c 127 fr)) (vo : H2 ob = some (true, O []))
  (h : ∀ L H' ham hour x, H' ob = some (true, O L) -> (∀ b z, b ≠ ob -> H2 b = some z -> H' b = some z) -> Axp x -> A ham hour x -> Ajz Tryz.prog main (.func yf yi yc) #[.int .i64 ham, .int .i64 hour, .agg (Axx x).toArray] H' fun e H'' => e = .returned (.tuple #[]) /\ H'' ob = some (true, O (L ++ [(ham, hour, x)])) /\ ∀ b z, b ≠ ob -> H' b = some z -> H'' b = some z)
  (hok : ∀ t ∈ l, Ax5 t) (hA : ∀ t ∈ l, ∀ (h : Nat) x, t.hs[h]? = some x -> x.some = true -> A t.ham h x) (hl : l.length <= 1000) :
  FnX Tryz.prog main 44 #[v, .func yf yi yc] H2 fun e H' => e = .returned (.tuple #[]) /\ H' ob = some (true, O (Az6 l)) /\ ∀ b x, b ≠ ob -> H2 b = some x -> H' b = some x :=
 (Aw2 main (Cwc H2 ob O vo h) H2 v l (fun L H' h _ => hv.move fun x p c fr hx => ⟨p, h.2 x _ (fun e => h0 p c fr (by rw [<- e]; exact hx)) hx⟩) hok hA hl [] ⟨vo, fun _ _ _ hx => hx⟩).mono fun e H' ⟨h1, h2, _⟩ => ⟨h1, by simpa using h2.1, h2.2⟩
theorem Cxe (H : Hp) (s : Sm) (dv hv nv : Value) (hs : SmIn H dv hv nv s) (ok : SmOk s) (i : Int) :
  FnX Tryz.prog (.wg Tryz.prog) 26 #[smV s.places dv hv nv, .int .i64 i] H fun e H' => e = .returned (.tuple #[.agg #[.int .i64 (sinE s i).1, .int .i64 (sinE s i).2.1], .int .i64 (sinE s i).2.2]) /\ H.le H' := by
 obtain ⟨da, dc, ha, kc, na, nc, rfl, rfl, rfl, l1, l2, l3⟩ := hs.forms
 have hr : sinE s i = bdE (if i < 0 ∨ (s.hampers.length : Int) - 1 < i then 3 else 0) (sinL (Bxh (Azw s i.toNat))) := rfl
 have h3 := ok.h1
 have h1 := ok.h0
 have e := ok.p1
 clear e
 generalize sinE s i = r at *
 by_cases hi : i < 0 ∨ (s.hampers.length : Int) - 1 < i
 ·have hdo : (decide (i < 0) || decide ((s.hampers.length : Int) - 1 < i)) = true := by simpa using hi
  rw [if_pos hi] at hr
  replace hr : Aqk _ := hr
  replace hdo : Aqk _ := hdo
  clear hi
  refine Aqo Tryz.func26 rfl Tryz.ntmps26 (by simp) ?_
  (refine @unH _ (zA Ax2 ?_); (repeat refine inC fun hc => ?_); try refine inK fun K hK => ?_)
  (intro sb hsb rb hrb; replace hrb : (Hp.set _ sb _) rb = none := hrb; generalize hG : Hp.set _ sb _ = H1 at hrb ⊢; have lH1 := Aqc hG hsb; have wsb := Aqb hG; clear hG; generalize hG : Hp.set _ rb _ = H2; have lH2 := Aqc hG hrb; have vrb := Aqb hG; have vsb := lH2 _ _ wsb; have nsbrb := Aqq wsb hrb; clear hG wsb)
  have l02 := Hp.le_trans lH1 lH2
  have hs2 := hs.le l02
  have h0rb := Hp.le_none lH1 hrb
  clear lH1 lH2 hsb hrb hs
  ((try refine @unH _ (zX Ax2 ?_)); (try (refine hK _ _ ?_; clear hK K; try refine @unH _ (zQ ?_))); refine @unH _ (zA Ax2 ?_); (repeat refine inC fun hc => ?_); try refine inK fun K hK => ?_)
  refine (Avr _ H2 s _ _ _ hs2 ok).runs.mono ?_
  rintro _ H3 ⟨rfl, lH3⟩
  have l03 := Hp.le_trans l02 lH3
  have vr3 := lH3 _ _ vrb
  have vs3 := lH3 _ _ vsb
  clear l02 lH3 vrb vsb hs2
  ((try refine @unH _ (zX Ax2 ?_)); (try (refine hK _ _ ?_; clear hK K; try refine @unH _ (zQ ?_))); refine @unH _ (zA Ax2 ?_); (repeat refine inC fun hc => ?_); try refine inK fun K hK => ?_)
  refine (Axj _ H3 i 0 _).runs.mono ?_
  rintro _ _ ⟨rfl, hQ⟩
  rw [hQ, show (decide (i < 0) || decide ((s.hampers.length : Int) - 1 < i)) = true from hdo]; clear hQ
  ((try refine @unH _ (zX Ax2 ?_)); (try (refine hK _ _ ?_; clear hK K; try refine @unH _ (zQ ?_))); refine @unH _ (zA Ax2 ?_); (repeat refine inC fun hc => ?_); try refine inK fun K hK => ?_)
  (refine Axr ?_; (try simp only [nq, ↓reduceIte, Nat.reduceEqDiff]); rw [Aq7, results_cell_tmp Tryz.results26 (by decide) (by decide) (b := rb) (o := 0) rfl Tryz.underlying34 rfl Tryz.sizeOf34]; simp -implicitDefEqProofs (disch := first | omega | (simp only [qd] <;> omega)) only [xq, ↓xp, qc, Nat.reduceAdd, List.range, List.range.loop, fine, Nat.reduceEqDiff, ↓reduceIte, yielded, reduceCtorEq, Nat.reduceLT, Nat.reduceMul, Nat.reduceSub, one, Nat.reduceLeDiff, Aqj, Ax2, Axk, List.extract_toArray])
  exact ⟨by rw [show r = _ from hr]; rfl, Az9 l03 h0rb⟩
 ·have hdo : (decide (i < 0) || decide ((s.hampers.length : Int) - 1 < i)) = false := by simpa using hi
  rw [if_neg hi] at hr
  replace hdo : Aqk _ := hdo
  obtain ⟨k, rfl⟩ : ∃ k : Nat, i = (k : Int) := ⟨i.toNat, by omega⟩
  have hk : k < s.hampers.length := by omega
  replace hr : Aqk (r = bdE 0 (sinL (Bxh (Azw s k)))) := hr
  clear hi
  refine Aqo Tryz.func26 rfl Tryz.ntmps26 (by simp) ?_
  (refine @unH _ (zA Ax2 ?_); (repeat refine inC fun hc => ?_); try refine inK fun K hK => ?_)
  (intro sb hsb rb hrb; replace hrb : (Hp.set _ sb _) rb = none := hrb; generalize hG : Hp.set _ sb _ = H1 at hrb ⊢; have lH1 := Aqc hG hsb; have wsb := Aqb hG; clear hG; generalize hG : Hp.set _ rb _ = H2; have lH2 := Aqc hG hrb; have vrb := Aqb hG; have vsb := lH2 _ _ wsb; have nsbrb := Aqq wsb hrb; clear hG wsb)
  have l02 := Hp.le_trans lH1 lH2
  have hs2 := hs.le l02
  have h0rb := Hp.le_none lH1 hrb
  clear lH1 lH2 hsb hrb hs
  ((try refine @unH _ (zX Ax2 ?_)); (try (refine hK _ _ ?_; clear hK K; try refine @unH _ (zQ ?_))); refine @unH _ (zA Ax2 ?_); (repeat refine inC fun hc => ?_); try refine inK fun K hK => ?_)
  refine (Avr _ H2 s _ _ _ hs2 ok).runs.mono ?_
  rintro _ H3 ⟨rfl, lH3⟩
  have l03 := Hp.le_trans l02 lH3
  have vr3 := lH3 _ _ vrb
  have vs3 := lH3 _ _ vsb
  have hs3 := hs2.le lH3
  clear l02 lH3 vrb vsb hs2
  ((try refine @unH _ (zX Ax2 ?_)); (try (refine hK _ _ ?_; clear hK K; try refine @unH _ (zQ ?_))); refine @unH _ (zA Ax2 ?_); (repeat refine inC fun hc => ?_); try refine inK fun K hK => ?_)
  refine (Axj _ H3 k 0 _).runs.mono ?_
  rintro _ _ ⟨rfl, hQ⟩
  rw [hQ, show (decide ((k : Int) < 0) || decide ((s.hampers.length : Int) - 1 < k)) = false from hdo]; clear hQ hdo
  ((try refine @unH _ (zX Ax2 ?_)); (try (refine hK _ _ ?_; clear hK K; try refine @unH _ (zQ ?_))); refine @unH _ (zA Ax2 ?_); (repeat refine inC fun hc => ?_); try refine inK fun K hK => ?_)
  intro ob hob
  have nro := Aqq vr3 hob
  have nso := Aqq vs3 hob
  have h0ob := Hp.le_none l03 hob
  generalize hG : Hp.set H3 ob _ = H4
  have lH4 := Aqc hG hob
  have vo4 := Aqb hG
  have hs4 := hs3.le lH4
  have l04 := Hp.le_trans l03 lH4
  have vr4 := lH4 _ _ vr3
  have vs4 := lH4 _ _ vs3
  clear hG l03 vr3 vs3 hs3 lH4
  ((try refine @unH _ (zX Ax2 ?_)); (try (refine hK _ _ ?_; clear hK K; try refine @unH _ (zQ ?_))); refine @unH _ (zA Ax2 ?_); (repeat refine inC fun hc => ?_); try refine inK fun K hK => ?_)
  refine (Ay4 H4 s _ _ _ hs4 ok).runs.mono ?_
  rintro _ H5 ⟨v, rfl, hv, lH5⟩
  have l05 := Hp.le_trans l04 lH5
  have vr5 := lH5 _ _ vr4
  have vo5 := lH5 _ _ vo4
  obtain ⟨ta, tcap, rfl, htc⟩ := hv.isSlice
  obtain ⟨tb, to, rfl, hone1⟩ := hv.only hk
  clear lH5 vr4 vo4 l04 hs4 vs4 hv
  rw [Az4] at htc ⊢
  ((try refine @unH _ (Dv7 ?_)); (try (refine hK _ _ ?_; clear hK K; try refine @unH _ (zQ ?_))); refine @unH _ (Dv9 ?_); (repeat refine inC fun hc => ?_); try refine inK fun K hK => ?_)
  rw [show ((k : Int) + 1).toNat - k = 1 by omega]
  have hone := Cjx (.wg Tryz.prog) (A := fun _ _ _ => True) (yf := .func 61) (yi := #[]) (yc := #[.pointer (some ⟨ob, 0, none⟩)]) H5 _ _ hone1 ob (fun L => bdO (sinL L)) (fun p c fr e => by rw [vo5] at e; simp at e) (by rw [vo5]; rfl) (fun L H' ham hour x g1 g2 hxo _ => by
   refine Ajz.fn (fun _ _ => Djh _) ((Cxh _ H' ob ham hour x hxo _ g1).mono ?_)
   rintro _ H4 ⟨rfl, h3, h4⟩
   exact ⟨rfl, by rw [h3, Cw2], h4⟩) (fun t ht => by
    simp only [List.mem_cons, List.not_mem_nil, or_false] at ht
    subst ht
    exact Awq ok k) (fun _ _ _ _ _ _ => trivial) (by simp)
  refine hone.runs.mono ?_
  clear hone hone1
  rintro _ H7 ⟨rfl, h3, h4⟩
  have l07 : H.le H7 := fun b x hx => h4 b x (fun e => by rw [e, h0ob] at hx; cases hx) (l05 _ _ hx)
  have vr7 := h4 _ _ nro vr5
  rw [show Az6 [Azw s k] = Bxh (Azw s k) from List.append_nil _] at h3
  generalize sinL (Bxh (Azw s k)) = w at *
  clear h4 vr5 vo5 l05
  obtain ⟨lo, hi, sm⟩ := w
  cases sm with
  | true =>
   ((try refine @unH _ (zX Ax2 ?_)); (try (refine hK _ _ ?_; clear hK K; try refine @unH _ (zQ ?_))); refine @unH _ (zA Ax2 ?_); (repeat refine inC fun hc => ?_); try refine inK fun K hK => ?_)
   (refine Axr ?_; (try simp only [nq, ↓reduceIte, Nat.reduceEqDiff]); rw [Aq7, results_cell_tmp Tryz.results26 (by decide) (by decide) (b := rb) (o := 0) rfl Tryz.underlying34 rfl Tryz.sizeOf34]; simp -implicitDefEqProofs (disch := first | omega | (simp only [qd] <;> omega)) only [xq, ↓xp, qc, Nat.reduceAdd, List.range, List.range.loop, fine, Nat.reduceEqDiff, ↓reduceIte, yielded, reduceCtorEq, Nat.reduceLT, Nat.reduceMul, Nat.reduceSub, one, Nat.reduceLeDiff, Aqj, Ax2, Axk, List.extract_toArray])
   exact ⟨by rw [show r = _ from hr]; rfl, Az9 l07 h0rb⟩
  | false =>
   ((try refine @unH _ (zX Ax2 ?_)); (try (refine hK _ _ ?_; clear hK K; try refine @unH _ (zQ ?_))); refine @unH _ (zA Ax2 ?_); (repeat refine inC fun hc => ?_); try refine inK fun K hK => ?_)
   (refine Axr ?_; (try simp only [nq, ↓reduceIte, Nat.reduceEqDiff]); rw [Aq7, results_cell_tmp Tryz.results26 (by decide) (by decide) (b := rb) (o := 0) rfl Tryz.underlying34 rfl Tryz.sizeOf34]; simp -implicitDefEqProofs (disch := first | omega | (simp only [qd] <;> omega)) only [xq, ↓xp, qc, Nat.reduceAdd, List.range, List.range.loop, fine, Nat.reduceEqDiff, ↓reduceIte, yielded, reduceCtorEq, Nat.reduceLT, Nat.reduceMul, Nat.reduceSub, one, Nat.reduceLeDiff, Aqj, Ax2, Axk, List.extract_toArray])
   exact ⟨by rw [show r = _ from hr]; rfl, Az9 l07 h0rb⟩
end Go.Proofs.YtnfnaehonkbknaaGreatDoor
end
