/- Texts SmL SmV SmO SmO2 SmR. -/
import Derived.Test.YtkcomnkgdifboaaGreatDoorJ18
set_option linter.defProp false
set_option linter.unusedSimpArgs false
set_option linter.unusedVariables false
set_option maxRecDepth 100000
set_option maxHeartbeats 2000000
section
namespace Go.Proofs.YtkcomnkgdifboaaGreatDoor
open Go Go.X
def Akx := And.intro (fun H => Aqq (H := H) Tryz.underlying28 rfl Tryz.sizeOf28) (And.intro @Az2 (And.intro @Bza (And.intro @Dz0 @Dzz)))
def Avy := And.intro (fun H => Aqd (H := H) Tryz.underlying91 (i := 0) rfl (off := 0) rfl Tryz.sizeOf3) (And.intro (fun H => Aqg (H := H) Tryz.underlying3 rfl) (fun H => Aqd (H := H) Tryz.underlying91 (i := 1) rfl (off := 1) rfl Tryz.sizeOf3))
def Awo := And.intro (fun H => Aqv (H := H) (P := Tryz.prog) (h := Tryz.zeroValue91)) (And.intro @Bzb (And.intro (fun H => Aqq (H := H) Tryz.underlying91 rfl Tryz.sizeOf91) (fun H => Aqs (H := H) Tryz.sizeOf91)))
def Ay0 := And.intro (fun H => Aqg (H := H) Tryz.underlying3 rfl) (And.intro (fun H => Aqd (H := H) Tryz.underlying94 (i := 0) rfl (off := 0) rfl Tryz.sizeOf92) (And.intro (fun H => Aq4 (H := H) Tryz.underlying92 Tryz.sizeOf91) (And.intro (fun H => Aqd (H := H) Tryz.underlying91 (i := 0) rfl (off := 0) rfl Tryz.sizeOf3) (And.intro @Bkv (fun H => Aqd (H := H) Tryz.underlying91 (i := 1) rfl (off := 1) rfl Tryz.sizeOf3)))))
def gB (x : Hint) (p : Int) : Bd := x.bs.getD p.toNat bd0
theorem Cxw {x : Hint} (h : Axq x) {p : Int} (h0 : 0 <= p) (h1 : p < 6) : x.bs[p.toNat]? = some (gB x p) := by
 unfold gB
 rw [List.getD, List.getElem?_eq_getElem (by rw [h.b]; omega)]
 rfl
abbrev bdO (b : Bd) : Obj := .cells #[.int .i64 b.lo, .int .i64 b.hi, .bool b.some] 91 (0, 0)
theorem Cyi (b : Bd) : BdC #[.int .i64 b.lo, .int .i64 b.hi, .bool b.some] 0 b := ⟨rfl, rfl, rfl⟩
theorem Czo (b b' : Bd) : Bjf #[.int .i64 b.lo, .int .i64 b.hi, .bool b.some] 0 b' = #[.int .i64 b'.lo, .int .i64 b'.hi, .bool b'.some] := by simp [Bjf]
theorem Avi (main : Md) (H : Hp) (bb : Nat) (b : Bd) (x : Int) (vb : H bb = some (true, bdO b)) :
  FnX Tryz.prog main 65 #[.pointer (some ⟨bb, 0, none⟩), .int .i64 x] H fun e' H' => e' = .returned (.tuple #[]) /\ H' bb = some (true, bdO (Ayf b x)) /\ ∀ y, y ≠ bb -> H' y = H y :=
 (Bww main H bb 0 b x _ _ vb (Cyi b)).mono fun e H' ⟨h1, h2, h3⟩ => ⟨h1, by rw [h2, Czo], h3⟩
def arrF (p : Int) (b : Bd) (x : Int × Int × Hint) : Bd := Ayf (Ayf b (gB x.2.2 p).lo) (gB x.2.2 p).hi
theorem Bkl (main : Md) (H : Hp) (ob pb : Nat) (p : Int) (h0 : 0 <= p) (h1 : p < 6) (ham hour : Int) (x : Hint) (hx : Axq x) (b : Bd) (vo : H ob = some (true, bdO b)) (vp : H pb = some (true, .cells #[.int .i64 p] 3 (0, 0))) (hne : pb ≠ ob) :
  FnX Tryz.prog main 74 #[.int .i64 ham, .int .i64 hour, .agg (Axx x).toArray, .pointer (some ⟨ob, 0, none⟩), .pointer (some ⟨pb, 0, none⟩)] H fun e H' => e = .returned (.tuple #[]) /\ H' ob = some (true, bdO (arrF p b (ham, hour, x))) /\ ∀ b x, b ≠ ob -> H b = some x -> H' b = some x := by
 have hl := Ax1 hx
 have hex := Ak2 hx
 have hbd := Bqb hx (Cxw hx h0 h1)
 obtain ⟨hb1, hb2, _⟩ := hbd
 unfold arrF
 simp only
 generalize gB x p = g at *
 generalize Axx x = HC at *
 refine Aqn Tryz.func74 rfl Tryz.ntmps74 (by simp) ?_
 (refine @unH _ (zA Ay0 ?_); (repeat refine inC fun hc => ?_); try refine inK fun K hK => ?_)
 (intro b hb; generalize hG : Hp.set _ b _ = H1; have lH1 := Aqc hG hb; have vb := Aqb hG; clear hG)
 have vo1 := lH1 _ _ vo
 have vp1 := lH1 _ _ vp
 ((try refine @unH _ (zX Ay0 ?_)); (try (refine hK _ _ ?_; clear hK K; try refine @unH _ (zQ ?_))); refine @unH _ (zA Ay0 ?_); (repeat refine inC fun hc => ?_); try refine inK fun K hK => ?_)
 refine (Avi main H1 ob _ g.lo vo1).runs.mono ?_
 rintro _ H2 ⟨rfl, h21, h22⟩
 have nob : b ≠ ob := fun e => by rw [e, vo] at hb; cases hb
 have vp2 := (h22 pb hne).trans vp1
 have vb2 := (h22 b nob).trans vb
 have hf2 : ∀ c z, c ≠ ob -> H c = some z -> H2 c = some z := fun c z hc hz => (h22 c hc).trans (lH1 _ _ hz)
 clear vo1 vp1 vb h22 lH1
 ((try refine @unH _ (zX Ay0 ?_)); (try (refine hK _ _ ?_; clear hK K; try refine @unH _ (zQ ?_))); refine @unH _ (zA Ay0 ?_); (repeat refine inC fun hc => ?_); try refine inK fun K hK => ?_)
 refine (Avi main H2 ob _ g.hi h21).runs.mono ?_
 rintro _ H3 ⟨rfl, h31, h32⟩
 ((try refine @unH _ (zX Ay0 ?_)); (try (refine hK _ _ ?_; clear hK K; try refine @unH _ (zQ ?_))); refine @unH _ (zA Ay0 ?_); (repeat refine inC fun hc => ?_); try refine inK fun K hK => ?_)
 (refine @unH _ ?_; refine zD Tryz.results74 ?_)
 exact ⟨rfl, h31, fun c z hc hz => (h32 c hc).trans (hf2 c z hc hz)⟩
def arrL (L : List (Int × Int × Hint)) (p : Int) : Bd := L.foldl (arrF p) bd0
theorem Cki (L : List (Int × Int × Hint)) (p : Int) (x : Int × Int × Hint) : arrL (L ++ [x]) p = arrF p (arrL L p) x := by simp [arrL]
theorem Bv3 (main : Md) (H : Hp) (v : Value) (l : List Trail) (hv : SlT H v l) (hok : ∀ t ∈ l, Ax6 t) (hl : l.length <= 1000) (p : Int) (h0 : 0 <= p) (h1 : p < 6) :
  FnX Tryz.prog main 57 #[v, .int .i64 p] H fun e H' => e = .returned (.agg #[.int .i64 (arrL (Az5 l) p).lo, .int .i64 (arrL (Az5 l) p).hi, .bool (arrL (Az5 l) p).some]) /\ H.le H' := by
 obtain ⟨a, cap, rfl, hcap⟩ := hv.isSlice
 refine Aqn Tryz.func57 rfl Tryz.ntmps57 (by simp) ?_
 (refine @unH _ (zA Awo ?_); (repeat refine inC fun hc => ?_); try refine inK fun K hK => ?_)
 (intro pb hpb rb hrb; replace hrb : (Hp.set _ pb _) rb = none := hrb; generalize hG : Hp.set _ pb _ = H1 at hrb ⊢; have lH1 := Aqc hG hpb; have wpb := Aqb hG; clear hG; generalize hG : Hp.set _ rb _ = H2; have lH2 := Aqc hG hrb; have vrb := Aqb hG; have vpb := lH2 _ _ wpb; have npbrb := Aqr wpb hrb; clear hG wpb)
 have l02 := Hp.le_trans lH1 lH2
 have hv2 := hv.le l02
 have h0rb := Hp.le_none lH1 hrb
 clear lH1 lH2 hpb
 ((try refine @unH _ (zX Awo ?_)); (try (refine hK _ _ ?_; clear hK K; try refine @unH _ (zQ ?_))); refine @unH _ (zA Awo ?_); (repeat refine inC fun hc => ?_); try refine inK fun K hK => ?_)
 intro ob hob
 have nob := Aqr vpb hob
 have nrb := Aqr vrb hob
 generalize hG : Hp.set H2 ob _ = H3
 have lH3 := Aqc hG hob
 have vo3 := Aqb hG
 have vp3 := Aqh hG vpb nob
 have vr3 := Aqh hG vrb nrb
 have h00 := Hp.le_none l02 hob
 clear hG vpb vrb
 have hone := Bwo main (A := fun _ _ _ => True) (yf := .func 74) (yi := #[]) (yc := #[.pointer (some ⟨ob, 0, none⟩), .pointer (some ⟨pb, 0, none⟩)]) H2 H3 _ _ hv2 ob (fun L => bdO (arrL L p)) lH3 hob (by rw [vo3]; rfl) (fun L H' ham hour x g1 g2 hxo _ => by
  refine Ajx.fn (fun _ _ => Dz9 _) ((Bkl main H' ob pb p h0 h1 ham hour x hxo _ g1 (g2 _ _ nob vp3) nob).mono ?_)
  rintro _ H4 ⟨rfl, h3, h4⟩
  exact ⟨rfl, by rw [h3, Cki], h4⟩) hok (fun _ _ _ _ _ _ => trivial) hl
 ((try refine @unH _ (zX Awo ?_)); (try (refine hK _ _ ?_; clear hK K; try refine @unH _ (zQ ?_))); refine @unH _ (zA Awo ?_); (repeat refine inC fun hc => ?_); try refine inK fun K hK => ?_)
 refine hone.runs.mono ?_
 clear hone
 rintro _ H4 ⟨rfl, h3, h4⟩
 have l04 : H.le H4 := fun b x hx => h4 b x (fun e => by rw [e, h00] at hx; cases hx) (lH3 _ _ (l02 _ _ hx))
 have vr4 := h4 _ _ nrb vr3
 generalize arrL (Az5 l) p = w at *
 clear h4 vr3 vp3 vo3 l02 lH3 hv2
 ((try refine @unH _ (zX Awo ?_)); (try (refine hK _ _ ?_; clear hK K; try refine @unH _ (zQ ?_))); refine @unH _ (zA Awo ?_); (repeat refine inC fun hc => ?_); try refine inK fun K hK => ?_)
 (refine Axp ?_; (try simp only [nq, ↓reduceIte, Nat.reduceEqDiff]); rw [Aq6, Ax2 Tryz.results57 (by decide) (b := rb) (o := 0) rfl Tryz.underlying91 rfl Tryz.sizeOf91]; simp -implicitDefEqProofs (disch := first | omega | (simp only [qd] <;> omega)) only [xq, ↓xp, qc, Nat.reduceAdd, List.range, List.range.loop, fine, Nat.reduceEqDiff, ↓reduceIte, yielded, reduceCtorEq, Nat.reduceLT, Nat.reduceMul, Nat.reduceSub, one, Nat.reduceLeDiff, Aqf, Awo, Axk, List.extract_toArray])
 exact fun c z hc => by rw [Aqw (fun e => by rw [e, h0rb] at hc; cases hc)]; exact l04 _ _ hc
def Cwz (b : Bd) (h : Int) : Int := if b.lo <= h /\ h < b.hi then 3 else if h < b.lo then 2 else 1
theorem Bvm (main : Md) (H : Hp) (b : Bd) (h : Int) :
  FnX Tryz.prog main 56 #[.agg #[.int .i64 b.lo, .int .i64 b.hi, .bool b.some], .int .i64 h] H fun e H' => e = .returned (.int .i64 (Cwz b h)) /\ H.le H' := by
 unfold Cwz
 by_cases g1 : b.lo <= h
 ·have d1 : decide (b.lo <= h) = true := by simpa using g1
  by_cases g2 : h < b.hi
  ·have d2 : decide (h < b.hi) = true := by simpa using g2
   rw [if_pos ⟨g1, g2⟩]
   clear g1 g2
   refine Aqn Tryz.func56 rfl Tryz.ntmps56 (by simp) ?_
   (refine @unH _ (zA Avy ?_); (repeat refine inC fun hc => ?_); try refine inK fun K hK => ?_)
   (intro bb hbb; generalize hG : Hp.set _ bb _ = H1; have lH1 := Aqc hG hbb; have vbb := Aqb hG; clear hG)
   ((try refine @unH _ (zX Avy ?_)); (try (refine hK _ _ ?_; clear hK K; try refine @unH _ (zQ ?_))); refine @unH _ (zA Avy ?_); (repeat refine inC fun hc => ?_); try refine inK fun K hK => ?_)
   (refine @unH _ ?_; refine z9 Tryz.results56 ?_)
   exact ⟨rfl, lH1⟩
  ·have d2 : decide (h < b.hi) = false := by simpa using g2
   have d3 : decide (h < b.lo) = false := by simp; omega
   rw [if_neg (fun g => g2 g.2), if_neg (by omega : ¬ h < b.lo)]
   clear g1 g2
   refine Aqn Tryz.func56 rfl Tryz.ntmps56 (by simp) ?_
   (refine @unH _ (zA Avy ?_); (repeat refine inC fun hc => ?_); try refine inK fun K hK => ?_)
   (intro bb hbb; generalize hG : Hp.set _ bb _ = H1; have lH1 := Aqc hG hbb; have vbb := Aqb hG; clear hG)
   ((try refine @unH _ (zX Avy ?_)); (try (refine hK _ _ ?_; clear hK K; try refine @unH _ (zQ ?_))); refine @unH _ (zA Avy ?_); (repeat refine inC fun hc => ?_); try refine inK fun K hK => ?_)
   (refine @unH _ ?_; refine z9 Tryz.results56 ?_)
   exact ⟨rfl, lH1⟩
 ·have d1 : decide (b.lo <= h) = false := by simpa using g1
  have d3 : decide (h < b.lo) = true := by simp; omega
  rw [if_neg (fun g => g1 g.1), if_pos (by omega)]
  clear g1
  refine Aqn Tryz.func56 rfl Tryz.ntmps56 (by simp) ?_
  (refine @unH _ (zA Avy ?_); (repeat refine inC fun hc => ?_); try refine inK fun K hK => ?_)
  (intro bb hbb; generalize hG : Hp.set _ bb _ = H1; have lH1 := Aqc hG hbb; have vbb := Aqb hG; clear hG)
  ((try refine @unH _ (zX Avy ?_)); (try (refine hK _ _ ?_; clear hK K; try refine @unH _ (zQ ?_))); refine @unH _ (zA Avy ?_); (repeat refine inC fun hc => ?_); try refine inK fun K hK => ?_)
  (refine @unH _ ?_; refine z9 Tryz.results56 ?_)
  exact ⟨rfl, lH1⟩
theorem Dvg {H : Hp} {b : Nat} {x : Int} {p : Bool} {fr : Nat × Nat} (h : H b = some (p, .cells #[.int .i64 x] 3 fr)) : SlI H (.slice (some ⟨b, 0, none⟩) 1 1) [x] := by
 refine ⟨some ⟨b, 0, none⟩, 1, rfl, Nat.le_refl _, fun i y hy => ?_⟩
 rcases i with _ | i
 ·simp only [List.getElem?_cons_zero, Option.some.injEq] at hy
  subst hy
  exact ⟨b, 0, p, _, _, rfl, h, rfl⟩
 ·simp at hy
theorem Ckk {s : Sm} (ok : SmOk s) {p h : Int} (hb : begE s [p] h = 0) : 0 <= p /\ p < 6 := by
 unfold begE at hb
 have h6 := ok.p1
 simp only [List.any_cons, List.any_nil, Bool.or_false, Bool.or_eq_true, decide_eq_true_eq] at hb
 split at hb
 ·cases hb
 ·omega
def Cwy (s : Sm) (p h : Int) : Int := if begE s [p] h = 0 then Cwz (arrL (susp s) p) h else 0
theorem Bvi (H : Hp) (s : Sm) (dv hv nv : Value) (hs : SmIn H dv hv nv s) (ok : SmOk s) (p h : Int) :
  FnX Tryz.prog (.wg Tryz.prog) 24 #[smV s.places dv hv nv, .int .i64 p, .int .i64 h] H fun e H' => e = .returned (.tuple #[.int .i64 (Cwy s p h), .int .i64 (begE s [p] h)]) /\ H.le H' := by
 obtain ⟨da, dc, ha, kc, na, nc, rfl, rfl, rfl, l1, l2, l3⟩ := hs.forms
 have hpp : begE s [p] h = 0 -> 0 <= p /\ p < 6 := Ckk ok
 have hr0 : begE s [p] h = 0 -> Cwy s p h = Cwz (arrL (susp s) p) h := fun e => if_pos e
 have hr1 : begE s [p] h ≠ 0 -> Cwy s p h = 0 := fun e => if_neg e
 have hbeg := fun H dv hv nv (hs : SmIn H dv hv nv s) pv (hp : SlI H pv [p]) => Akq H s dv hv nv hs ok h pv [p] hp (by simp)
 generalize begE s [p] h = z at *
 generalize Cwy s p h = r at *
 replace hpp : Aqk _ := hpp
 replace hr0 : Aqk _ := hr0
 replace hr1 : Aqk _ := hr1
 replace hbeg : Aqk _ := hbeg
 refine Aqn Tryz.func24 rfl Tryz.ntmps24 (by simp) ?_
 (refine @unH _ (zA Akx ?_); (repeat refine inC fun hc => ?_); try refine inK fun K hK => ?_)
 (intro sb hsb; generalize hG : Hp.set _ sb _ = H1; have lH1 := Aqc hG hsb; have vsb := Aqb hG; clear hG)
 have hs1 := hs.le lH1
 have h0sb := hsb
 clear hsb
 ((try refine @unH _ (zX Akx ?_)); (try (refine hK _ _ ?_; clear hK K; try refine @unH _ (zQ ?_))); refine @unH _ (zA Akx ?_); (repeat refine inC fun hc => ?_); try refine inK fun K hK => ?_)
 (intro pb hpb; generalize hG : Hp.set _ pb _ = H2; have lH2 := Aqc hG hpb; have vpb := Aqb hG; clear hG)
 have hs2 := hs1.le lH2
 have l02 := Hp.le_trans lH1 lH2
 have hp2 : SlI H2 (.slice (some ⟨pb, 0, none⟩) 1 1) [p] := Dvg vpb
 clear hs hs1 vsb hpb lH1 lH2 vpb
 refine ((show ∀ H dv hv nv (hs : SmIn H dv hv nv s) pv (hp : SlI H pv [p]), _ from hbeg) H2 _ _ _ hs2 _ hp2).runs.mono ?_
 clear hbeg
 rintro _ H3 ⟨v, rfl, lH3, hv, _⟩
 have l03 := Hp.le_trans l02 lH3
 clear hs2 hp2 lH3 l02 h0sb
 by_cases hz : z = 0
 ·subst hz
  replace hv := hv (.inl rfl)
  obtain ⟨p0, p1⟩ := hpp rfl
  replace hr0 : Aqk (r = Cwz (arrL (susp s) p) h) := hr0 rfl
  clear hpp hr1
  ((try refine @unH _ (zX Akx ?_)); (try (refine hK _ _ ?_; clear hK K; try refine @unH _ (zQ ?_))); refine @unH _ (zA Akx ?_); (repeat refine inC fun hc => ?_); try refine inK fun K hK => ?_)
  refine (Bv3 _ H3 v _ hv (Akk ok) (by rw [Ajf]; have := ok.h1; omega) p p0 p1).runs.mono ?_
  rintro _ H4 ⟨rfl, lH4⟩
  have l04 := Hp.le_trans l03 lH4
  clear l03 lH4
  rw [show arrL (Az5 (Axo s)) p = arrL (susp s) p from rfl]
  generalize arrL (susp s) p = w at *
  ((try refine @unH _ (zX Akx ?_)); (try (refine hK _ _ ?_; clear hK K; try refine @unH _ (zQ ?_))); refine @unH _ (zA Akx ?_); (repeat refine inC fun hc => ?_); try refine inK fun K hK => ?_)
  refine (Bvm _ H4 w h).runs.mono ?_
  rintro _ H5 ⟨rfl, lH5⟩
  ((try refine @unH _ (zX Akx ?_)); (try (refine hK _ _ ?_; clear hK K; try refine @unH _ (zQ ?_))); refine @unH _ (zA Akx ?_); (repeat refine inC fun hc => ?_); try refine inK fun K hK => ?_)
  (refine @unH _ ?_; refine zB Tryz.results24 ?_)
  exact ⟨by rw [show r = _ from hr0], Hp.le_trans l04 lH5⟩
 ·replace hr1 : Aqk (r = 0) := hr1 hz
  clear hv hpp hr0
  ((try refine @unH _ (zX Akx ?_)); (try (refine hK _ _ ?_; clear hK K; try refine @unH _ (zQ ?_))); refine @unH _ (zA Akx ?_); (repeat refine inC fun hc => ?_); try refine inK fun K hK => ?_)
  (refine @unH _ ?_; refine zB Tryz.results24 ?_)
  exact ⟨by rw [show r = _ from hr1], l03⟩
def fitS (s : Sm) (i b : Nat) : List (List Int × List Int) := fitL s (trL s (s.hampers.getD i 0)) b
theorem Ckp (s : Sm) (L : List (List Int × List Int)) {b : Nat} (h : b < 13) : (byL s L)[b]? = some (Bjj s L (b : Int)) := by
 unfold byL
 rw [List.getElem?_map, List.getElem?_range h]
 rfl
theorem Bw8 (s : Sm) (i : Nat) (x : Int × Int × Hint) : x ∈ Awi (Azn s i) ↔ ∃ b : Nat, b < 13 /\ fitS s i b ≠ [] /\ x = ((i : Int), (b : Int), Bjj s (trL s (s.hampers.getD i 0)) (b : Int)) := by
 unfold Awi
 simp only [List.mem_map, List.mem_filter, Azn]
 constructor
 ·rintro ⟨⟨y, b⟩, ⟨h1, h2⟩, rfl⟩
  have h3 := List.mem_zipIdx_iff_getElem?.1 h1
  simp only at h3 h2
  have hb : b < 13 := by
   have := (List.getElem?_eq_some_iff.1 h3).1
   simpa [byL] using this
  rw [Ckp s _ hb, Option.some.injEq] at h3
  subst h3
  refine ⟨b, hb, ?_, rfl⟩
  rw [Bj0] at h2
  unfold fitS
  intro h
  rw [h] at h2
  cases h2
 ·rintro ⟨b, hb, h, rfl⟩
  refine ⟨(Bjj s (trL s (s.hampers.getD i 0)) (b : Int), b), ⟨List.mem_zipIdx_iff_getElem?.2 (Ckp s _ hb), ?_⟩, rfl⟩
  simp only [Bj0]
  unfold fitS at h
  cases hL : fitL s (trL s (s.hampers.getD i 0)) (b : Int) with
  | nil => exact absurd hL h
  | cons _ _ => rfl
theorem Czc (s : Sm) (x : Int × Int × Hint) : x ∈ susp s ↔ ∃ i b : Nat, i < s.hampers.length /\ b < 13 /\ fitS s i b ≠ [] /\ x = ((i : Int), (b : Int), Bjj s (trL s (s.hampers.getD i 0)) (b : Int)) := by
 unfold susp Az5 Axo
 simp only [List.mem_flatMap, List.mem_map, List.mem_range]
 constructor
 ·rintro ⟨_, ⟨i, hi, rfl⟩, hx⟩
  obtain ⟨b, h1, h2, h3⟩ := (Bw8 s i x).1 hx
  exact ⟨i, b, hi, h1, h2, h3⟩
 ·rintro ⟨i, b, hi, h1, h2, h3⟩
  exact ⟨_, ⟨i, hi, rfl⟩, (Bw8 s i x).2 ⟨b, h1, h2, h3⟩⟩
def allT (s : Sm) : List (Nat × Nat × List Int × List Int) := (List.range s.hampers.length).flatMap fun i => (List.range 13).flatMap fun b => (fitS s i b).map fun tc => (i, b, tc.1, tc.2)
theorem Bxt (s : Sm) (i b : Nat) (t c : List Int) : (i, b, t, c) ∈ allT s ↔ i < s.hampers.length /\ b < 13 /\ (t, c) ∈ fitS s i b := by
 unfold allT
 simp only [List.mem_flatMap, List.mem_range, List.mem_map, Prod.mk.injEq]
 constructor
 ·rintro ⟨i', h1, b', h2, ⟨t', c'⟩, h3, rfl, rfl, rfl, rfl⟩
  exact ⟨h1, h2, h3⟩
 ·rintro ⟨h1, h2, h3⟩
  exact ⟨i, h1, b, h2, (t, c), h3, rfl, rfl, rfl, rfl⟩
theorem Dxs {s : Sm} (ok : SmOk s) {i b : Nat} {t c : List Int} (h : (i, b, t, c) ∈ allT s) : ∃ t0 ∈ Axv s.doors, t = pad6 t0 /\ c = Aq5 s.doors (s.hampers.getD i 0) (pad6 t0) /\ i < s.hampers.length /\ b < 13 /\ fitB s.noses c b = true := by
 obtain ⟨h1, h2, h3⟩ := (Bxt s i b t c).1 h
 unfold fitS fitL trL at h3
 simp only [List.mem_filter, List.mem_map, Prod.mk.injEq] at h3
 obtain ⟨⟨t0, h4, rfl, rfl⟩, h5⟩ := h3
 exact ⟨t0, h4, rfl, rfl, h1, h2, h5⟩
theorem Dxh {s : Sm} (ok : SmOk s) {i : Nat} (h : i < s.hampers.length) : 0 <= s.hampers.getD i 0 /\ s.hampers.getD i 0 < s.places := by
 rw [List.getD, List.getElem?_eq_getElem h, Option.getD_some]
 exact ok.hk _ (List.getElem_mem h)
theorem Bqv {s : Sm} (ok : SmOk s) {h : Int} (h0 : 0 <= h) (h1 : h < s.places) {t : List Int} (ht : t ∈ Axv s.doors) : Aw7 (Edg s.doors (pad6 t)) h (Aq5 s.doors h (pad6 t)) := by
 have h6 := ok.p1
 exact Bkg h6 h0 (by omega) ok.dk (Aj5 ok.dk ht)
def Aja := And.intro (fun H => Aqv (H := H) (P := Tryz.prog) (h := Tryz.zeroValue33)) (And.intro (fun H => Aqq (H := H) Tryz.underlying28 rfl Tryz.sizeOf28) (And.intro (fun H => Aqg (H := H) Tryz.underlying3 rfl) (And.intro @Az2 (And.intro @Bza (And.intro @Bx8 (And.intro (fun H => Aqs (H := H) Tryz.sizeOf33) (And.intro (fun H => Aqv (H := H) (P := Tryz.prog) (h := Tryz.zeroValue91)) (And.intro @Bzb (And.intro (fun H => Aqd (H := H) Tryz.underlying91 (i := 2) rfl (off := 2) rfl Tryz.sizeOf4) (And.intro (fun H => Aqg (H := H) Tryz.underlying4 rfl) (And.intro (fun H => Aqd (H := H) Tryz.underlying91 (i := 0) rfl (off := 0) rfl Tryz.sizeOf3) (And.intro (fun H => Aqd (H := H) Tryz.underlying91 (i := 1) rfl (off := 1) rfl Tryz.sizeOf3) @Az0))))))))))))
def Bjd := @Bkv
def Ava := And.intro (fun H => Aqg (H := H) Tryz.underlying3 rfl) (And.intro (fun H => Aqd (H := H) Tryz.underlying94 (i := 0) rfl (off := 0) rfl Tryz.sizeOf92) (And.intro (fun H => Aq4 (H := H) Tryz.underlying92 Tryz.sizeOf91) (And.intro (fun H => Aqd (H := H) Tryz.underlying91 (i := 1) rfl (off := 1) rfl Tryz.sizeOf3) (And.intro (fun H => Aqd (H := H) Tryz.underlying91 (i := 0) rfl (off := 0) rfl Tryz.sizeOf3) @Bkv))))
def comF (p : Int) (b : Bd) (x : Int × Int × Hint) : Bd := if (gB x.2.2 p).hi < 99 then arrF p b x else b
theorem By0 (main : Md) (H : Hp) (ob pb : Nat) (p : Int) (h0 : 0 <= p) (h1 : p < 6) (ham hour : Int) (x : Hint) (hx : Axq x) (b : Bd) (vo : H ob = some (true, bdO b)) (vp : H pb = some (true, .cells #[.int .i64 p] 3 (0, 0))) (hne : pb ≠ ob) :
  FnX Tryz.prog main 68 #[.int .i64 ham, .int .i64 hour, .agg (Axx x).toArray, .pointer (some ⟨pb, 0, none⟩), .pointer (some ⟨ob, 0, none⟩)] H fun e H' => e = .returned (.tuple #[]) /\ H' ob = some (true, bdO (comF p b (ham, hour, x))) /\ ∀ b x, b ≠ ob -> H b = some x -> H' b = some x := by
 have hl := Ax1 hx
 have hex := Ak2 hx
 have hbd := Bqb hx (Cxw hx h0 h1)
 obtain ⟨hb1, hb2, _⟩ := hbd
 unfold comF arrF
 simp only
 generalize gB x p = g at *
 generalize Axx x = HC at *
 by_cases hg : g.hi < 99
 ·rw [if_pos hg]
  refine Aqn Tryz.func68 rfl Tryz.ntmps68 (by simp) ?_
  (refine @unH _ (zA Ava ?_); (repeat refine inC fun hc => ?_); try refine inK fun K hK => ?_)
  (intro b hb; generalize hG : Hp.set _ b _ = H1; have lH1 := Aqc hG hb; have vb := Aqb hG; clear hG)
  have vo1 := lH1 _ _ vo
  have vp1 := lH1 _ _ vp
  ((try refine @unH _ (zX Ava ?_)); (try (refine hK _ _ ?_; clear hK K; try refine @unH _ (zQ ?_))); refine @unH _ (zA Ava ?_); (repeat refine inC fun hc => ?_); try refine inK fun K hK => ?_)
  refine (Avi main H1 ob _ g.lo vo1).runs.mono ?_
  rintro _ H2 ⟨rfl, h21, h22⟩
  have nob : b ≠ ob := fun e => by rw [e, vo] at hb; cases hb
  have vp2 := (h22 pb hne).trans vp1
  have vb2 := (h22 b nob).trans vb
  have hf2 : ∀ c z, c ≠ ob -> H c = some z -> H2 c = some z := fun c z hc hz => (h22 c hc).trans (lH1 _ _ hz)
  clear vo1 vp1 vb h22 lH1
  ((try refine @unH _ (zX Ava ?_)); (try (refine hK _ _ ?_; clear hK K; try refine @unH _ (zQ ?_))); refine @unH _ (zA Ava ?_); (repeat refine inC fun hc => ?_); try refine inK fun K hK => ?_)
  refine (Avi main H2 ob _ g.hi h21).runs.mono ?_
  rintro _ H3 ⟨rfl, h31, h32⟩
  ((try refine @unH _ (zX Ava ?_)); (try (refine hK _ _ ?_; clear hK K; try refine @unH _ (zQ ?_))); refine @unH _ (zA Ava ?_); (repeat refine inC fun hc => ?_); try refine inK fun K hK => ?_)
  (refine @unH _ ?_; refine zD Tryz.results68 ?_)
  exact ⟨rfl, h31, fun c z hc hz => (h32 c hc).trans (hf2 c z hc hz)⟩
 ·rw [if_neg hg]
  refine Aqn Tryz.func68 rfl Tryz.ntmps68 (by simp) ?_
  (refine @unH _ (zA Ava ?_); (repeat refine inC fun hc => ?_); try refine inK fun K hK => ?_)
  (intro b hb; generalize hG : Hp.set _ b _ = H1; have lH1 := Aqc hG hb; have vb := Aqb hG; clear hG)
  have vo1 := lH1 _ _ vo
  have vp1 := lH1 _ _ vp
  ((try refine @unH _ (zX Ava ?_)); (try (refine hK _ _ ?_; clear hK K; try refine @unH _ (zQ ?_))); refine @unH _ (zA Ava ?_); (repeat refine inC fun hc => ?_); try refine inK fun K hK => ?_)
  (refine @unH _ ?_; refine zD Tryz.results68 ?_)
  exact ⟨rfl, vo1, fun c z hc hz => lH1 _ _ hz⟩
def sinF (b : Bd) (x : Int × Int × Hint) : Bd := Ayf b x.2.1
theorem Cqy (main : Md) (H : Hp) (ob : Nat) (ham hour : Int) (x : Hint) (hx : Axq x) (b : Bd) (vo : H ob = some (true, bdO b)) :
  FnX Tryz.prog main 64 #[.int .i64 ham, .int .i64 hour, .agg (Axx x).toArray, .pointer (some ⟨ob, 0, none⟩)] H fun e H' => e = .returned (.tuple #[]) /\ H' ob = some (true, bdO (sinF b (ham, hour, x))) /\ ∀ b x, b ≠ ob -> H b = some x -> H' b = some x := by
 have hl := Ax1 hx
 have hex := Ak2 hx
 unfold sinF
 simp only
 generalize Axx x = HC at *
 refine Aqn Tryz.func64 rfl Tryz.ntmps64 (by simp) ?_
 (refine @unH _ (zA @Bjd ?_); (repeat refine inC fun hc => ?_); try refine inK fun K hK => ?_)
 (intro b hb; generalize hG : Hp.set _ b _ = H1; have lH1 := Aqc hG hb; have vb := Aqb hG; clear hG)
 have vo1 := lH1 _ _ vo
 ((try refine @unH _ (zX @Bjd ?_)); (try (refine hK _ _ ?_; clear hK K; try refine @unH _ (zQ ?_))); refine @unH _ (zA @Bjd ?_); (repeat refine inC fun hc => ?_); try refine inK fun K hK => ?_)
 refine (Avi main H1 ob _ hour vo1).runs.mono ?_
 rintro _ H2 ⟨rfl, h21, h22⟩
 ((try refine @unH _ (zX @Bjd ?_)); (try (refine hK _ _ ?_; clear hK K; try refine @unH _ (zQ ?_))); refine @unH _ (zA @Bjd ?_); (repeat refine inC fun hc => ?_); try refine inK fun K hK => ?_)
 (refine @unH _ ?_; refine zD Tryz.results64 ?_)
 exact ⟨rfl, h21, fun c z hc hz => (h22 c hc).trans (lH1 _ _ hz)⟩
theorem Az8 {H H' : Hp} {b : Nat} {o : Obj} (l : H.le H') (h : H b = none) : H.le (H'.set b o) := fun x z hz => by
 rw [Aqw (fun e => by rw [e, h] at hz; cases hz)]
 exact l _ _ hz
def comL (L : List (Int × Int × Hint)) (p : Int) : Bd := L.foldl (comF p) bd0
theorem Ck3 (L : List (Int × Int × Hint)) (p : Int) (x : Int × Int × Hint) : comL (L ++ [x]) p = comF p (comL L p) x := by simp [comL]
def bdE (z : Int) (b : Bd) : Int × Int × Int := if z = 0 then (if b.some then (b.lo, b.hi, 0) else (0, 0, 11)) else (0, 0, z)
def comE (s : Sm) (p : Int) : Int × Int × Int := bdE (begE s [p] 0) (comL (susp s) p)
theorem Cqq (H : Hp) (s : Sm) (dv hv nv : Value) (hs : SmIn H dv hv nv s) (ok : SmOk s) (p : Int) :
  FnX Tryz.prog (.wg Tryz.prog) 31 #[smV s.places dv hv nv, .int .i64 p] H fun e H' => e = .returned (.tuple #[.agg #[.int .i64 (comE s p).1, .int .i64 (comE s p).2.1], .int .i64 (comE s p).2.2]) /\ H.le H' := by
 obtain ⟨da, dc, ha, kc, na, nc, rfl, rfl, rfl, l1, l2, l3⟩ := hs.forms
 have hpp : begE s [p] 0 = 0 -> 0 <= p /\ p < 6 := Ckk ok
 have hr : comE s p = bdE (begE s [p] 0) (comL (susp s) p) := rfl
 have hbeg := fun H dv hv nv (hs : SmIn H dv hv nv s) pv (hp : SlI H pv [p]) => Akq H s dv hv nv hs ok 0 pv [p] hp (by simp)
 generalize begE s [p] 0 = z at *
 generalize comE s p = r at *
 replace hpp : Aqk _ := hpp
 replace hr : Aqk _ := hr
 replace hbeg : Aqk _ := hbeg
 refine Aqn Tryz.func31 rfl Tryz.ntmps31 (by simp) ?_
 (refine @unH _ (zA Aja ?_); (repeat refine inC fun hc => ?_); try refine inK fun K hK => ?_)
 (intro sb hsb qb hqb rb hrb; replace hrb : (Hp.set (Hp.set _ sb _) qb _) rb = none := hrb; replace hqb : (Hp.set _ sb _) qb = none := hqb; generalize hG : Hp.set _ sb _ = H1 at hqb hrb ⊢; have lH1 := Aqc hG hsb; have wsb := Aqb hG; clear hG; generalize hG : Hp.set _ qb _ = H2 at hrb ⊢; have lH2 := Aqc hG hqb; have wqb := Aqb hG; have nsbqb := Aqr wsb hqb; replace wsb := lH2 _ _ wsb; clear hG; generalize hG : Hp.set _ rb _ = H3; have lH3 := Aqc hG hrb; have vrb := Aqb hG; have vsb := lH3 _ _ wsb; have vqb := lH3 _ _ wqb; have nsbrb := Aqr wsb hrb; have nqbrb := Aqr wqb hrb; clear hG wsb wqb)
 have l03 := Hp.le_trans lH1 (Hp.le_trans lH2 lH3)
 have hs3 := hs.le l03
 have h0rb := Hp.le_none (Hp.le_trans lH1 lH2) hrb
 clear lH1 lH2 lH3 hsb hqb hrb hs
 ((try refine @unH _ (zX Aja ?_)); (try (refine hK _ _ ?_; clear hK K; try refine @unH _ (zQ ?_))); refine @unH _ (zA Aja ?_); (repeat refine inC fun hc => ?_); try refine inK fun K hK => ?_)
 (intro pb hpb; generalize hG : Hp.set _ pb _ = H4; have lH4 := Aqc hG hpb; have vpb := Aqb hG; clear hG)
 have hs4 := hs3.le lH4
 have l04 := Hp.le_trans l03 lH4
 have vr4 := lH4 _ _ vrb
 have vq4 := lH4 _ _ vqb
 have hp4 : SlI H4 (.slice (some ⟨pb, 0, none⟩) 1 1) [p] := Dvg vpb
 clear hs3 l03 lH4 vrb vqb vsb vpb hpb
 refine ((show ∀ H dv hv nv (hs : SmIn H dv hv nv s) pv (hp : SlI H pv [p]), _ from hbeg) H4 _ _ _ hs4 _ hp4).runs.mono ?_
 clear hbeg
 rintro _ H5 ⟨v, rfl, lH5, hv, _⟩
 have l05 := Hp.le_trans l04 lH5
 have vr5 := lH5 _ _ vr4
 have vq5 := lH5 _ _ vq4
 clear hs4 hp4 lH5 l04 vr4 vq4
 by_cases hz : z = 0
 ·subst hz
  replace hv := hv (.inl rfl)
  obtain ⟨p0, p1⟩ := hpp rfl
  clear hpp
  ((try refine @unH _ (zX Aja ?_)); (try (refine hK _ _ ?_; clear hK K; try refine @unH _ (zQ ?_))); refine @unH _ (zA Aja ?_); (repeat refine inC fun hc => ?_); try refine inK fun K hK => ?_)
  intro ob hob
  have nqo := Aqr vq5 hob
  have nro := Aqr vr5 hob
  ((try refine @unH _ (zX Aja ?_)); (try (refine hK _ _ ?_; clear hK K; try refine @unH _ (zQ ?_))); refine @unH _ (zA Aja ?_); (repeat refine inC fun hc => ?_); try refine inK fun K hK => ?_)
  generalize hG : Hp.set H5 ob _ = H6
  have lH6 := Aqc hG hob
  have vo6 := Aqb hG
  have vq6 := Aqh hG vq5 nqo
  have vr6 := Aqh hG vr5 nro
  have h0ob := Hp.le_none l05 hob
  clear hG vq5 vr5
  have hone := Bwo (.wg Tryz.prog) (A := fun _ _ _ => True) (yf := .func 68) (yi := #[]) (yc := #[.pointer (some ⟨qb, 0, none⟩), .pointer (some ⟨ob, 0, none⟩)]) H5 H6 _ _ hv ob (fun L => bdO (comL L p)) lH6 hob (by rw [vo6]; rfl) (fun L H' ham hour x g1 g2 hxo _ => by
   refine Ajx.fn (fun _ _ => Dz4 _) ((By0 _ H' ob qb p p0 p1 ham hour x hxo _ g1 (g2 _ _ nqo vq6) nqo).mono ?_)
   rintro _ H4 ⟨rfl, h3, h4⟩
   exact ⟨rfl, by rw [h3, Ck3], h4⟩) (Akk ok) (fun _ _ _ _ _ _ => trivial) (by rw [Ajf]; have := ok.h1; omega)
  refine hone.runs.mono ?_
  clear hone
  rintro _ H7 ⟨rfl, h3, h4⟩
  have l07 : H.le H7 := fun b x hx => h4 b x (fun e => by rw [e, h0ob] at hx; cases hx) (lH6 _ _ (l05 _ _ hx))
  have vr7 := h4 _ _ nro vr6
  replace hr : Aqk (r = bdE 0 (comL (susp s) p)) := hr
  rw [show Az5 (Axo s) = susp s from rfl] at h3
  generalize comL (susp s) p = w at *
  clear h4 vr6 vq6 vo6 l05 lH6 hv
  obtain ⟨lo, hi, sm⟩ := w
  cases sm with
  | true =>
   ((try refine @unH _ (zX Aja ?_)); (try (refine hK _ _ ?_; clear hK K; try refine @unH _ (zQ ?_))); refine @unH _ (zA Aja ?_); (repeat refine inC fun hc => ?_); try refine inK fun K hK => ?_)
   (refine Axp ?_; (try simp only [nq, ↓reduceIte, Nat.reduceEqDiff]); rw [Aq6, results_cell_tmp Tryz.results31 (by decide) (by decide) (b := rb) (o := 0) rfl Tryz.underlying33 rfl Tryz.sizeOf33]; simp -implicitDefEqProofs (disch := first | omega | (simp only [qd] <;> omega)) only [xq, ↓xp, qc, Nat.reduceAdd, List.range, List.range.loop, fine, Nat.reduceEqDiff, ↓reduceIte, yielded, reduceCtorEq, Nat.reduceLT, Nat.reduceMul, Nat.reduceSub, one, Nat.reduceLeDiff, Aqf, Aja, Axk, List.extract_toArray])
   exact ⟨by rw [show r = _ from hr]; rfl, Az8 l07 h0rb⟩
  | false =>
   ((try refine @unH _ (zX Aja ?_)); (try (refine hK _ _ ?_; clear hK K; try refine @unH _ (zQ ?_))); refine @unH _ (zA Aja ?_); (repeat refine inC fun hc => ?_); try refine inK fun K hK => ?_)
   (refine Axp ?_; (try simp only [nq, ↓reduceIte, Nat.reduceEqDiff]); rw [Aq6, results_cell_tmp Tryz.results31 (by decide) (by decide) (b := rb) (o := 0) rfl Tryz.underlying33 rfl Tryz.sizeOf33]; simp -implicitDefEqProofs (disch := first | omega | (simp only [qd] <;> omega)) only [xq, ↓xp, qc, Nat.reduceAdd, List.range, List.range.loop, fine, Nat.reduceEqDiff, ↓reduceIte, yielded, reduceCtorEq, Nat.reduceLT, Nat.reduceMul, Nat.reduceSub, one, Nat.reduceLeDiff, Aqf, Aja, Axk, List.extract_toArray])
   exact ⟨by rw [show r = _ from hr]; rfl, Az8 l07 h0rb⟩
 ·clear hv hpp
  ((try refine @unH _ (zX Aja ?_)); (try (refine hK _ _ ?_; clear hK K; try refine @unH _ (zQ ?_))); refine @unH _ (zA Aja ?_); (repeat refine inC fun hc => ?_); try refine inK fun K hK => ?_)
  (refine Axp ?_; (try simp only [nq, ↓reduceIte, Nat.reduceEqDiff]); rw [Aq6, results_cell_tmp Tryz.results31 (by decide) (by decide) (b := rb) (o := 0) rfl Tryz.underlying33 rfl Tryz.sizeOf33]; simp -implicitDefEqProofs (disch := first | omega | (simp only [qd] <;> omega)) only [xq, ↓xp, qc, Nat.reduceAdd, List.range, List.range.loop, fine, Nat.reduceEqDiff, ↓reduceIte, yielded, reduceCtorEq, Nat.reduceLT, Nat.reduceMul, Nat.reduceSub, one, Nat.reduceLeDiff, Aqf, Aja, Axk, List.extract_toArray])
  exact ⟨by rw [show r = _ from hr, bdE, if_neg hz], Az8 l05 h0rb⟩
def Ax3 := And.intro (fun H => Aqv (H := H) (P := Tryz.prog) (h := Tryz.zeroValue33)) (And.intro (fun H => Aqq (H := H) Tryz.underlying28 rfl Tryz.sizeOf28) (And.intro @Bkt (And.intro @Bx8 (And.intro (fun H => Aqs (H := H) Tryz.sizeOf33) (And.intro (fun H => Aqd (H := H) Tryz.underlying28 (i := 2) rfl (off := 2) rfl Tryz.sizeOf22) (And.intro (fun H => Aqg (H := H) Tryz.underlying22 rfl) (And.intro (fun H => Aq7 (H := H) Tryz.underlying22) (And.intro @Ayg (And.intro (fun H => Aqv (H := H) (P := Tryz.prog) (h := Tryz.zeroValue91)) (And.intro @Byv (And.intro (fun H => Bvj (H := H) Tryz.underlying85 Tryz.sizeOf130) (And.intro (fun H => Bvk (H := H) Tryz.underlying85 Tryz.sizeOf130) (And.intro (fun H => Bq4 (H := H) Tryz.underlying85 Tryz.sizeOf130) (And.intro (fun H => Bxf (H := H) Tryz.underlying85 Tryz.sizeOf130) (And.intro @Bzb (And.intro (fun H => Aqd (H := H) Tryz.underlying91 (i := 2) rfl (off := 2) rfl Tryz.sizeOf4) (And.intro (fun H => Aqg (H := H) Tryz.underlying4 rfl) (And.intro (fun H => Aqd (H := H) Tryz.underlying91 (i := 0) rfl (off := 0) rfl Tryz.sizeOf3) (And.intro (fun H => Aqg (H := H) Tryz.underlying3 rfl) (And.intro (fun H => Aqd (H := H) Tryz.underlying91 (i := 1) rfl (off := 1) rfl Tryz.sizeOf3) @Az0))))))))))))))))))))
theorem Dvr {p q : Prop} (g : q) (h : Hid q -> p := by
 intro g
 repeat' (first
 | (refine Ax9 rfl ?_; intro Kz hKz; simp -implicitDefEqProofs (disch := first | omega | (simp only [qd] <;> omega)) only [xq, ↓xp, qc, Nat.reduceAdd, List.range, List.range.loop, fine, Nat.reduceEqDiff, ↓reduceIte, yielded, reduceCtorEq, Nat.reduceLT, Nat.reduceMul, Nat.reduceSub, one, Nat.reduceLeDiff, Aqf, Ax3, aq, ↓ap, qe0, qe1, qe2, *, -g, -hKz, Ayr Tryz.underlying85 Tryz.sizeOf130]; try (refine hKz _ _ ?_; clear hKz Kz))
 | (refine Ajs rfl ?_; intro Kz hKz; simp -implicitDefEqProofs (disch := first | omega | (simp only [qd] <;> omega)) only [xq, ↓xp, qc, Nat.reduceAdd, List.range, List.range.loop, fine, Nat.reduceEqDiff, ↓reduceIte, yielded, reduceCtorEq, Nat.reduceLT, Nat.reduceMul, Nat.reduceSub, one, Nat.reduceLeDiff, Aqf, Ax3, aq, ↓ap, qe0, qe1, qe2, *, -g, -hKz, Ayr Tryz.underlying85 Tryz.sizeOf130]; try (refine hKz _ _ ?_; clear hKz Kz; (try simp only [nq, ↓reduceIte, Nat.reduceEqDiff])))
 | (refine Az7 ?_; (try simp only [nq, ↓reduceIte, Nat.reduceEqDiff]))
 | (refine Ajd ?_; (try simp only [nq, ↓reduceIte, Nat.reduceEqDiff]))
 | (refine Aj3 ?_; (try simp only [nq, ↓reduceIte, Nat.reduceEqDiff]))
 | (refine Akf ?_; (try simp only [nq, ↓reduceIte, Nat.reduceEqDiff]))
 | (refine Ajr (by simp only [Axb, Axl, Nat.reduceEqDiff, Nat.reduceLT, ↓reduceIte, *, -g]; rfl) ?_ ?_ <;> (intro hcz; first | (exfalso; simp -implicitDefEqProofs (disch := omega) only [*, -g, bq, reduceCtorEq] at hcz; done) | (simp only [dq, qe3, qe4, qe5, qe6] at hcz) | skip))
 | (refine Ajl ?_)
 | (refine Azi ?_)
 | (refine Axs ?_))
 (try (revert Kz; refine unK ?_)); (repeat (revert hcz; refine unC ?_))
 exact Hid.out g) : Hid p := ⟨h ⟨g⟩⟩
theorem Dvp {p q : Prop} (g : q) (h : Hid q -> p := by
 intro g
 simp -implicitDefEqProofs (disch := first | omega | (simp only [qd] <;> omega)) only [xq, ↓xp, qc, Nat.reduceAdd, List.range, List.range.loop, fine, Nat.reduceEqDiff, ↓reduceIte, yielded, reduceCtorEq, Nat.reduceLT, Nat.reduceMul, Nat.reduceSub, one, Nat.reduceLeDiff, Aqf, Ax3, aq, ↓ap, qe0, qe1, qe2, *, -g, -hK, Ayr Tryz.underlying85 Tryz.sizeOf130]
 exact Hid.out g) : Hid p := ⟨h ⟨g⟩⟩
theorem Ayr {P : Program} {H : Hp} {t e : TypeId} (hu : P.underlying t = some (.slice e)) {n : Nat} (hs : ∀ w, (sizeOf e).run P w = .ok n w) (b o len cap : Nat) (k k' k'' : IntKind) (i j m : Int) (h0 : 0 <= i) (h1 : i <= j) (h2 : j <= m) (h3 : m <= cap) (hne : i < m) (K : Value -> Hp -> Prop) (E : Value -> Hp -> Prop) :
  wpS P (Instr.sliceAt t (.slice (some ⟨b, o, none⟩) len cap) (some (.int k i)) (some (.int k' j)) (some (.int k'' m))) H K E = K (.slice (some ⟨b, o + i.toNat * n, none⟩) (j.toNat - i.toNat) (m.toNat - i.toNat)) H := by
 unfold Instr.sliceAt Instr.slice Instr.sliceBounds
 have hm : j <= (m.toNat : Int) := by omega
 have hj : i <= (j.toNat : Int) := by omega
 have hne' : ¬ m.toNat = i.toNat := by omega
 simp [-bind_pure_comp, Aqa, Aqj hu, Aqe, Ajb k'' m cap _ (by omega) h3, Ajb k' j m.toNat _ (by omega) hm, Ajb k i j.toNat _ h0 hj, Aq0 hs, Aj9, hne']
def sinL (L : List (Int × Int × Hint)) : Bd := L.foldl sinF bd0
theorem Cwg (L : List (Int × Int × Hint)) (x : Int × Int × Hint) : sinL (L ++ [x]) = sinF (sinL L) x := by simp [sinL]
def sinE (s : Sm) (i : Int) : Int × Int × Int := bdE (if i < 0 ∨ (s.hampers.length : Int) - 1 < i then 3 else 0) (sinL (Awi (Azn s i.toNat)))
theorem SlT.only {H : Hp} {s : Sm} {a : Option Addr} {n cap : Nat} (h : SlT H (.slice a n cap) (Axo s)) {i : Nat} (hi : i < s.hampers.length) : ∃ b o, a = some ⟨b, o, none⟩ /\ SlT H (.slice (some ⟨b, o + i * 326, none⟩) 1 1) [Azn s i] := by
 have hx : ((Axo s).map Axc)[i]? = some (Axc (Azn s i)) := by
  unfold Axo
  rw [List.getElem?_map, List.getElem?_map, List.getElem?_range hi]
  rfl
 obtain ⟨b, o, p, c, fr, rfl, h2, h3, h4, h5⟩ := SlG.get h hx
 refine ⟨b, o, rfl, some ⟨b, o + i * 326, none⟩, 1, rfl, by simp, fun j r hr => ?_⟩
 rcases j with _ | j
 ·simp only [List.map_cons, List.getElem?_cons_zero, Option.some.injEq] at hr
  subst hr
  exact ⟨b, o + i * 326, p, c, fr, rfl, h2, by omega, h4, by simpa using h5⟩
 ·simp at hr
theorem Cjd (main : Md) {A : Int -> Int -> Hint -> Prop} {yf : Fn} {yi yc : Array Value} (H2 : Hp) (v : Value) (l : List Trail) (hv : SlT H2 v l) (ob : Nat) (O : List (Int × Int × Hint) -> Obj) (h0 : ∀ p c fr, H2 ob ≠ some (p, .cells c 130 fr)) (vo : H2 ob = some (true, O []))
  (h : ∀ L H' ham hour x, H' ob = some (true, O L) -> (∀ b z, b ≠ ob -> H2 b = some z -> H' b = some z) -> Axq x -> A ham hour x -> Ajx Tryz.prog main (.func yf yi yc) #[.int .i64 ham, .int .i64 hour, .agg (Axx x).toArray] H' fun e H'' => e = .returned (.tuple #[]) /\ H'' ob = some (true, O (L ++ [(ham, hour, x)])) /\ ∀ b z, b ≠ ob -> H' b = some z -> H'' b = some z)
  (hok : ∀ t ∈ l, Ax6 t) (hA : ∀ t ∈ l, ∀ (h : Nat) x, t.hs[h]? = some x -> x.some = true -> A t.ham h x) (hl : l.length <= 1000) :
  FnX Tryz.prog main 59 #[v, .func yf yi yc] H2 fun e H' => e = .returned (.tuple #[]) /\ H' ob = some (true, O (Az5 l)) /\ ∀ b x, b ≠ ob -> H2 b = some x -> H' b = some x :=
 (Awu main (Cvq H2 ob O vo h) H2 v l (fun L H' h _ => hv.move fun x p c fr hx => ⟨p, h.2 x _ (fun e => h0 p c fr (by rw [<- e]; exact hx)) hx⟩) hok hA hl [] ⟨vo, fun _ _ _ hx => hx⟩).mono fun e H' ⟨h1, h2, _⟩ => ⟨h1, by simpa using h2.1, h2.2⟩
theorem Cqv (H : Hp) (s : Sm) (dv hv nv : Value) (hs : SmIn H dv hv nv s) (ok : SmOk s) (i : Int) :
  FnX Tryz.prog (.wg Tryz.prog) 27 #[smV s.places dv hv nv, .int .i64 i] H fun e H' => e = .returned (.tuple #[.agg #[.int .i64 (sinE s i).1, .int .i64 (sinE s i).2.1], .int .i64 (sinE s i).2.2]) /\ H.le H' := by
 obtain ⟨da, dc, ha, kc, na, nc, rfl, rfl, rfl, l1, l2, l3⟩ := hs.forms
 have hr : sinE s i = bdE (if i < 0 ∨ (s.hampers.length : Int) - 1 < i then 3 else 0) (sinL (Awi (Azn s i.toNat))) := rfl
 have h3 := ok.h1
 have h1 := ok.h0
 have e := ok.p1
 clear e
 generalize sinE s i = r at *
 by_cases hi : i < 0 ∨ (s.hampers.length : Int) - 1 < i
 ·have hdo : (decide (i < 0) || decide ((s.hampers.length : Int) - 1 < i)) = true := by simpa using hi
  rw [if_pos hi] at hr
  replace hr : Aqk _ := hr
  replace hdo : Aqk _ := hdo
  clear hi
  refine Aqn Tryz.func27 rfl Tryz.ntmps27 (by simp) ?_
  (refine @unH _ (zA Ax3 ?_); (repeat refine inC fun hc => ?_); try refine inK fun K hK => ?_)
  (intro sb hsb rb hrb; replace hrb : (Hp.set _ sb _) rb = none := hrb; generalize hG : Hp.set _ sb _ = H1 at hrb ⊢; have lH1 := Aqc hG hsb; have wsb := Aqb hG; clear hG; generalize hG : Hp.set _ rb _ = H2; have lH2 := Aqc hG hrb; have vrb := Aqb hG; have vsb := lH2 _ _ wsb; have nsbrb := Aqr wsb hrb; clear hG wsb)
  have l02 := Hp.le_trans lH1 lH2
  have hs2 := hs.le l02
  have h0rb := Hp.le_none lH1 hrb
  clear lH1 lH2 hsb hrb hs
  ((try refine @unH _ (zX Ax3 ?_)); (try (refine hK _ _ ?_; clear hK K; try refine @unH _ (zQ ?_))); refine @unH _ (zA Ax3 ?_); (repeat refine inC fun hc => ?_); try refine inK fun K hK => ?_)
  refine (Avm _ H2 s _ _ _ hs2 ok).runs.mono ?_
  rintro _ H3 ⟨rfl, lH3⟩
  have l03 := Hp.le_trans l02 lH3
  have vr3 := lH3 _ _ vrb
  have vs3 := lH3 _ _ vsb
  clear l02 lH3 vrb vsb hs2
  ((try refine @unH _ (zX Ax3 ?_)); (try (refine hK _ _ ?_; clear hK K; try refine @unH _ (zQ ?_))); refine @unH _ (zA Ax3 ?_); (repeat refine inC fun hc => ?_); try refine inK fun K hK => ?_)
  refine (Axj _ H3 i 0 _).runs.mono ?_
  rintro _ _ ⟨rfl, hQ⟩
  rw [hQ, show (decide (i < 0) || decide ((s.hampers.length : Int) - 1 < i)) = true from hdo]; clear hQ
  ((try refine @unH _ (zX Ax3 ?_)); (try (refine hK _ _ ?_; clear hK K; try refine @unH _ (zQ ?_))); refine @unH _ (zA Ax3 ?_); (repeat refine inC fun hc => ?_); try refine inK fun K hK => ?_)
  (refine Axp ?_; (try simp only [nq, ↓reduceIte, Nat.reduceEqDiff]); rw [Aq6, results_cell_tmp Tryz.results27 (by decide) (by decide) (b := rb) (o := 0) rfl Tryz.underlying33 rfl Tryz.sizeOf33]; simp -implicitDefEqProofs (disch := first | omega | (simp only [qd] <;> omega)) only [xq, ↓xp, qc, Nat.reduceAdd, List.range, List.range.loop, fine, Nat.reduceEqDiff, ↓reduceIte, yielded, reduceCtorEq, Nat.reduceLT, Nat.reduceMul, Nat.reduceSub, one, Nat.reduceLeDiff, Aqf, Ax3, Axk, List.extract_toArray])
  exact ⟨by rw [show r = _ from hr]; rfl, Az8 l03 h0rb⟩
 ·have hdo : (decide (i < 0) || decide ((s.hampers.length : Int) - 1 < i)) = false := by simpa using hi
  rw [if_neg hi] at hr
  replace hdo : Aqk _ := hdo
  obtain ⟨k, rfl⟩ : ∃ k : Nat, i = (k : Int) := ⟨i.toNat, by omega⟩
  have hk : k < s.hampers.length := by omega
  replace hr : Aqk (r = bdE 0 (sinL (Awi (Azn s k)))) := hr
  clear hi
  refine Aqn Tryz.func27 rfl Tryz.ntmps27 (by simp) ?_
  (refine @unH _ (zA Ax3 ?_); (repeat refine inC fun hc => ?_); try refine inK fun K hK => ?_)
  (intro sb hsb rb hrb; replace hrb : (Hp.set _ sb _) rb = none := hrb; generalize hG : Hp.set _ sb _ = H1 at hrb ⊢; have lH1 := Aqc hG hsb; have wsb := Aqb hG; clear hG; generalize hG : Hp.set _ rb _ = H2; have lH2 := Aqc hG hrb; have vrb := Aqb hG; have vsb := lH2 _ _ wsb; have nsbrb := Aqr wsb hrb; clear hG wsb)
  have l02 := Hp.le_trans lH1 lH2
  have hs2 := hs.le l02
  have h0rb := Hp.le_none lH1 hrb
  clear lH1 lH2 hsb hrb hs
  ((try refine @unH _ (zX Ax3 ?_)); (try (refine hK _ _ ?_; clear hK K; try refine @unH _ (zQ ?_))); refine @unH _ (zA Ax3 ?_); (repeat refine inC fun hc => ?_); try refine inK fun K hK => ?_)
  refine (Avm _ H2 s _ _ _ hs2 ok).runs.mono ?_
  rintro _ H3 ⟨rfl, lH3⟩
  have l03 := Hp.le_trans l02 lH3
  have vr3 := lH3 _ _ vrb
  have vs3 := lH3 _ _ vsb
  have hs3 := hs2.le lH3
  clear l02 lH3 vrb vsb hs2
  ((try refine @unH _ (zX Ax3 ?_)); (try (refine hK _ _ ?_; clear hK K; try refine @unH _ (zQ ?_))); refine @unH _ (zA Ax3 ?_); (repeat refine inC fun hc => ?_); try refine inK fun K hK => ?_)
  refine (Axj _ H3 k 0 _).runs.mono ?_
  rintro _ _ ⟨rfl, hQ⟩
  rw [hQ, show (decide ((k : Int) < 0) || decide ((s.hampers.length : Int) - 1 < k)) = false from hdo]; clear hQ hdo
  ((try refine @unH _ (zX Ax3 ?_)); (try (refine hK _ _ ?_; clear hK K; try refine @unH _ (zQ ?_))); refine @unH _ (zA Ax3 ?_); (repeat refine inC fun hc => ?_); try refine inK fun K hK => ?_)
  intro ob hob
  have nro := Aqr vr3 hob
  have nso := Aqr vs3 hob
  have h0ob := Hp.le_none l03 hob
  generalize hG : Hp.set H3 ob _ = H4
  have lH4 := Aqc hG hob
  have vo4 := Aqb hG
  have hs4 := hs3.le lH4
  have l04 := Hp.le_trans l03 lH4
  have vr4 := lH4 _ _ vr3
  have vs4 := lH4 _ _ vs3
  clear hG l03 vr3 vs3 hs3 lH4
  ((try refine @unH _ (zX Ax3 ?_)); (try (refine hK _ _ ?_; clear hK K; try refine @unH _ (zQ ?_))); refine @unH _ (zA Ax3 ?_); (repeat refine inC fun hc => ?_); try refine inK fun K hK => ?_)
  refine (Ayt H4 s _ _ _ hs4 ok).runs.mono ?_
  rintro _ H5 ⟨v, rfl, hv, lH5⟩
  have l05 := Hp.le_trans l04 lH5
  have vr5 := lH5 _ _ vr4
  have vo5 := lH5 _ _ vo4
  obtain ⟨ta, tcap, rfl, htc⟩ := hv.isSlice
  obtain ⟨tb, to, rfl, hone1⟩ := hv.only hk
  clear lH5 vr4 vo4 l04 hs4 vs4 hv
  rw [Ajf] at htc ⊢
  ((try refine @unH _ (Dvp ?_)); (try (refine hK _ _ ?_; clear hK K; try refine @unH _ (zQ ?_))); refine @unH _ (Dvr ?_); (repeat refine inC fun hc => ?_); try refine inK fun K hK => ?_)
  rw [show ((k : Int) + 1).toNat - k = 1 by omega]
  have hone := Cjd (.wg Tryz.prog) (A := fun _ _ _ => True) (yf := .func 64) (yi := #[]) (yc := #[.pointer (some ⟨ob, 0, none⟩)]) H5 _ _ hone1 ob (fun L => bdO (sinL L)) (fun p c fr e => by rw [vo5] at e; simp at e) (by rw [vo5]; rfl) (fun L H' ham hour x g1 g2 hxo _ => by
   refine Ajx.fn (fun _ _ => Dz2 _) ((Cqy _ H' ob ham hour x hxo _ g1).mono ?_)
   rintro _ H4 ⟨rfl, h3, h4⟩
   exact ⟨rfl, by rw [h3, Cwg], h4⟩) (fun t ht => by
    simp only [List.mem_cons, List.not_mem_nil, or_false] at ht
    subst ht
    exact Awj ok k) (fun _ _ _ _ _ _ => trivial) (by simp)
  refine hone.runs.mono ?_
  clear hone hone1
  rintro _ H7 ⟨rfl, h3, h4⟩
  have l07 : H.le H7 := fun b x hx => h4 b x (fun e => by rw [e, h0ob] at hx; cases hx) (l05 _ _ hx)
  have vr7 := h4 _ _ nro vr5
  rw [show Az5 [Azn s k] = Awi (Azn s k) from List.append_nil _] at h3
  generalize sinL (Awi (Azn s k)) = w at *
  clear h4 vr5 vo5 l05
  obtain ⟨lo, hi, sm⟩ := w
  cases sm with
  | true =>
   ((try refine @unH _ (zX Ax3 ?_)); (try (refine hK _ _ ?_; clear hK K; try refine @unH _ (zQ ?_))); refine @unH _ (zA Ax3 ?_); (repeat refine inC fun hc => ?_); try refine inK fun K hK => ?_)
   (refine Axp ?_; (try simp only [nq, ↓reduceIte, Nat.reduceEqDiff]); rw [Aq6, results_cell_tmp Tryz.results27 (by decide) (by decide) (b := rb) (o := 0) rfl Tryz.underlying33 rfl Tryz.sizeOf33]; simp -implicitDefEqProofs (disch := first | omega | (simp only [qd] <;> omega)) only [xq, ↓xp, qc, Nat.reduceAdd, List.range, List.range.loop, fine, Nat.reduceEqDiff, ↓reduceIte, yielded, reduceCtorEq, Nat.reduceLT, Nat.reduceMul, Nat.reduceSub, one, Nat.reduceLeDiff, Aqf, Ax3, Axk, List.extract_toArray])
   exact ⟨by rw [show r = _ from hr]; rfl, Az8 l07 h0rb⟩
  | false =>
   ((try refine @unH _ (zX Ax3 ?_)); (try (refine hK _ _ ?_; clear hK K; try refine @unH _ (zQ ?_))); refine @unH _ (zA Ax3 ?_); (repeat refine inC fun hc => ?_); try refine inK fun K hK => ?_)
   (refine Axp ?_; (try simp only [nq, ↓reduceIte, Nat.reduceEqDiff]); rw [Aq6, results_cell_tmp Tryz.results27 (by decide) (by decide) (b := rb) (o := 0) rfl Tryz.underlying33 rfl Tryz.sizeOf33]; simp -implicitDefEqProofs (disch := first | omega | (simp only [qd] <;> omega)) only [xq, ↓xp, qc, Nat.reduceAdd, List.range, List.range.loop, fine, Nat.reduceEqDiff, ↓reduceIte, yielded, reduceCtorEq, Nat.reduceLT, Nat.reduceMul, Nat.reduceSub, one, Nat.reduceLeDiff, Aqf, Ax3, Axk, List.extract_toArray])
   exact ⟨by rw [show r = _ from hr]; rfl, Az8 l07 h0rb⟩
def Ax0 := And.intro (fun H => Aqq (H := H) Tryz.underlying28 rfl Tryz.sizeOf28) (And.intro (fun H => Aqg (H := H) Tryz.underlying3 rfl) (And.intro @Bza (And.intro @Bku (And.intro (fun H => Aqd (H := H) Tryz.underlying28 (i := 0) rfl (off := 0) rfl Tryz.sizeOf3) (And.intro (fun H => Aqv (H := H) (P := Tryz.prog) (h := Tryz.zeroValue3)) (And.intro (fun H => Axh (H := H) Tryz.sizeOf3) (And.intro @Czt (And.intro @Czu (And.intro (fun H => Aq7 (H := H) Tryz.underlying97) (And.intro (fun H => Aqu (H := H) Tryz.underlying97 Tryz.sizeOf96) (And.intro (fun H => Aqq (H := H) Tryz.underlying96 rfl Tryz.sizeOf96) (And.intro (fun H => Aqv (H := H) (P := Tryz.prog) (h := Tryz.zeroValue96)) (And.intro (fun H => Aqs (H := H) Tryz.sizeOf96) (And.intro (fun H => Aqd (H := H) Tryz.underlying96 (i := 0) rfl (off := 0) rfl Tryz.sizeOf89) (And.intro (fun H => Aqg (H := H) Tryz.underlying89 rfl) @Bk9)))))))))))))))
def Bvt := And.intro (fun H => Aqg (H := H) Tryz.underlying3 rfl) (And.intro (fun H => Aqd (H := H) Tryz.underlying94 (i := 0) rfl (off := 0) rfl Tryz.sizeOf92) (And.intro (fun H => Aq4 (H := H) Tryz.underlying92 Tryz.sizeOf91) (fun H => Aqd (H := H) Tryz.underlying91 (i := 0) rfl (off := 0) rfl Tryz.sizeOf3)))
def Bvu := And.intro (fun H => Aqg (H := H) Tryz.underlying3 rfl) (And.intro (fun H => Aqd (H := H) Tryz.underlying94 (i := 0) rfl (off := 0) rfl Tryz.sizeOf92) (And.intro (fun H => Aq4 (H := H) Tryz.underlying92 Tryz.sizeOf91) (fun H => Aqd (H := H) Tryz.underlying91 (i := 1) rfl (off := 1) rfl Tryz.sizeOf3)))
theorem Cq0 (main : Md) (H : Hp) (pb hb : Nat) (p hour : Int) (h0 : 0 <= p) (h1 : p < 6) (x : Hint) (hx : Axq x) (q1 q2 : Bool) (f1 f2 : Nat × Nat) (vp : H pb = some (q1, .cells #[.int .i64 p] 3 f1)) (vh : H hb = some (q2, .cells #[.int .i64 hour] 3 f2)) :
  FnX Tryz.prog main 49 #[.agg (Axx x).toArray, .pointer (some ⟨pb, 0, none⟩), .pointer (some ⟨hb, 0, none⟩)] H fun e H' => e = .returned (.bool (decide ((gB x p).lo <= hour))) /\ H.le H' := by
 have hl := Ax1 hx
 have hex := Ak2 hx
 obtain ⟨hb1, hb2, _⟩ := Bqb hx (Cxw hx h0 h1)
 generalize gB x p = g at *
 generalize Axx x = HC at *
 refine Aqn Tryz.func49 rfl Tryz.ntmps49 (by simp) ?_
 (refine @unH _ (zA Bvt ?_); (repeat refine inC fun hc => ?_); try refine inK fun K hK => ?_)
 (intro xb hxb; generalize hG : Hp.set _ xb _ = H1; have lH1 := Aqc hG hxb; have vxb := Aqb hG; clear hG)
 have vp1 := lH1 _ _ vp
 have vh1 := lH1 _ _ vh
 ((try refine @unH _ (zX Bvt ?_)); (try (refine hK _ _ ?_; clear hK K; try refine @unH _ (zQ ?_))); refine @unH _ (zA Bvt ?_); (repeat refine inC fun hc => ?_); try refine inK fun K hK => ?_)
 (refine Ake 8 [(true, 0), (true, 1), (true, 2), (true, 3), (true, 4), (true, 5), (true, 6), (true, 7)] (by kernel_rfl) (by kernel_rfl) (by simp) (by kernel_rfl) ?_; intro K hK; (iterate 8 (refine @unH _ ?_; refine z3 Bvt ?_)); refine Ak3 (hK _ _ ?_); clear hK K; (try refine @unH _ (zQ ?_)))
 (refine @unH _ ?_; refine z9 Tryz.results49 ?_)
 exact ⟨trivial, lH1⟩
theorem Cq1 (main : Md) (H : Hp) (pb hb : Nat) (p hour : Int) (h0 : 0 <= p) (h1 : p < 6) (x : Hint) (hx : Axq x) (q1 q2 : Bool) (f1 f2 : Nat × Nat) (vp : H pb = some (q1, .cells #[.int .i64 p] 3 f1)) (vh : H hb = some (q2, .cells #[.int .i64 hour] 3 f2)) :
  FnX Tryz.prog main 50 #[.agg (Axx x).toArray, .pointer (some ⟨pb, 0, none⟩), .pointer (some ⟨hb, 0, none⟩)] H fun e H' => e = .returned (.bool (decide (hour < (gB x p).hi))) /\ H.le H' := by
 have hl := Ax1 hx
 have hex := Ak2 hx
 obtain ⟨hb1, hb2, _⟩ := Bqb hx (Cxw hx h0 h1)
 generalize gB x p = g at *
 generalize Axx x = HC at *
 refine Aqn Tryz.func50 rfl Tryz.ntmps50 (by simp) ?_
 (refine @unH _ (zA Bvu ?_); (repeat refine inC fun hc => ?_); try refine inK fun K hK => ?_)
 (intro xb hxb; generalize hG : Hp.set _ xb _ = H1; have lH1 := Aqc hG hxb; have vxb := Aqb hG; clear hG)
 have vp1 := lH1 _ _ vp
 have vh1 := lH1 _ _ vh
 ((try refine @unH _ (zX Bvu ?_)); (try (refine hK _ _ ?_; clear hK K; try refine @unH _ (zQ ?_))); refine @unH _ (zA Bvu ?_); (repeat refine inC fun hc => ?_); try refine inK fun K hK => ?_)
 (refine Ake 8 [(true, 0), (true, 1), (true, 2), (true, 3), (true, 4), (true, 5), (true, 6), (true, 7)] (by kernel_rfl) (by kernel_rfl) (by simp) (by kernel_rfl) ?_; intro K hK; (iterate 8 (refine @unH _ ?_; refine z3 Bvu ?_)); refine Ak3 (hK _ _ ?_); clear hK K; (try refine @unH _ (zQ ?_)))
 (refine @unH _ ?_; refine z9 Tryz.results50 ?_)
 exact ⟨trivial, lH1⟩
def sq1 (p hour : Int) (x : Hint) : Bool := decide ((gB x p).lo <= hour)
def sq2 (p hour : Int) (x : Hint) : Bool := decide (hour < (gB x p).hi)
theorem Dvh (main : Md) (H : Hp) (pb hb : Nat) (p hour : Int) (h0 : 0 <= p) (h1 : p < 6) (vp : H pb = some (true, .cells #[.int .i64 p] 3 (0, 0))) (vh : H hb = some (true, .cells #[.int .i64 hour] 3 (0, 0))) :
  IsF Tryz.prog main H (.func (.func 49) #[] #[.pointer (some ⟨pb, 0, none⟩), .pointer (some ⟨hb, 0, none⟩)]) (sq1 p hour) := fun H' x hl hx =>
 Ajx.fn (fun _ _ => Dzt _) (Cq0 main H' pb hb p hour h0 h1 x hx _ _ _ _ (hl _ _ vp) (hl _ _ vh))
theorem Dvi (main : Md) (H : Hp) (pb hb : Nat) (p hour : Int) (h0 : 0 <= p) (h1 : p < 6) (vp : H pb = some (true, .cells #[.int .i64 p] 3 (0, 0))) (vh : H hb = some (true, .cells #[.int .i64 hour] 3 (0, 0))) :
  IsF Tryz.prog main H (.func (.func 50) #[] #[.pointer (some ⟨pb, 0, none⟩), .pointer (some ⟨hb, 0, none⟩)]) (sq2 p hour) := fun H' x hl hx =>
 Ajx.fn (fun _ _ => Dzu _) (Cq1 main H' pb hb p hour h0 h1 x hx _ _ _ _ (hl _ _ vp) (hl _ _ vh))
theorem Djo (f g : Fn) (x y u w : Array Value) : Instr.fill (fun i => some (i * 1, 1)) ((Array.range (2 * 1)).map fun x => (Value.agg #[Value.nilFunc]).cells[x % (Value.agg #[Value.nilFunc]).cells.size]!) [(0, .agg #[.func f x u]), (1, .agg #[.func g y w])] = some #[.func f x u, .func g y w] := by
 kernel_rfl
theorem Cxm {H : Hp} (f g : Fn) (x y : Array Value) (u w : Array Value) (K : Value -> Hp -> Prop) (E : Value -> Hp -> Prop) :
  wpS Tryz.prog (Instr.buildSlice 97 2 #[(0, .agg #[.func f x u]), (1, .agg #[.func g y w])]) H K E = ∀ nb, H nb = none -> K (.slice (some ⟨nb, 0, none⟩) 2 2) (H.set nb (.cells #[.func f x u, .func g y w] 96 (0, 0))) := by
 unfold Instr.buildSlice
 have hn1 : ¬ 2 * 1 > 2 ^ 24 := by decide
 have hn2 : ¬ 2 * 1 = 0 := by decide
 simp only [Aqa, Aqj Tryz.underlying97, Aq0 Tryz.sizeOf96, hn1, hn2, if_false, Axf Tryz.zeroValue96, Aqe]
 rw [Djo]
 simp only [newRow, newObj, Aqa, wpS, Aqe]
def snW (L : List (Int × Int × Hint)) (hour : Int) (k : Nat) : Nat := max (cntL (sq1 k hour) L) (cntL (sq2 k hour) L)
def snS (L : List (Int × Int × Hint)) (hour : Int) (n : Nat) : Nat -> Int × Nat
 | 0 => (-1, n)
 | k + 1 => if snW L hour k < (snS L hour n k).2 then ((k : Int), snW L hour k) else snS L hour n k
def snE (s : Sm) (hour : Int) : Int × Int × Int := if begE s [] hour = 0 then (if (snS (susp s) hour (Azk s) s.places.toNat).1 < 0 then (0, 0, 11) else ((snS (susp s) hour (Azk s) s.places.toNat).1, ((snS (susp s) hour (Azk s) s.places.toNat).2 : Int), 0)) else (0, 0, begE s [] hour)
theorem Cqw (H : Hp) (s : Sm) (dv hv nv : Value) (hs : SmIn H dv hv nv s) (ok : SmOk s) (h : Int) :
  FnX Tryz.prog (.wg Tryz.prog) 16 #[smV s.places dv hv nv, .int .i64 h] H fun e H' => e = .returned (.tuple #[.int .i64 (snE s h).1, .int .i64 (snE s h).2.1, .int .i64 (snE s h).2.2]) /\ H.le H' := by
 obtain ⟨da, dc, ha, kc, na, nc, rfl, rfl, rfl, l1, l2, l3⟩ := hs.forms
 have hbeg := fun H dv hv nv (hs : SmIn H dv hv nv s) => Akq H s dv hv nv hs ok h _ [] (nilS H) (by simp)
 have hr0 : begE s [] h = 0 -> snE s h = (if (snS (susp s) h (Azk s) s.places.toNat).1 < 0 then (0, 0, 11) else ((snS (susp s) h (Azk s) s.places.toNat).1, ((snS (susp s) h (Azk s) s.places.toNat).2 : Int), 0)) := fun e => if_pos e
 have hr1 : begE s [] h ≠ 0 -> snE s h = (0, 0, begE s [] h) := fun e => if_neg e
 generalize begE s [] h = z at *
 generalize snE s h = r at *
 replace hbeg : Aqk _ := hbeg
 replace hr0 : Aqk _ := hr0
 replace hr1 : Aqk _ := hr1
 have q0 := ok.p0
 have q6 := ok.p1
 refine Aqn Tryz.func16 rfl Tryz.ntmps16 (by simp) ?_
 (refine @unH _ (zA Ax0 ?_); (repeat refine inC fun hc => ?_); try refine inK fun K hK => ?_)
 (intro sb hsb ub hub; replace hub : (Hp.set _ sb _) ub = none := hub; generalize hG : Hp.set _ sb _ = H1 at hub ⊢; have lH1 := Aqc hG hsb; have wsb := Aqb hG; clear hG; generalize hG : Hp.set _ ub _ = H2; have lH2 := Aqc hG hub; have vub := Aqb hG; have vsb := lH2 _ _ wsb; have nsbub := Aqr wsb hub; clear hG wsb)
 have hs2 := hs.le (Hp.le_trans lH1 lH2)
 have l02 := Hp.le_trans lH1 lH2
 clear hsb hub hs lH1 lH2
 ((try refine @unH _ (zX Ax0 ?_)); (try (refine hK _ _ ?_; clear hK K; try refine @unH _ (zQ ?_))); refine @unH _ (zA Ax0 ?_); (repeat refine inC fun hc => ?_); try refine inK fun K hK => ?_)
 refine ((show ∀ H dv hv nv (hs : SmIn H dv hv nv s), _ from hbeg) H2 _ _ _ hs2).runs.mono ?_
 clear hbeg
 rintro _ H3 ⟨v, rfl, lH3, hv, _⟩
 have l03 := Hp.le_trans l02 lH3
 have vs3 := lH3 _ _ vsb
 have vu3 := lH3 _ _ vub
 clear l02 lH3 vsb vub hs2
 by_cases hz : z = 0
 ·subst hz
  replace hv := hv (.inl rfl)
  replace hr0 := hr0 rfl
  replace hr0 : Aqk _ := hr0
  clear hr1
  ((try refine @unH _ (zX Ax0 ?_)); (try (refine hK _ _ ?_; clear hK K; try refine @unH _ (zQ ?_))); refine @unH _ (zA Ax0 ?_); (repeat refine inC fun hc => ?_); try refine inK fun K hK => ?_)
  refine (Aww _ H3 s ok v hv).runs.mono ?_
  rintro _ H4 ⟨rfl, lH4⟩
  have l04 := Hp.le_trans l03 lH4
  have vs4 := lH4 _ _ vs3
  have vu4 := lH4 _ _ vu3
  have hv4 := hv.le lH4
  clear hv l03 lH4 vs3 vu3
  have hnl : Azk s <= 1000 := by
   have h1 := Bz3 (Axo s) (Akk ok)
   have h2 := Ajf s
   have h3 := ok.h1
   rw [Bqg]
   show (Az5 (Axo s)).length <= 1000
   omega
  have hpl : ((s.places.toNat : Nat) : Int) = s.places := by omega
  have hok := Akk ok
  have hln : (Axo s).length <= 1000 := by rw [Ajf]; have := ok.h1; omega
  have hsu : Az5 (Axo s) = susp s := rfl
  clear ok
  generalize Azk s = N at *
  generalize susp s = SS at *
  generalize Axo s = TT at *
  replace hsu : Aqk _ := hsu
  replace hok : Aqk _ := hok
  ((try refine @unH _ (zX Ax0 ?_)); (try (refine hK _ _ ?_; clear hK K; try refine @unH _ (zQ ?_))); refine @unH _ (zA Ax0 ?_); (repeat refine inC fun hc => ?_); try refine inK fun K hK => ?_)
  refine Axg (fun w a' H' => ∃ e, ∃ k : Nat, w = 6 - k /\ k <= s.places.toNat /\ a' = act 55 e [] /\ e 3 = .pointer (some ⟨ub, 0, none⟩) /\ e 7 = v /\ e 4 = .int .i64 (snS SS h N k).1 /\ e 5 = .int .i64 ((snS SS h N k).2 : Nat) /\ e 24 = .int .i64 s.places /\ e 25 = .int .i64 (k : Nat) /\ H.le H' /\ SlT H' v TT /\ H' ub = some (true, .cells #[.int .i64 h] 3 (0, 0))) (n := 6) ?_ ?_
  ·exact ⟨_, 0, by omega, by omega, rfl, rfl, rfl, rfl, rfl, rfl, rfl, l04, hv4, vu4⟩
  clear hv4 l04 vs4 vu4
  rintro w a' H5 ⟨e, k, rfl, hk, rfl, e3, e7, e4, e5, e24, e25, l05, hv5, vu5⟩
  by_cases hlt : k < s.places.toNat
  ·(refine @unH _ (zA Ax0 ?_); (repeat refine inC fun hc => ?_); try refine inK fun K hK => ?_)
   intro pb hpb
   ((try refine @unH _ (zX (And.intro Ax0 @Cxm) ?_)); (try (refine hK _ _ ?_; clear hK K; try refine @unH _ (zQ ?_))); refine @unH _ (zA (And.intro Ax0 @Cxm) ?_); (repeat refine inC fun hc => ?_); try refine inK fun K hK => ?_)
   intro ab hab
   replace hab : (Hp.set H5 pb _) ab = none := hab
   generalize hG : Hp.set H5 pb _ = H6 at hab ⊢
   have l06 := Hp.le_trans l05 (Aqc hG hpb)
   have vp6 := Aqb hG
   have vu6 := (Aqc hG hpb) _ _ vu5
   have hv6 := hv5.le (Aqc hG hpb)
   clear hG hpb l05 vu5 hv5
   replace vp6 : H6 pb = some (true, .cells #[.int .i64 (k : Nat)] 3 (0, 0)) := vp6
   generalize hG : Hp.set H6 ab _ = H7
   have lH7 := Aqc hG hab
   have va7 := Aqb hG
   have vp7 := lH7 _ _ vp6
   have vu7 := lH7 _ _ vu6
   have hv7 := hv6.le lH7
   have l07 := Hp.le_trans l06 lH7
   clear hG hab l06 vu6 hv6 vp6 lH7
   refine hK _ _ ?_
   clear hK K
   (try refine @unH _ (zQ ?_))
   (refine @unH _ (zA Ax0 ?_); (repeat refine inC fun hc => ?_); try refine inK fun K hK => ?_)
   obtain ⟨c1, hc1⟩ : ∃ c1, c1 = cntL (sq1 k h) SS := ⟨_, rfl⟩
   obtain ⟨c2, hc2⟩ : ∃ c2, c2 = cntL (sq2 k h) SS := ⟨_, rfl⟩
   have hn1 : snW SS h k = max c1 c2 := by rw [hc1, hc2]; rfl
   have hsn : snS SS h N (k + 1) = if snW SS h k < (snS SS h N k).2 then ((k : Int), snW SS h k) else snS SS h N k := rfl
   rw [hn1] at hsn
   clear hn1
   generalize snS SS h N k = w at *
   obtain ⟨wb, wm⟩ := w
   replace hsn : Aqk _ := hsn
   replace hc1 : Aqk _ := hc1
   replace hc2 : Aqk _ := hc2
   refine Axg (fun w a' H' => ∃ e, ∃ j : Nat, w = 2 - j /\ j <= 2 /\ a' = act 55 e [] /\ e 3 = .pointer (some ⟨ub, 0, none⟩) /\ e 7 = v /\ e 4 = .int .i64 wb /\ e 5 = .int .i64 (wm : Nat) /\ e 8 = .pointer (some ⟨pb, 0, none⟩) /\ e 24 = .int .i64 s.places /\ e 25 = .int .i64 (k : Nat) /\ e 9 = .int .i64 ((if j = 0 then 0 else if j = 1 then c1 else max c1 c2 : Nat) : Int) /\ e 32 = .slice (some ⟨ab, 0, none⟩) 2 2 /\ e 33 = .int .i64 (2 : Nat) /\ e 34 = .int .i64 (j : Nat) /\ H.le H' /\ SlT H' v TT /\ H' ub = some (true, .cells #[.int .i64 h] 3 (0, 0)) /\ H' pb = some (true, .cells #[.int .i64 (k : Nat)] 3 (0, 0)) /\ H' ab = some (true, .cells #[.func (.func 49) #[] #[.pointer (some ⟨pb, 0, none⟩), .pointer (some ⟨ub, 0, none⟩)], .func (.func 50) #[] #[.pointer (some ⟨pb, 0, none⟩), .pointer (some ⟨ub, 0, none⟩)]] 96 (0, 0))) (n := 2) ?_ ?_
   ·exact ⟨_, 0, by omega, by omega, rfl, e3, e7, e4, e5, rfl, e24, e25, rfl, rfl, rfl, rfl, l07, hv7, vu7, vp7, va7⟩
   clear l07 hv7 vu7 vp7 va7 e3 e7 e4 e5 e24 e25
   rintro w a' H8 ⟨e, j, rfl, hj, rfl, e3, e7, e4, e5, e8, e24, e25, e9, e32, e33, e34, l08, hv8, vu8, vp8, va8⟩
   rcases (by omega : j = 0 ∨ j = 1 ∨ j = 2) with rfl | rfl | rfl
   ·simp only [if_true] at e9
    (refine @unH _ (zA Ax0 ?_); (repeat refine inC fun hc => ?_); try refine inK fun K hK => ?_)
    (intro tb htb; generalize hG : Hp.set _ tb _ = H9; have lH9 := Aqc hG htb; have vtb := Aqb hG; clear hG)
    have l09 := Hp.le_trans l08 lH9
    have hv9 := hv8.le lH9
    have vu9 := lH9 _ _ vu8
    have vp9 := lH9 _ _ vp8
    have va9 := lH9 _ _ va8
    clear lH9 htb l08 hv8 vu8 vp8 va8
    ((try refine @unH _ (zX Ax0 ?_)); (try (refine hK _ _ ?_; clear hK K; try refine @unH _ (zQ ?_))); refine @unH _ (zA Ax0 ?_); (repeat refine inC fun hc => ?_); try refine inK fun K hK => ?_)
    refine (Awh _ H9 v TT hv9 hok hln _ _ _ (sq1 k h) (Dvh _ H9 pb ub k h (by omega) (by omega) vp9 vu9)).runs.mono ?_
    rintro _ H10 ⟨rfl, lH10⟩
    rw [show Az5 TT = SS from hsu, show cntL (sq1 k h) SS = c1 from Eq.symm hc1]
    have l10 := Hp.le_trans l09 lH10
    have hv10 := hv9.le lH10
    have vu10 := lH10 _ _ vu9
    have vp10 := lH10 _ _ vp9
    have va10 := lH10 _ _ va9
    clear l09 hv9 vu9 vp9 va9 lH10 vtb
    ((try refine @unH _ (zX Ax0 ?_)); (try (refine hK _ _ ?_; clear hK K; try refine @unH _ (zQ ?_))); refine @unH _ (zA Ax0 ?_); (repeat refine inC fun hc => ?_); try refine inK fun K hK => ?_)
    exact ⟨_, by omega, _, 1, rfl, by omega, rfl, e3, e7, e4, e5, e8, e24, e25, congrArg (Value.int .i64) (by simp only [Nat.one_ne_zero, if_true, if_false]; split <;> omega), e32, e33, rfl, l10, hv10, vu10, vp10, va10⟩
   ·simp only [Nat.one_ne_zero, if_true, if_false] at e9
    (refine @unH _ (zA Ax0 ?_); (repeat refine inC fun hc => ?_); try refine inK fun K hK => ?_)
    (intro tb htb; generalize hG : Hp.set _ tb _ = H9; have lH9 := Aqc hG htb; have vtb := Aqb hG; clear hG)
    have l09 := Hp.le_trans l08 lH9
    have hv9 := hv8.le lH9
    have vu9 := lH9 _ _ vu8
    have vp9 := lH9 _ _ vp8
    have va9 := lH9 _ _ va8
    clear lH9 htb l08 hv8 vu8 vp8 va8
    ((try refine @unH _ (zX Ax0 ?_)); (try (refine hK _ _ ?_; clear hK K; try refine @unH _ (zQ ?_))); refine @unH _ (zA Ax0 ?_); (repeat refine inC fun hc => ?_); try refine inK fun K hK => ?_)
    refine (Awh _ H9 v TT hv9 hok hln _ _ _ (sq2 k h) (Dvi _ H9 pb ub k h (by omega) (by omega) vp9 vu9)).runs.mono ?_
    rintro _ H10 ⟨rfl, lH10⟩
    rw [show Az5 TT = SS from hsu, show cntL (sq2 k h) SS = c2 from Eq.symm hc2]
    have l10 := Hp.le_trans l09 lH10
    have hv10 := hv9.le lH10
    have vu10 := lH10 _ _ vu9
    have vp10 := lH10 _ _ vp9
    have va10 := lH10 _ _ va9
    clear l09 hv9 vu9 vp9 va9 lH10 vtb
    ((try refine @unH _ (zX Ax0 ?_)); (try (refine hK _ _ ?_; clear hK K; try refine @unH _ (zQ ?_))); refine @unH _ (zA Ax0 ?_); (repeat refine inC fun hc => ?_); try refine inK fun K hK => ?_)
    exact ⟨_, by omega, _, 2, rfl, by omega, rfl, e3, e7, e4, e5, e8, e24, e25, congrArg (Value.int .i64) (by simp only [show ¬ (2 : Nat) = 0 by decide, show ¬ (2 : Nat) = 1 by decide, if_true, if_false]; split <;> omega), e32, e33, rfl, l10, hv10, vu10, vp10, va10⟩
   ·simp only [show ¬ (2 : Nat) = 0 by decide, show ¬ (2 : Nat) = 1 by decide, if_false] at e9
    by_cases hb : max c1 c2 < wm
    ·replace hsn : Aqk (snS SS h N (k + 1) = ((k : Int), max c1 c2)) := Eq.trans (show snS SS h N (k + 1) = _ from hsn) (if_pos hb)
     generalize max c1 c2 = mm at *
     (refine @unH _ (zA Ax0 ?_); (repeat refine inC fun hc => ?_); try refine inK fun K hK => ?_)
     exact ⟨_, by omega, _, k + 1, rfl, by omega, rfl, e3, e7, by rw [show snS SS h N (k + 1) = _ from hsn]; rfl, by rw [show snS SS h N (k + 1) = _ from hsn]; rfl, e24, rfl, l08, hv8, vu8⟩
    ·replace hsn : Aqk (snS SS h N (k + 1) = (wb, wm)) := Eq.trans (show snS SS h N (k + 1) = _ from hsn) (if_neg hb)
     generalize max c1 c2 = mm at *
     (refine @unH _ (zA Ax0 ?_); (repeat refine inC fun hc => ?_); try refine inK fun K hK => ?_)
     exact ⟨_, by omega, _, k + 1, rfl, by omega, rfl, e3, e7, by rw [show snS SS h N (k + 1) = _ from hsn]; exact e4, by rw [show snS SS h N (k + 1) = _ from hsn]; exact e5, e24, rfl, l08, hv8, vu8⟩
  ·obtain rfl : k = s.places.toNat := by omega
   generalize snS SS h N s.places.toNat = w at *
   obtain ⟨b, m⟩ := w
   by_cases hb : b < 0
   ·replace hr0 : Aqk (r = (0, 0, 11)) := Eq.trans (show r = _ from hr0) (if_pos hb)
    (refine @unH _ (zA Ax0 ?_); (repeat refine inC fun hc => ?_); try refine inK fun K hK => ?_)
    (refine @unH _ ?_; refine zC Tryz.results16 ?_)
    exact ⟨by rw [show r = _ from hr0], l05⟩
   ·replace hr0 : Aqk (r = (b, (m : Int), 0)) := Eq.trans (show r = _ from hr0) (if_neg hb)
    (refine @unH _ (zA Ax0 ?_); (repeat refine inC fun hc => ?_); try refine inK fun K hK => ?_)
    (refine @unH _ ?_; refine zC Tryz.results16 ?_)
    exact ⟨by rw [show r = _ from hr0], l05⟩
 ·replace hr1 := hr1 hz
  replace hr1 : Aqk _ := hr1
  clear hv hr0
  ((try refine @unH _ (zX Ax0 ?_)); (try (refine hK _ _ ?_; clear hK K; try refine @unH _ (zQ ?_))); refine @unH _ (zA Ax0 ?_); (repeat refine inC fun hc => ?_); try refine inK fun K hK => ?_)
  (refine @unH _ ?_; refine zC Tryz.results16 ?_)
  exact ⟨by rw [show r = _ from hr1], l03⟩
end Go.Proofs.YtkcomnkgdifboaaGreatDoor
end
