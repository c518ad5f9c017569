/- Texts SmL SmV SmO SmO2 SmQ SmR. -/
import Derived.Test.YtnfnaehonkbknaaGreatDoorJ18
set_option linter.defProp false
set_option linter.unusedSimpArgs false
set_option linter.unusedVariables false
set_option maxRecDepth 100000
set_option maxHeartbeats 2000000
section
namespace Go.Proofs.YtnfnaehonkbknaaGreatDoor
open Go Go.X Go.Proofs.Tryz
def Bxl := aN @Eq4 (aN @Aza (aN @Ayr (aN @Cvx @Cvy)))
def Bjx := aN @Exy (aN @Bq1 (aN (fun H => Aqo (H := H) underlying87 rfl sizeOf87) (fun H => Aqr (H := H) sizeOf87)))
def Bxn := aN @Eqk (aN @Eqy @Eql)
def Bwk := aN @Eqy (aN @Eqn (aN @Dyt (aN @Eqk (aN @Bvj @Eql))))
def gB (x : Hint) (p : Int) : Bd := x.bs.getD p.toNat bd0
theorem Czw {x : Hint} (h : Axq x) {p : Int} (h0 : 0 <= p) (h1 : p < 6) : x.bs[p.toNat]? = some (gB x p) := by
 unfold gB
 rw [List.getD, List.getElem?_eq_getElem (by rw [h.b]; omega)]
 rfl
abbrev bdO (b : Bd) : Obj := .cells #[.int .i64 b.lo, .int .i64 b.hi, .bool b.some] 87 (0, 0)
theorem Dqk (b : Bd) : BdC #[.int .i64 b.lo, .int .i64 b.hi, .bool b.some] 0 b := ⟨rfl, rfl, rfl⟩
theorem Cjp (b b' : Bd) : Bjz #[.int .i64 b.lo, .int .i64 b.hi, .bool b.some] 0 b' = #[.int .i64 b'.lo, .int .i64 b'.hi, .bool b'.some] := by simp [Bjz]
theorem Avn (main : Md) (H : Hp) (bb : Nat) (b : Bd) (x : Int) (vb : H bb = some (true, bdO b)) :
  FnX Tryz.prog main 46 #[.pointer (some ⟨bb, 0, none⟩), .int .i64 x] H fun e' H' => e' = .returned (.tuple #[]) /\ H' bb = some (true, bdO (Ax9 b x)) /\ ∀ y, y ≠ bb -> H' y = H y :=
 (Byo main H bb 0 b x _ _ vb (Dqk b)).mono fun e H' ⟨h1, h2, h3⟩ => ⟨h1, by rw [h2, Cjp], h3⟩
def arrF (p : Int) (b : Bd) (x : Int × Int × Hint) : Bd := Ax9 (Ax9 b (gB x.2.2 p).lo) (gB x.2.2 p).hi
theorem Bvb (main : Md) (H : Hp) (ob pb : Nat) (p : Int) (h0 : 0 <= p) (h1 : p < 6) (ham hour : Int) (x : Hint) (hx : Axq x) (b : Bd) (vo : H ob = some (true, bdO b)) (vp : H pb = some (true, .cells #[.int .i64 p] 3 (0, 0))) (hne : pb ≠ ob) :
  FnX Tryz.prog main 72 #[.int .i64 ham, .int .i64 hour, .agg (Axu x).toArray, .pointer (some ⟨ob, 0, none⟩), .pointer (some ⟨pb, 0, none⟩)] H fun e H' => e = .returned (.tuple #[]) /\ H' ob = some (true, bdO (arrF p b (ham, hour, x))) /\ ∀ b x, b ≠ ob -> H b = some x -> H' b = some x := by
 have hl := Ax0 hx
 have hex := Ak7 hx
 have hbd := Bqj hx (Czw hx h0 h1)
 obtain ⟨hb1, hb2, _⟩ := hbd
 unfold arrF
 simp only
 generalize gB x p = g at *
 generalize Axu x = HC at *
 refine Aql func72 rfl ntmps72 (by simp) ?_
 (refine @unH _ (zA Bwk ?_); (try clear hK K); intro K hK hc)
 (intro b hb; generalize hG : Hp.set _ b _ = H1; have lH1 := Aqc hG hb; have vb := Aqb hG; clear hG)
 have vo1 := lH1 _ _ vo
 have vp1 := lH1 _ _ vp
 (refine @unH _ (zU Bwk ?_); (try clear hK K); intro K hK hc)
 refine (Avn main H1 ob _ g.lo vo1).runs.mono ?_
 rintro _ H2 ⟨rfl, h21, h22⟩
 have nob : b ≠ ob := fun e => by rw [e, vo] at hb; cases hb
 have vp2 := (h22 pb hne).trans vp1
 have vb2 := (h22 b nob).trans vb
 have hf2 : ∀ c z, c ≠ ob -> H c = some z -> H2 c = some z := fun c z hc hz => (h22 c hc).trans (lH1 _ _ hz)
 clear vo1 vp1 vb h22 lH1
 (refine @unH _ (zU Bwk ?_); (try clear hK K); intro K hK hc)
 refine (Avn main H2 ob _ g.hi h21).runs.mono ?_
 rintro _ H3 ⟨rfl, h31, h32⟩
 (refine @unH _ (zU Bwk ?_); (try clear hK K); intro K hK hc)
 (refine @unH _ ?_; refine zD results72 ?_)
 exact ⟨rfl, h31, fun c z hc hz => (h32 c hc).trans (hf2 c z hc hz)⟩
def arrL (L : List (Int × Int × Hint)) (p : Int) : Bd := L.foldl (arrF p) bd0
theorem Cvk (L : List (Int × Int × Hint)) (p : Int) (x : Int × Int × Hint) : arrL (L ++ [x]) p = arrF p (arrL L p) x := by simp [arrL]
theorem Bxr (main : Md) (H : Hp) (v : Value) (l : List Trail) (hv : SlT H v l) (hok : ∀ t ∈ l, Ax2 t) (hl : l.length <= 1000) (p : Int) (h0 : 0 <= p) (h1 : p < 6) :
  FnX Tryz.prog main 48 #[v, .int .i64 p] H fun e H' => e = .returned (.agg #[.int .i64 (arrL (Azv l) p).lo, .int .i64 (arrL (Azv l) p).hi, .bool (arrL (Azv l) p).some]) /\ H.le H' := by
 obtain ⟨a, cap, rfl, hcap⟩ := hv.isSlice
 refine Aql func48 rfl ntmps48 (by simp) ?_
 (refine @unH _ (zA Bjx ?_); (try clear hK K); intro K hK hc)
 (intro pb hpb rb hrb; replace hrb : (Hp.set _ pb _) rb = none := hrb; generalize hG : Hp.set _ pb _ = H1 at hrb ⊢; have lH1 := Aqc hG hpb; have wpb := Aqb hG; clear hG; generalize hG : Hp.set _ rb _ = H2; have lH2 := Aqc hG hrb; have vrb := Aqb hG; have vpb := lH2 _ _ wpb; have npbrb := Aqq wpb hrb; clear hG wpb)
 have l02 := Hp.le_trans lH1 lH2
 have hv2 := hv.le l02
 have h0rb := Hp.le_none lH1 hrb
 clear lH1 lH2 hpb
 (refine @unH _ (zU Bjx ?_); (try clear hK K); intro K hK hc)
 intro ob hob
 have nob := Aqq vpb hob
 have nrb := Aqq vrb hob
 generalize hG : Hp.set H2 ob _ = H3
 have lH3 := Aqc hG hob
 have vo3 := Aqb hG
 have vp3 := Aqi hG vpb nob
 have vr3 := Aqi hG vrb nrb
 have h00 := Hp.le_none l02 hob
 clear hG vpb vrb
 have hone := Bz3 main (A := fun _ _ _ => True) (yf := .func 72) (yi := #[]) (yc := #[.pointer (some ⟨ob, 0, none⟩), .pointer (some ⟨pb, 0, none⟩)]) H2 H3 _ _ hv2 ob (fun L => bdO (arrL L p)) lH3 hob (by rw [vo3]; rfl) (fun L H' ham hour x g1 g2 hxo _ => by
  refine Ajp.fn (fun _ _ => Dkg _) ((Bvb main H' ob pb p h0 h1 ham hour x hxo _ g1 (g2 _ _ nob vp3) nob).mono ?_)
  rintro _ H4 ⟨rfl, h3, h4⟩
  exact ⟨rfl, by rw [h3, Cvk], h4⟩) hok (fun _ _ _ _ _ _ => trivial) hl
 (refine @unH _ (zU Bjx ?_); (try clear hK K); intro K hK hc)
 refine hone.runs.mono ?_
 clear hone
 rintro _ H4 ⟨rfl, h3, h4⟩
 have l04 : H.le H4 := fun b x hx => h4 b x (fun e => by rw [e, h00] at hx; cases hx) (lH3 _ _ (l02 _ _ hx))
 have vr4 := h4 _ _ nrb vr3
 generalize arrL (Azv l) p = w at *
 clear h4 vr3 vp3 vo3 l02 lH3 hv2
 (refine @unH _ (zU Bjx ?_); (try clear hK K); intro K hK hc)
 (refine Axs ?_; (try simp only [nq, ↓reduceIte, Nat.reduceEqDiff]); rw [Aq8, Ax3 results48 (by decide) (b := rb) (o := 0) rfl underlying87 rfl sizeOf87]; simp -implicitDefEqProofs (disch := first | omega | (simp only [qd] <;> omega)) only [xq, ↓xp, qc, Nat.reduceAdd, List.range, List.range.loop, fine, Nat.reduceEqDiff, ↓reduceIte, yielded, reduceCtorEq, Nat.reduceLT, Nat.reduceMul, Nat.reduceSub, one, Nat.reduceLeDiff, Aqg, Bjx, Axm, List.extract_toArray])
 exact fun c z hc => by rw [Aqu (fun e => by rw [e, h0rb] at hc; cases hc)]; exact l04 _ _ hc
def Av1 (b : Bd) (h : Int) : Int := if b.lo <= h /\ h < b.hi then 3 else if h < b.lo then 2 else 1
theorem Bqu (main : Md) (H : Hp) (b : Bd) (h : Int) :
  FnX Tryz.prog main 49 #[.agg #[.int .i64 b.lo, .int .i64 b.hi, .bool b.some], .int .i64 h] H fun e H' => e = .returned (.int .i64 (Av1 b h)) /\ H.le H' := by
 unfold Av1
 by_cases g1 : b.lo <= h
 ·have d1 : decide (b.lo <= h) = true := by simpa using g1
  by_cases g2 : h < b.hi
  ·have d2 : decide (h < b.hi) = true := by simpa using g2
   rw [if_pos ⟨g1, g2⟩]
   clear g1 g2
   refine Aql func49 rfl ntmps49 (by simp) ?_
   (refine @unH _ (zA Bxn ?_); (try clear hK K); intro K hK hc)
   (intro bb hbb; generalize hG : Hp.set _ bb _ = H1; have lH1 := Aqc hG hbb; have vbb := Aqb hG; clear hG)
   (refine @unH _ (zU Bxn ?_); (try clear hK K); intro K hK hc)
   (refine @unH _ ?_; refine z9 results49 ?_)
   exact ⟨rfl, lH1⟩
  ·have d2 : decide (h < b.hi) = false := by simpa using g2
   have d3 : decide (h < b.lo) = false := by simp; omega
   rw [if_neg (fun g => g2 g.2), if_neg (by omega : ¬ h < b.lo)]
   clear g1 g2
   refine Aql func49 rfl ntmps49 (by simp) ?_
   (refine @unH _ (zA Bxn ?_); (try clear hK K); intro K hK hc)
   (intro bb hbb; generalize hG : Hp.set _ bb _ = H1; have lH1 := Aqc hG hbb; have vbb := Aqb hG; clear hG)
   (refine @unH _ (zU Bxn ?_); (try clear hK K); intro K hK hc)
   (refine @unH _ ?_; refine z9 results49 ?_)
   exact ⟨rfl, lH1⟩
 ·have d1 : decide (b.lo <= h) = false := by simpa using g1
  have d3 : decide (h < b.lo) = true := by simp; omega
  rw [if_neg (fun g => g1 g.1), if_pos (by omega)]
  clear g1
  refine Aql func49 rfl ntmps49 (by simp) ?_
  (refine @unH _ (zA Bxn ?_); (try clear hK K); intro K hK hc)
  (intro bb hbb; generalize hG : Hp.set _ bb _ = H1; have lH1 := Aqc hG hbb; have vbb := Aqb hG; clear hG)
  (refine @unH _ (zU Bxn ?_); (try clear hK K); intro K hK hc)
  (refine @unH _ ?_; refine z9 results49 ?_)
  exact ⟨rfl, lH1⟩
theorem Dwm {H : Hp} {b : Nat} {x : Int} {p : Bool} {fr : Nat × Nat} (h : H b = some (p, .cells #[.int .i64 x] 3 fr)) : SlI H (.slice (some ⟨b, 0, none⟩) 1 1) [x] := by
 refine ⟨some ⟨b, 0, none⟩, 1, rfl, Nat.le_refl _, fun i y hy => ?_⟩
 rcases i with _ | i
 ·simp only [List.getElem?_cons_zero, Option.some.injEq] at hy
  subst hy
  exact ⟨b, 0, p, _, _, rfl, h, rfl⟩
 ·simp at hy
theorem Cvm {s : Sm} (ok : SmOk s) {p h : Int} (hb : begE s [p] h = 0) : 0 <= p /\ p < 6 := by
 unfold begE at hb
 have h6 := ok.p1
 simp only [List.any_cons, List.any_nil, Bool.or_false, Bool.or_eq_true, decide_eq_true_eq] at hb
 split at hb
 ·cases hb
 ·omega
def Cy0 (s : Sm) (p h : Int) : Int := if begE s [p] h = 0 then Av1 (arrL (susp s) p) h else 0
theorem Bv6 (H : Hp) (s : Sm) (dv hv nv : Value) (hs : SmIn H dv hv nv s) (ok : SmOk s) (p h : Int) :
  FnX Tryz.prog (.wg Tryz.prog) 12 #[smV s.places dv hv nv, .int .i64 p, .int .i64 h] H fun e H' => e = .returned (.tuple #[.int .i64 (Cy0 s p h), .int .i64 (begE s [p] h)]) /\ H.le H' := by
 obtain ⟨da, dc, ha, kc, na, nc, rfl, rfl, rfl, l1, l2, l3⟩ := hs.forms
 have hpp : begE s [p] h = 0 -> 0 <= p /\ p < 6 := Cvm ok
 have hr0 : begE s [p] h = 0 -> Cy0 s p h = Av1 (arrL (susp s) p) h := fun e => if_pos e
 have hr1 : begE s [p] h ≠ 0 -> Cy0 s p h = 0 := fun e => if_neg e
 have hbeg := fun H dv hv nv (hs : SmIn H dv hv nv s) pv (hp : SlI H pv [p]) => Az4 H s dv hv nv hs ok h pv [p] hp (by simp)
 generalize begE s [p] h = z at *
 generalize Cy0 s p h = r at *
 replace hpp : Aqk _ := hpp
 replace hr0 : Aqk _ := hr0
 replace hr1 : Aqk _ := hr1
 replace hbeg : Aqk _ := hbeg
 refine Aql func12 rfl ntmps12 (by simp) ?_
 (refine @unH _ (zA Bxl ?_); (try clear hK K); intro K hK hc)
 (intro sb hsb; generalize hG : Hp.set _ sb _ = H1; have lH1 := Aqc hG hsb; have vsb := Aqb hG; clear hG)
 have hs1 := hs.le lH1
 have h0sb := hsb
 clear hsb
 (refine @unH _ (zU Bxl ?_); (try clear hK K); intro K hK hc)
 (intro pb hpb; generalize hG : Hp.set _ pb _ = H2; have lH2 := Aqc hG hpb; have vpb := Aqb hG; clear hG)
 have hs2 := hs1.le lH2
 have l02 := Hp.le_trans lH1 lH2
 have hp2 : SlI H2 (.slice (some ⟨pb, 0, none⟩) 1 1) [p] := Dwm vpb
 clear hs hs1 vsb hpb lH1 lH2 vpb
 refine ((show ∀ H dv hv nv (hs : SmIn H dv hv nv s) pv (hp : SlI H pv [p]), _ from hbeg) H2 _ _ _ hs2 _ hp2).runs.mono ?_
 clear hbeg
 rintro _ H3 ⟨v, rfl, lH3, hv, _⟩
 have l03 := Hp.le_trans l02 lH3
 clear hs2 hp2 lH3 l02 h0sb
 by_cases hz : z = 0
 ·subst hz
  replace hv := hv (.inl rfl)
  obtain ⟨p0, p1⟩ := hpp rfl
  replace hr0 : Aqk (r = Av1 (arrL (susp s) p) h) := hr0 rfl
  clear hpp hr1
  (refine @unH _ (zU Bxl ?_); (try clear hK K); intro K hK hc)
  refine (Bxr _ H3 v _ hv (Ajj ok) (by rw [Azp]; have := ok.h1; omega) p p0 p1).runs.mono ?_
  rintro _ H4 ⟨rfl, lH4⟩
  have l04 := Hp.le_trans l03 lH4
  clear l03 lH4
  rw [show arrL (Azv (Axl s)) p = arrL (susp s) p from rfl]
  generalize arrL (susp s) p = w at *
  (refine @unH _ (zU Bxl ?_); intro _ _ hc)
  refine (Bqu _ H4 w h).runs.mono ?_
  rintro _ H5 ⟨rfl, lH5⟩
  (refine @unH _ (zU Bxl ?_); (try clear hK K); intro K hK hc)
  (refine @unH _ ?_; refine zB results12 ?_)
  exact ⟨by rw [show r = _ from hr0], Hp.le_trans l04 lH5⟩
 ·replace hr1 : Aqk (r = 0) := hr1 hz
  clear hv hpp hr0
  (refine @unH _ (zU Bxl ?_); (try clear hK K); intro K hK hc)
  (refine @unH _ ?_; refine zB results12 ?_)
  exact ⟨by rw [show r = _ from hr1], l03⟩
end Go.Proofs.YtnfnaehonkbknaaGreatDoor
end
section
namespace Go.Proofs.YtnfnaehonkbknaaGreatDoor
open Go Go.X
def fitS (s : Sm) (i b : Nat) : List (List Int × List Int) := fitL s (trL s (s.hampers.getD i 0)) b
theorem Cvr (s : Sm) (L : List (List Int × List Int)) {b : Nat} (h : b < 13) : (byL s L)[b]? = some (Ayh s L (b : Int)) := by
 unfold byL
 rw [List.getElem?_map, List.getElem?_range h]
 rfl
theorem Awr (s : Sm) (i : Nat) (x : Int × Int × Hint) : x ∈ Akx (Ax6 s i) ↔ ∃ b : Nat, b < 13 /\ fitS s i b ≠ [] /\ x = ((i : Int), (b : Int), Ayh s (trL s (s.hampers.getD i 0)) (b : Int)) := by
 unfold Akx
 simp only [List.mem_map, List.mem_filter, Ax6]
 constructor
 ·rintro ⟨⟨y, b⟩, ⟨h1, h2⟩, rfl⟩
  have h3 := List.mem_zipIdx_iff_getElem?.1 h1
  simp only at h3 h2
  have hb : b < 13 := by
   have := (List.getElem?_eq_some_iff.1 h3).1
   simpa [byL] using this
  rw [Cvr s _ hb, Option.some.injEq] at h3
  subst h3
  refine ⟨b, hb, ?_, rfl⟩
  rw [Bkk] at h2
  unfold fitS
  intro h
  rw [h] at h2
  cases h2
 ·rintro ⟨b, hb, h, rfl⟩
  refine ⟨(Ayh s (trL s (s.hampers.getD i 0)) (b : Int), b), ⟨List.mem_zipIdx_iff_getElem?.2 (Cvr s _ hb), ?_⟩, rfl⟩
  simp only [Bkk]
  unfold fitS at h
  cases hL : fitL s (trL s (s.hampers.getD i 0)) (b : Int) with
  | nil => exact absurd hL h
  | cons _ _ => rfl
theorem Ajb (s : Sm) (x : Int × Int × Hint) : x ∈ susp s ↔ ∃ i b : Nat, i < s.hampers.length /\ b < 13 /\ fitS s i b ≠ [] /\ x = ((i : Int), (b : Int), Ayh s (trL s (s.hampers.getD i 0)) (b : Int)) := by
 unfold susp Azv Axl
 simp only [List.mem_flatMap, List.mem_map, List.mem_range]
 constructor
 ·rintro ⟨_, ⟨i, hi, rfl⟩, hx⟩
  obtain ⟨b, h1, h2, h3⟩ := (Awr s i x).1 hx
  exact ⟨i, b, hi, h1, h2, h3⟩
 ·rintro ⟨i, b, hi, h1, h2, h3⟩
  exact ⟨_, ⟨i, hi, rfl⟩, (Awr s i x).2 ⟨b, h1, h2, h3⟩⟩
def Bzu (s : Sm) (i b : Nat) (p : Int) : List Int := (fitS s i b).map fun tc => min 99 ((b : Int) + gI tc.2 p)
theorem Cq2 (s : Sm) (i b : Nat) {p : Int} (h0 : 0 <= p) (h1 : p < s.places) (h6 : s.places <= 6) (hne : fitS s i b ≠ []) : IsBd (Bzu s i b p) (gB (Ayh s (trL s (s.hampers.getD i 0)) (b : Int)) p) := by
 have h := Dxq s (trL s (s.hampers.getD i 0)) (b : Int) (p := p.toNat) (by omega) (by omega)
 unfold gB
 rw [List.getD, h, Option.getD_some]
 have hp : ((p.toNat : Nat) : Int) = p := by omega
 rw [hp]
 refine Bz4 ?_
 intro hm
 unfold Bzu at hm
 rw [List.map_eq_nil_iff] at hm
 exact hne hm
theorem Dkx (p : Int) : ∀ (L : List (Int × Int × Hint)) (w : Bd), L.foldl (arrF p) w = (L.flatMap fun x => [(gB x.2.2 p).lo, (gB x.2.2 p).hi]).foldl Ax9 w
 | [], _ => rfl
 | x :: L, w => by
  rw [List.foldl_cons, List.flatMap_cons, List.foldl_append, Dkx p L]
  rfl
theorem Byf {α : Type} {L : List α} {V : α -> List Int} {g : α -> Bd} (h : ∀ x ∈ L, IsBd (V x) (g x)) (hne : L ≠ []) : IsBd (L.flatMap V) ((L.flatMap fun x => [(g x).lo, (g x).hi]).foldl Ax9 bd0) := by
 have h1 : IsBd (L.flatMap fun x => [(g x).lo, (g x).hi]) ((L.flatMap fun x => [(g x).lo, (g x).hi]).foldl Ax9 bd0) := Bz4 (by
  cases L with
  | nil => exact absurd rfl hne
  | cons x L => simp)
 generalize (L.flatMap fun x => [(g x).lo, (g x).hi]).foldl Ax9 bd0 = w at *
 have key : ∀ y, y ∈ (L.flatMap fun x => [(g x).lo, (g x).hi]) -> y ∈ L.flatMap V := by
  intro y hy
  obtain ⟨x, hx, hy⟩ := List.mem_flatMap.1 hy
  simp only [List.mem_cons, List.not_mem_nil, or_false] at hy
  refine List.mem_flatMap.2 ⟨x, hx, ?_⟩
  rcases hy with rfl | rfl
  ·exact (h x hx).lo
  ·exact (h x hx).hi
 refine ⟨h1.some, fun y hy => ?_, key _ h1.lo, key _ h1.hi⟩
 obtain ⟨x, hx, hy⟩ := List.mem_flatMap.1 hy
 have h2 := (h x hx).all y hy
 have h3 := h1.all _ (List.mem_flatMap.2 ⟨x, hx, List.mem_cons_self⟩)
 have h4 := h1.all _ (List.mem_flatMap.2 ⟨x, hx, List.mem_cons_of_mem _ List.mem_cons_self⟩)
 omega
def allT (s : Sm) : List (Nat × Nat × List Int × List Int) := (List.range s.hampers.length).flatMap fun i => (List.range 13).flatMap fun b => (fitS s i b).map fun tc => (i, b, tc.1, tc.2)
theorem Ajl (s : Sm) (i b : Nat) (t c : List Int) : (i, b, t, c) ∈ allT s ↔ i < s.hampers.length /\ b < 13 /\ (t, c) ∈ fitS s i b := by
 unfold allT
 simp only [List.mem_flatMap, List.mem_range, List.mem_map, Prod.mk.injEq]
 constructor
 ·rintro ⟨i', h1, b', h2, ⟨t', c'⟩, h3, rfl, rfl, rfl, rfl⟩
  exact ⟨h1, h2, h3⟩
 ·rintro ⟨h1, h2, h3⟩
  exact ⟨i, h1, b, h2, (t, c), h3, rfl, rfl, rfl, rfl⟩
theorem Dzk (s : Sm) : susp s = [] ↔ allT s = [] := by
 constructor
 ·intro h
  rw [List.eq_nil_iff_forall_not_mem]
  rintro ⟨i, b, t, c⟩ hx
  obtain ⟨h1, h2, h3⟩ := (Ajl s i b t c).1 hx
  have : ((i : Int), (b : Int), Ayh s (trL s (s.hampers.getD i 0)) (b : Int)) ∈ susp s := (Ajb s _).2 ⟨i, b, h1, h2, List.ne_nil_of_mem h3, rfl⟩
  rw [h] at this
  cases this
 ·intro h
  rw [List.eq_nil_iff_forall_not_mem]
  intro x hx
  obtain ⟨i, b, h1, h2, h3, rfl⟩ := (Ajb s x).1 hx
  obtain ⟨⟨t, c⟩, h4⟩ := List.exists_mem_of_ne_nil _ h3
  have := (Ajl s i b t c).2 ⟨h1, h2, h4⟩
  rw [h] at this
  cases this
theorem Bzm {s : Sm} (ok : SmOk s) {p : Int} (h0 : 0 <= p) (h1 : p < s.places) (hne : susp s ≠ []) : IsBd ((allT s).map fun x => min 99 ((x.2.1 : Nat) + gI x.2.2.2 p : Int)) (arrL (susp s) p) := by
 have h6 := ok.p1
 unfold arrL
 rw [Dkx]
 have hb : IsBd ((susp s).flatMap fun x => Bzu s x.1.toNat x.2.1.toNat p) (((susp s).flatMap fun x => [(gB x.2.2 p).lo, (gB x.2.2 p).hi]).foldl Ax9 bd0) := by
  refine Byf ?_ hne
  intro x hx
  obtain ⟨i, b, _, _, h3, rfl⟩ := (Ajb s x).1 hx
  exact Cq2 s i b h0 h1 h6 h3
 generalize ((susp s).flatMap fun x => [(gB x.2.2 p).lo, (gB x.2.2 p).hi]).foldl Ax9 bd0 = w at *
 have key : ∀ y, y ∈ ((susp s).flatMap fun x => Bzu s x.1.toNat x.2.1.toNat p) ↔ y ∈ ((allT s).map fun x => min 99 ((x.2.1 : Nat) + gI x.2.2.2 p : Int)) := by
  intro y
  simp only [List.mem_flatMap, List.mem_map, Bzu]
  constructor
  ·rintro ⟨x, hx, ⟨t, c⟩, h4, rfl⟩
   obtain ⟨i, b, g1, g2, g3, rfl⟩ := (Ajb s x).1 hx
   exact ⟨(i, b, t, c), (Ajl s i b t c).2 ⟨g1, g2, h4⟩, rfl⟩
  ·rintro ⟨⟨i, b, t, c⟩, hx, rfl⟩
   obtain ⟨g1, g2, g3⟩ := (Ajl s i b t c).1 hx
   exact ⟨_, (Ajb s _).2 ⟨i, b, g1, g2, List.ne_nil_of_mem g3, rfl⟩, (t, c), g3, rfl⟩
 exact ⟨hb.some, fun y hy => hb.all y ((key y).2 hy), (key _).1 hb.lo, (key _).1 hb.hi⟩
theorem Dz2 {s : Sm} (ok : SmOk s) {i b : Nat} {t c : List Int} (h : (i, b, t, c) ∈ allT s) : ∃ t0 ∈ Axw s.doors, t = pad6 t0 /\ c = Aq4 s.doors (s.hampers.getD i 0) (pad6 t0) /\ i < s.hampers.length /\ b < 13 /\ fitB s.noses c b = true := by
 obtain ⟨h1, h2, h3⟩ := (Ajl s i b t c).1 h
 unfold fitS fitL trL at h3
 simp only [List.mem_filter, List.mem_map, Prod.mk.injEq] at h3
 obtain ⟨⟨t0, h4, rfl, rfl⟩, h5⟩ := h3
 exact ⟨t0, h4, rfl, rfl, h1, h2, h5⟩
theorem Cwo {s : Sm} (ok : SmOk s) {i : Nat} (h : i < s.hampers.length) : 0 <= s.hampers.getD i 0 /\ s.hampers.getD i 0 < s.places := by
 rw [List.getD, List.getElem?_eq_getElem h, Option.getD_some]
 exact ok.hk _ (List.getElem_mem h)
theorem Bq3 {s : Sm} (ok : SmOk s) {h : Int} (h0 : 0 <= h) (h1 : h < s.places) {t : List Int} (ht : t ∈ Axw s.doors) : Ayj (Edg s.doors (pad6 t)) h (Aq4 s.doors h (pad6 t)) := by
 have h6 := ok.p1
 exact Bk3 h6 h0 (by omega) ok.dk (Aj3 ok.dk ht)
end Go.Proofs.YtnfnaehonkbknaaGreatDoor
end
section
namespace Go.Proofs.YtnfnaehonkbknaaGreatDoor
open Go Go.X Go.Proofs.Tryz
def Ave := aN @Exv (aN @Eq4 (aN @Eqy (aN @Aza (aN @Ayr (aN @Bzp (aN @Exd (aN @Exy (aN @Bq1 (aN @Eqm (aN @Eqz (aN @Eqk (aN @Eql @Ajg))))))))))))
def Bxm := aN @Eqy (aN @Eqn (aN @Dyt (aN @Eql (aN @Eqk @Bvj))))
def Cza := @Bvj
def comF (p : Int) (b : Bd) (x : Int × Int × Hint) : Bd := if (gB x.2.2 p).hi < 99 then arrF p b x else b
theorem Cqt (main : Md) (H : Hp) (ob pb : Nat) (p : Int) (h0 : 0 <= p) (h1 : p < 6) (ham hour : Int) (x : Hint) (hx : Axq x) (b : Bd) (vo : H ob = some (true, bdO b)) (vp : H pb = some (true, .cells #[.int .i64 p] 3 (0, 0))) (hne : pb ≠ ob) :
  FnX Tryz.prog main 45 #[.int .i64 ham, .int .i64 hour, .agg (Axu x).toArray, .pointer (some ⟨pb, 0, none⟩), .pointer (some ⟨ob, 0, none⟩)] H fun e H' => e = .returned (.tuple #[]) /\ H' ob = some (true, bdO (comF p b (ham, hour, x))) /\ ∀ b x, b ≠ ob -> H b = some x -> H' b = some x := by
 have hl := Ax0 hx
 have hex := Ak7 hx
 have hbd := Bqj hx (Czw hx h0 h1)
 obtain ⟨hb1, hb2, _⟩ := hbd
 unfold comF arrF
 simp only
 generalize gB x p = g at *
 generalize Axu x = HC at *
 by_cases hg : g.hi < 99
 ·rw [if_pos hg]
  refine Aql func45 rfl ntmps45 (by simp) ?_
  (refine @unH _ (zA Bxm ?_); (try clear hK K); intro K hK hc)
  (intro b hb; generalize hG : Hp.set _ b _ = H1; have lH1 := Aqc hG hb; have vb := Aqb hG; clear hG)
  have vo1 := lH1 _ _ vo
  have vp1 := lH1 _ _ vp
  (refine @unH _ (zU Bxm ?_); (try clear hK K); intro K hK hc)
  refine (Avn main H1 ob _ g.lo vo1).runs.mono ?_
  rintro _ H2 ⟨rfl, h21, h22⟩
  have nob : b ≠ ob := fun e => by rw [e, vo] at hb; cases hb
  have vp2 := (h22 pb hne).trans vp1
  have vb2 := (h22 b nob).trans vb
  have hf2 : ∀ c z, c ≠ ob -> H c = some z -> H2 c = some z := fun c z hc hz => (h22 c hc).trans (lH1 _ _ hz)
  clear vo1 vp1 vb h22 lH1
  (refine @unH _ (zU Bxm ?_); (try clear hK K); intro K hK hc)
  refine (Avn main H2 ob _ g.hi h21).runs.mono ?_
  rintro _ H3 ⟨rfl, h31, h32⟩
  (refine @unH _ (zU Bxm ?_); (try clear hK K); intro K hK hc)
  (refine @unH _ ?_; refine zD results45 ?_)
  exact ⟨rfl, h31, fun c z hc hz => (h32 c hc).trans (hf2 c z hc hz)⟩
 ·rw [if_neg hg]
  refine Aql func45 rfl ntmps45 (by simp) ?_
  (refine @unH _ (zA Bxm ?_); (try clear hK K); intro K hK hc)
  (intro b hb; generalize hG : Hp.set _ b _ = H1; have lH1 := Aqc hG hb; have vb := Aqb hG; clear hG)
  have vo1 := lH1 _ _ vo
  have vp1 := lH1 _ _ vp
  (refine @unH _ (zU Bxm ?_); (try clear hK K); intro K hK hc)
  (refine @unH _ ?_; refine zD results45 ?_)
  exact ⟨rfl, vo1, fun c z hc hz => lH1 _ _ hz⟩
def sinF (b : Bd) (x : Int × Int × Hint) : Bd := Ax9 b x.2.1
theorem Cxs (main : Md) (H : Hp) (ob : Nat) (ham hour : Int) (x : Hint) (hx : Axq x) (b : Bd) (vo : H ob = some (true, bdO b)) :
  FnX Tryz.prog main 61 #[.int .i64 ham, .int .i64 hour, .agg (Axu x).toArray, .pointer (some ⟨ob, 0, none⟩)] H fun e H' => e = .returned (.tuple #[]) /\ H' ob = some (true, bdO (sinF b (ham, hour, x))) /\ ∀ b x, b ≠ ob -> H b = some x -> H' b = some x := by
 have hl := Ax0 hx
 have hex := Ak7 hx
 unfold sinF
 simp only
 generalize Axu x = HC at *
 refine Aql func61 rfl ntmps61 (by simp) ?_
 (refine @unH _ (zA @Cza ?_); (try clear hK K); intro K hK hc)
 (intro b hb; generalize hG : Hp.set _ b _ = H1; have lH1 := Aqc hG hb; have vb := Aqb hG; clear hG)
 have vo1 := lH1 _ _ vo
 (refine @unH _ (zU @Cza ?_); (try clear hK K); intro K hK hc)
 refine (Avn main H1 ob _ hour vo1).runs.mono ?_
 rintro _ H2 ⟨rfl, h21, h22⟩
 (refine @unH _ (zU @Cza ?_); (try clear hK K); intro K hK hc)
 (refine @unH _ ?_; refine zD results61 ?_)
 exact ⟨rfl, h21, fun c z hc hz => (h22 c hc).trans (lH1 _ _ hz)⟩
theorem Az8 {H H' : Hp} {b : Nat} {o : Obj} (l : H.le H') (h : H b = none) : H.le (H'.set b o) := fun x z hz => by
 rw [Aqu (fun e => by rw [e, h] at hz; cases hz)]
 exact l _ _ hz
def comL (L : List (Int × Int × Hint)) (p : Int) : Bd := L.foldl (comF p) bd0
theorem Cv8 (L : List (Int × Int × Hint)) (p : Int) (x : Int × Int × Hint) : comL (L ++ [x]) p = comF p (comL L p) x := by simp [comL]
def bdE (z : Int) (b : Bd) : Int × Int × Int := if z = 0 then (if b.some then (b.lo, b.hi, 0) else (0, 0, 11)) else (0, 0, z)
def comE (s : Sm) (p : Int) : Int × Int × Int := bdE (begE s [p] 0) (comL (susp s) p)
theorem Cxj (H : Hp) (s : Sm) (dv hv nv : Value) (hs : SmIn H dv hv nv s) (ok : SmOk s) (p : Int) :
  FnX Tryz.prog (.wg Tryz.prog) 10 #[smV s.places dv hv nv, .int .i64 p] H fun e H' => e = .returned (.tuple #[.agg #[.int .i64 (comE s p).1, .int .i64 (comE s p).2.1], .int .i64 (comE s p).2.2]) /\ H.le H' := by
 obtain ⟨da, dc, ha, kc, na, nc, rfl, rfl, rfl, l1, l2, l3⟩ := hs.forms
 have hpp : begE s [p] 0 = 0 -> 0 <= p /\ p < 6 := Cvm ok
 have hr : comE s p = bdE (begE s [p] 0) (comL (susp s) p) := rfl
 have hbeg := fun H dv hv nv (hs : SmIn H dv hv nv s) pv (hp : SlI H pv [p]) => Az4 H s dv hv nv hs ok 0 pv [p] hp (by simp)
 generalize begE s [p] 0 = z at *
 generalize comE s p = r at *
 replace hpp : Aqk _ := hpp
 replace hr : Aqk _ := hr
 replace hbeg : Aqk _ := hbeg
 refine Aql func10 rfl ntmps10 (by simp) ?_
 (refine @unH _ (zA Ave ?_); (try clear hK K); intro K hK hc)
 (intro sb hsb qb hqb rb hrb; replace hrb : (Hp.set (Hp.set _ sb _) qb _) rb = none := hrb; replace hqb : (Hp.set _ sb _) qb = none := hqb; generalize hG : Hp.set _ sb _ = H1 at hqb hrb ⊢; have lH1 := Aqc hG hsb; have wsb := Aqb hG; clear hG; generalize hG : Hp.set _ qb _ = H2 at hrb ⊢; have lH2 := Aqc hG hqb; have wqb := Aqb hG; have nsbqb := Aqq wsb hqb; replace wsb := lH2 _ _ wsb; clear hG; generalize hG : Hp.set _ rb _ = H3; have lH3 := Aqc hG hrb; have vrb := Aqb hG; have vsb := lH3 _ _ wsb; have vqb := lH3 _ _ wqb; have nsbrb := Aqq wsb hrb; have nqbrb := Aqq wqb hrb; clear hG wsb wqb)
 have l03 := Hp.le_trans lH1 (Hp.le_trans lH2 lH3)
 have hs3 := hs.le l03
 have h0rb := Hp.le_none (Hp.le_trans lH1 lH2) hrb
 clear lH1 lH2 lH3 hsb hqb hrb hs
 (refine @unH _ (zU Ave ?_); (try clear hK K); intro K hK hc)
 (intro pb hpb; generalize hG : Hp.set _ pb _ = H4; have lH4 := Aqc hG hpb; have vpb := Aqb hG; clear hG)
 have hs4 := hs3.le lH4
 have l04 := Hp.le_trans l03 lH4
 have vr4 := lH4 _ _ vrb
 have vq4 := lH4 _ _ vqb
 have hp4 : SlI H4 (.slice (some ⟨pb, 0, none⟩) 1 1) [p] := Dwm vpb
 clear hs3 l03 lH4 vrb vqb vsb vpb hpb
 refine ((show ∀ H dv hv nv (hs : SmIn H dv hv nv s) pv (hp : SlI H pv [p]), _ from hbeg) H4 _ _ _ hs4 _ hp4).runs.mono ?_
 clear hbeg
 rintro _ H5 ⟨v, rfl, lH5, hv, _⟩
 have l05 := Hp.le_trans l04 lH5
 have vr5 := lH5 _ _ vr4
 have vq5 := lH5 _ _ vq4
 clear hs4 hp4 lH5 l04 vr4 vq4
 by_cases hz : z = 0
 ·subst hz
  replace hv := hv (.inl rfl)
  obtain ⟨p0, p1⟩ := hpp rfl
  clear hpp
  (refine @unH _ (zU Ave ?_); (try clear hK K); intro K hK hc)
  intro ob hob
  have nqo := Aqq vq5 hob
  have nro := Aqq vr5 hob
  (refine @unH _ (zU Ave ?_); (try clear hK K); intro K hK hc)
  generalize hG : Hp.set H5 ob _ = H6
  have lH6 := Aqc hG hob
  have vo6 := Aqb hG
  have vq6 := Aqi hG vq5 nqo
  have vr6 := Aqi hG vr5 nro
  have h0ob := Hp.le_none l05 hob
  clear hG vq5 vr5
  have hone := Bz3 (.wg Tryz.prog) (A := fun _ _ _ => True) (yf := .func 45) (yi := #[]) (yc := #[.pointer (some ⟨qb, 0, none⟩), .pointer (some ⟨ob, 0, none⟩)]) H5 H6 _ _ hv ob (fun L => bdO (comL L p)) lH6 hob (by rw [vo6]; rfl) (fun L H' ham hour x g1 g2 hxo _ => by
   refine Ajp.fn (fun _ _ => Dj3 _) ((Cqt _ H' ob qb p p0 p1 ham hour x hxo _ g1 (g2 _ _ nqo vq6) nqo).mono ?_)
   rintro _ H4 ⟨rfl, h3, h4⟩
   exact ⟨rfl, by rw [h3, Cv8], h4⟩) (Ajj ok) (fun _ _ _ _ _ _ => trivial) (by rw [Azp]; have := ok.h1; omega)
  refine hone.runs.mono ?_
  clear hone
  rintro _ H7 ⟨rfl, h3, h4⟩
  have l07 : H.le H7 := fun b x hx => h4 b x (fun e => by rw [e, h0ob] at hx; cases hx) (lH6 _ _ (l05 _ _ hx))
  have vr7 := h4 _ _ nro vr6
  replace hr : Aqk (r = bdE 0 (comL (susp s) p)) := hr
  rw [show Azv (Axl s) = susp s from rfl] at h3
  generalize comL (susp s) p = w at *
  clear h4 vr6 vq6 vo6 l05 lH6 hv
  obtain ⟨lo, hi, sm⟩ := w
  cases sm with
  | true =>
   (refine @unH _ (zU Ave ?_); (try clear hK K); intro K hK hc)
   (refine Axs ?_; (try simp only [nq, ↓reduceIte, Nat.reduceEqDiff]); rw [Aq8, results_cell_tmp results10 (by decide) (by decide) (b := rb) (o := 0) rfl underlying34 rfl sizeOf34]; simp -implicitDefEqProofs (disch := first | omega | (simp only [qd] <;> omega)) only [xq, ↓xp, qc, Nat.reduceAdd, List.range, List.range.loop, fine, Nat.reduceEqDiff, ↓reduceIte, yielded, reduceCtorEq, Nat.reduceLT, Nat.reduceMul, Nat.reduceSub, one, Nat.reduceLeDiff, Aqg, Ave, Axm, List.extract_toArray])
   exact ⟨by rw [show r = _ from hr]; rfl, Az8 l07 h0rb⟩
  | false =>
   (refine @unH _ (zU Ave ?_); (try clear hK K); intro K hK hc)
   (refine Axs ?_; (try simp only [nq, ↓reduceIte, Nat.reduceEqDiff]); rw [Aq8, results_cell_tmp results10 (by decide) (by decide) (b := rb) (o := 0) rfl underlying34 rfl sizeOf34]; simp -implicitDefEqProofs (disch := first | omega | (simp only [qd] <;> omega)) only [xq, ↓xp, qc, Nat.reduceAdd, List.range, List.range.loop, fine, Nat.reduceEqDiff, ↓reduceIte, yielded, reduceCtorEq, Nat.reduceLT, Nat.reduceMul, Nat.reduceSub, one, Nat.reduceLeDiff, Aqg, Ave, Axm, List.extract_toArray])
   exact ⟨by rw [show r = _ from hr]; rfl, Az8 l07 h0rb⟩
 ·clear hv hpp
  (refine @unH _ (zU Ave ?_); (try clear hK K); intro K hK hc)
  (refine Axs ?_; (try simp only [nq, ↓reduceIte, Nat.reduceEqDiff]); rw [Aq8, results_cell_tmp results10 (by decide) (by decide) (b := rb) (o := 0) rfl underlying34 rfl sizeOf34]; simp -implicitDefEqProofs (disch := first | omega | (simp only [qd] <;> omega)) only [xq, ↓xp, qc, Nat.reduceAdd, List.range, List.range.loop, fine, Nat.reduceEqDiff, ↓reduceIte, yielded, reduceCtorEq, Nat.reduceLT, Nat.reduceMul, Nat.reduceSub, one, Nat.reduceLeDiff, Aqg, Ave, Axm, List.extract_toArray])
  exact ⟨by rw [show r = _ from hr, bdE, if_neg hz], Az8 l05 h0rb⟩
def Az5 := aN @Exv (aN @Eq4 (aN @Bvi (aN @Bzp (aN @Exd (aN @Dy8 (aN @Eqv (aN @Dyv (aN @Ays (aN @Exy (aN @Cql (aN (fun H => Bv7 (H := H) underlying83 sizeOf127) (aN (fun H => Bv8 (H := H) underlying83 sizeOf127) (aN (fun H => Bxe (H := H) underlying83 sizeOf127) (aN (fun H => Bxu (H := H) underlying83 sizeOf127) (aN @Bq1 (aN @Eqm (aN @Eqz (aN @Eqk (aN @Eqy (aN @Eql @Ajg))))))))))))))))))))
theorem Dwx {p q : Prop} (g : q) (h : Hid q -> p := by
 intro g
 repeat' (first
 | (refine Axz rfl ?_; intro Kz hKz; simp -implicitDefEqProofs (disch := first | omega | (simp only [qd] <;> omega)) only [xq, ↓xp, qc, Nat.reduceAdd, List.range, List.range.loop, fine, Nat.reduceEqDiff, ↓reduceIte, yielded, reduceCtorEq, Nat.reduceLT, Nat.reduceMul, Nat.reduceSub, one, Nat.reduceLeDiff, Aqg, Az5, aq, ↓ap, qe0, qe1, qe2, *, -g, -hKz, Ay3 underlying83 sizeOf127]; try (refine hKz _ _ ?_; clear hKz Kz))
 | (refine Azx rfl ?_; intro Kz hKz; simp -implicitDefEqProofs (disch := first | omega | (simp only [qd] <;> omega)) only [xq, ↓xp, qc, Nat.reduceAdd, List.range, List.range.loop, fine, Nat.reduceEqDiff, ↓reduceIte, yielded, reduceCtorEq, Nat.reduceLT, Nat.reduceMul, Nat.reduceSub, one, Nat.reduceLeDiff, Aqg, Az5, aq, ↓ap, qe0, qe1, qe2, *, -g, -hKz, Ay3 underlying83 sizeOf127]; try (refine hKz _ _ ?_; clear hKz Kz; (try simp only [nq, ↓reduceIte, Nat.reduceEqDiff])))
 | (refine Aze ?_; (try simp only [nq, ↓reduceIte, Nat.reduceEqDiff]))
 | (refine Azh ?_; (try simp only [nq, ↓reduceIte, Nat.reduceEqDiff]))
 | (refine Az6 ?_; (try simp only [nq, ↓reduceIte, Nat.reduceEqDiff]))
 | (refine Ajc ?_; (try simp only [nq, ↓reduceIte, Nat.reduceEqDiff]))
 | (refine Azw (by simp only [Aq6, Axh, Nat.reduceEqDiff, Nat.reduceLT, ↓reduceIte, *, -g]; rfl) ?_ ?_ <;> (intro hcz; first | (exfalso; simp -implicitDefEqProofs (disch := omega) only [*, -g, bq, reduceCtorEq] at hcz; done) | (simp only [dq, qe3, qe4, qe5, qe6] at hcz) | skip))
 | (refine Azy ?_)
 | (refine Ax7 ?_)
 | (refine Axp ?_))
 refine unT ?_; (try (revert hcz; refine unC ?_)); (repeat (revert hcz; refine unD ?_)); first | revert Kz | refine unU ?_
 exact Hid.out g) : Hid p := ⟨h ⟨g⟩⟩
theorem Dwv {p q : Prop} (g : q) (h : Hid q -> p := by
 intro g
 simp -implicitDefEqProofs (disch := first | omega | (simp only [qd] <;> omega)) only [xq, ↓xp, qc, Nat.reduceAdd, List.range, List.range.loop, fine, Nat.reduceEqDiff, ↓reduceIte, yielded, reduceCtorEq, Nat.reduceLT, Nat.reduceMul, Nat.reduceSub, one, Nat.reduceLeDiff, Aqg, Az5, aq, ↓ap, qe0, qe1, qe2, *, -g, -hK, Ay3 underlying83 sizeOf127]
 exact Hid.out g) : Hid p := ⟨h ⟨g⟩⟩
theorem Ay3 {P : Program} {H : Hp} {t e : TypeId} (hu : P.underlying t = some (.slice e)) {n : Nat} (hs : ∀ w, (sizeOf e).run P w = .ok n w) (b o len cap : Nat) (k k' k'' : IntKind) (i j m : Int) (h0 : 0 <= i) (h1 : i <= j) (h2 : j <= m) (h3 : m <= cap) (hne : i < m) (K : Value -> Hp -> Prop) (E : Value -> Hp -> Prop) :
  wpS P (Instr.sliceAt t (.slice (some ⟨b, o, none⟩) len cap) (some (.int k i)) (some (.int k' j)) (some (.int k'' m))) H K E = K (.slice (some ⟨b, o + i.toNat * n, none⟩) (j.toNat - i.toNat) (m.toNat - i.toNat)) H := by
 unfold Instr.sliceAt Instr.slice Instr.sliceBounds
 have hm : j <= (m.toNat : Int) := by omega
 have hj : i <= (j.toNat : Int) := by omega
 have hne' : ¬ m.toNat = i.toNat := by omega
 simp [-bind_pure_comp, Aqa, Aqj hu, Aqe, Az9 k'' m cap _ (by omega) h3, Az9 k' j m.toNat _ (by omega) hm, Az9 k i j.toNat _ h0 hj, Aq0 hs, Aka, hne']
def sinL (L : List (Int × Int × Hint)) : Bd := L.foldl sinF bd0
theorem Cyk (L : List (Int × Int × Hint)) (x : Int × Int × Hint) : sinL (L ++ [x]) = sinF (sinL L) x := by simp [sinL]
def sinE (s : Sm) (i : Int) : Int × Int × Int := bdE (if i < 0 ∨ (s.hampers.length : Int) - 1 < i then 3 else 0) (sinL (Akx (Ax6 s i.toNat)))
theorem SlT.only {H : Hp} {s : Sm} {a : Option Addr} {n cap : Nat} (h : SlT H (.slice a n cap) (Axl s)) {i : Nat} (hi : i < s.hampers.length) : ∃ b o, a = some ⟨b, o, none⟩ /\ SlT H (.slice (some ⟨b, o + i * 326, none⟩) 1 1) [Ax6 s i] := by
 have hx : ((Axl s).map Axd)[i]? = some (Axd (Ax6 s i)) := by
  unfold Axl
  rw [List.getElem?_map, List.getElem?_map, List.getElem?_range hi]
  rfl
 obtain ⟨b, o, p, c, fr, rfl, h2, h3, h4, h5⟩ := SlG.get h hx
 refine ⟨b, o, rfl, some ⟨b, o + i * 326, none⟩, 1, rfl, by simp, fun j r hr => ?_⟩
 rcases j with _ | j
 ·simp only [List.map_cons, List.getElem?_cons_zero, Option.some.injEq] at hr
  subst hr
  exact ⟨b, o + i * 326, p, c, fr, rfl, h2, by omega, h4, by simpa using h5⟩
 ·simp at hr
theorem Ckd (main : Md) {A : Int -> Int -> Hint -> Prop} {yf : Fn} {yi yc : Array Value} (H2 : Hp) (v : Value) (l : List Trail) (hv : SlT H2 v l) (ob : Nat) (O : List (Int × Int × Hint) -> Obj) (h0 : ∀ p c fr, H2 ob ≠ some (p, .cells c 127 fr)) (vo : H2 ob = some (true, O []))
  (h : ∀ L H' ham hour x, H' ob = some (true, O L) -> (∀ b z, b ≠ ob -> H2 b = some z -> H' b = some z) -> Axq x -> A ham hour x -> Ajp Tryz.prog main (.func yf yi yc) #[.int .i64 ham, .int .i64 hour, .agg (Axu x).toArray] H' fun e H'' => e = .returned (.tuple #[]) /\ H'' ob = some (true, O (L ++ [(ham, hour, x)])) /\ ∀ b z, b ≠ ob -> H' b = some z -> H'' b = some z)
  (hok : ∀ t ∈ l, Ax2 t) (hA : ∀ t ∈ l, ∀ (h : Nat) x, t.hs[h]? = some x -> x.some = true -> A t.ham h x) (hl : l.length <= 1000) :
  FnX Tryz.prog main 44 #[v, .func yf yi yc] H2 fun e H' => e = .returned (.tuple #[]) /\ H' ob = some (true, O (Azv l)) /\ ∀ b x, b ≠ ob -> H2 b = some x -> H' b = some x :=
 (Aw5 main (Cwt H2 ob O vo h) H2 v l (fun L H' h _ => hv.move fun x p c fr hx => ⟨p, h.2 x _ (fun e => h0 p c fr (by rw [<- e]; exact hx)) hx⟩) hok hA hl [] ⟨vo, fun _ _ _ hx => hx⟩).mono fun e H' ⟨h1, h2, _⟩ => ⟨h1, by simpa using h2.1, h2.2⟩
theorem Cxp (H : Hp) (s : Sm) (dv hv nv : Value) (hs : SmIn H dv hv nv s) (ok : SmOk s) (i : Int) :
  FnX Tryz.prog (.wg Tryz.prog) 26 #[smV s.places dv hv nv, .int .i64 i] H fun e H' => e = .returned (.tuple #[.agg #[.int .i64 (sinE s i).1, .int .i64 (sinE s i).2.1], .int .i64 (sinE s i).2.2]) /\ H.le H' := by
 obtain ⟨da, dc, ha, kc, na, nc, rfl, rfl, rfl, l1, l2, l3⟩ := hs.forms
 have hr : sinE s i = bdE (if i < 0 ∨ (s.hampers.length : Int) - 1 < i then 3 else 0) (sinL (Akx (Ax6 s i.toNat))) := rfl
 have h3 := ok.h1
 have h1 := ok.h0
 have e := ok.p1
 clear e
 generalize sinE s i = r at *
 by_cases hi : i < 0 ∨ (s.hampers.length : Int) - 1 < i
 ·have hdo : (decide (i < 0) || decide ((s.hampers.length : Int) - 1 < i)) = true := by simpa using hi
  rw [if_pos hi] at hr
  replace hr : Aqk _ := hr
  replace hdo : Aqk _ := hdo
  clear hi
  refine Aql func26 rfl ntmps26 (by simp) ?_
  (refine @unH _ (zA Az5 ?_); (try clear hK K); intro K hK hc)
  (intro sb hsb rb hrb; replace hrb : (Hp.set _ sb _) rb = none := hrb; generalize hG : Hp.set _ sb _ = H1 at hrb ⊢; have lH1 := Aqc hG hsb; have wsb := Aqb hG; clear hG; generalize hG : Hp.set _ rb _ = H2; have lH2 := Aqc hG hrb; have vrb := Aqb hG; have vsb := lH2 _ _ wsb; have nsbrb := Aqq wsb hrb; clear hG wsb)
  have l02 := Hp.le_trans lH1 lH2
  have hs2 := hs.le l02
  have h0rb := Hp.le_none lH1 hrb
  clear lH1 lH2 hsb hrb hs
  (refine @unH _ (zU Az5 ?_); (try clear hK K); intro K hK hc)
  refine (Avr _ H2 s _ _ _ hs2 ok).runs.mono ?_
  rintro _ H3 ⟨rfl, lH3⟩
  have l03 := Hp.le_trans l02 lH3
  have vr3 := lH3 _ _ vrb
  have vs3 := lH3 _ _ vsb
  clear l02 lH3 vrb vsb hs2
  (refine @unH _ (zU Az5 ?_); (try clear hK K); intro K hK hc)
  refine (Axk _ H3 i 0 _).runs.mono ?_
  rintro _ _ ⟨rfl, hQ⟩
  rw [hQ, show (decide (i < 0) || decide ((s.hampers.length : Int) - 1 < i)) = true from hdo]; clear hQ
  (refine @unH _ (zU Az5 ?_); (try clear hK K); intro K hK hc)
  (refine Axs ?_; (try simp only [nq, ↓reduceIte, Nat.reduceEqDiff]); rw [Aq8, results_cell_tmp results26 (by decide) (by decide) (b := rb) (o := 0) rfl underlying34 rfl sizeOf34]; simp -implicitDefEqProofs (disch := first | omega | (simp only [qd] <;> omega)) only [xq, ↓xp, qc, Nat.reduceAdd, List.range, List.range.loop, fine, Nat.reduceEqDiff, ↓reduceIte, yielded, reduceCtorEq, Nat.reduceLT, Nat.reduceMul, Nat.reduceSub, one, Nat.reduceLeDiff, Aqg, Az5, Axm, List.extract_toArray])
  exact ⟨by rw [show r = _ from hr]; rfl, Az8 l03 h0rb⟩
 ·have hdo : (decide (i < 0) || decide ((s.hampers.length : Int) - 1 < i)) = false := by simpa using hi
  rw [if_neg hi] at hr
  replace hdo : Aqk _ := hdo
  obtain ⟨k, rfl⟩ : ∃ k : Nat, i = (k : Int) := ⟨i.toNat, by omega⟩
  have hk : k < s.hampers.length := by omega
  replace hr : Aqk (r = bdE 0 (sinL (Akx (Ax6 s k)))) := hr
  clear hi
  refine Aql func26 rfl ntmps26 (by simp) ?_
  (refine @unH _ (zA Az5 ?_); (try clear hK K); intro K hK hc)
  (intro sb hsb rb hrb; replace hrb : (Hp.set _ sb _) rb = none := hrb; generalize hG : Hp.set _ sb _ = H1 at hrb ⊢; have lH1 := Aqc hG hsb; have wsb := Aqb hG; clear hG; generalize hG : Hp.set _ rb _ = H2; have lH2 := Aqc hG hrb; have vrb := Aqb hG; have vsb := lH2 _ _ wsb; have nsbrb := Aqq wsb hrb; clear hG wsb)
  have l02 := Hp.le_trans lH1 lH2
  have hs2 := hs.le l02
  have h0rb := Hp.le_none lH1 hrb
  clear lH1 lH2 hsb hrb hs
  (refine @unH _ (zU Az5 ?_); (try clear hK K); intro K hK hc)
  refine (Avr _ H2 s _ _ _ hs2 ok).runs.mono ?_
  rintro _ H3 ⟨rfl, lH3⟩
  have l03 := Hp.le_trans l02 lH3
  have vr3 := lH3 _ _ vrb
  have vs3 := lH3 _ _ vsb
  have hs3 := hs2.le lH3
  clear l02 lH3 vrb vsb hs2
  (refine @unH _ (zU Az5 ?_); (try clear hK K); intro K hK hc)
  refine (Axk _ H3 k 0 _).runs.mono ?_
  rintro _ _ ⟨rfl, hQ⟩
  rw [hQ, show (decide ((k : Int) < 0) || decide ((s.hampers.length : Int) - 1 < k)) = false from hdo]; clear hQ hdo
  (refine @unH _ (zU Az5 ?_); (try clear hK K); intro K hK hc)
  intro ob hob
  have nro := Aqq vr3 hob
  have nso := Aqq vs3 hob
  have h0ob := Hp.le_none l03 hob
  generalize hG : Hp.set H3 ob _ = H4
  have lH4 := Aqc hG hob
  have vo4 := Aqb hG
  have hs4 := hs3.le lH4
  have l04 := Hp.le_trans l03 lH4
  have vr4 := lH4 _ _ vr3
  have vs4 := lH4 _ _ vs3
  clear hG l03 vr3 vs3 hs3 lH4
  (refine @unH _ (zU Az5 ?_); (try clear hK K); intro K hK hc)
  refine (Ay5 H4 s _ _ _ hs4 ok).runs.mono ?_
  rintro _ H5 ⟨v, rfl, hv, lH5⟩
  have l05 := Hp.le_trans l04 lH5
  have vr5 := lH5 _ _ vr4
  have vo5 := lH5 _ _ vo4
  obtain ⟨ta, tcap, rfl, htc⟩ := hv.isSlice
  obtain ⟨tb, to, rfl, hone1⟩ := hv.only hk
  clear lH5 vr4 vo4 l04 hs4 vs4 hv
  rw [Azp] at htc ⊢
  ((try refine @unH _ (Dwv ?_)); (try (refine hK _ _ ?_; clear hK K; try refine @unH _ (zQ ?_))); refine @unH _ (Dwx ?_); intro _ _ hc)
  rw [show ((k : Int) + 1).toNat - k = 1 by omega]
  have hone := Ckd (.wg Tryz.prog) (A := fun _ _ _ => True) (yf := .func 61) (yi := #[]) (yc := #[.pointer (some ⟨ob, 0, none⟩)]) H5 _ _ hone1 ob (fun L => bdO (sinL L)) (fun p c fr e => by rw [vo5] at e; simp at e) (by rw [vo5]; rfl) (fun L H' ham hour x g1 g2 hxo _ => by
   refine Ajp.fn (fun _ _ => Dka _) ((Cxs _ H' ob ham hour x hxo _ g1).mono ?_)
   rintro _ H4 ⟨rfl, h3, h4⟩
   exact ⟨rfl, by rw [h3, Cyk], h4⟩) (fun t ht => by
    simp only [List.mem_cons, List.not_mem_nil, or_false] at ht
    subst ht
    exact Aws ok k) (fun _ _ _ _ _ _ => trivial) (by simp)
  refine hone.runs.mono ?_
  clear hone hone1
  rintro _ H7 ⟨rfl, h3, h4⟩
  have l07 : H.le H7 := fun b x hx => h4 b x (fun e => by rw [e, h0ob] at hx; cases hx) (l05 _ _ hx)
  have vr7 := h4 _ _ nro vr5
  rw [show Azv [Ax6 s k] = Akx (Ax6 s k) from List.append_nil _] at h3
  generalize sinL (Akx (Ax6 s k)) = w at *
  clear h4 vr5 vo5 l05
  obtain ⟨lo, hi, sm⟩ := w
  cases sm with
  | true =>
   (refine @unH _ (zU Az5 ?_); (try clear hK K); intro K hK hc)
   (refine Axs ?_; (try simp only [nq, ↓reduceIte, Nat.reduceEqDiff]); rw [Aq8, results_cell_tmp results26 (by decide) (by decide) (b := rb) (o := 0) rfl underlying34 rfl sizeOf34]; simp -implicitDefEqProofs (disch := first | omega | (simp only [qd] <;> omega)) only [xq, ↓xp, qc, Nat.reduceAdd, List.range, List.range.loop, fine, Nat.reduceEqDiff, ↓reduceIte, yielded, reduceCtorEq, Nat.reduceLT, Nat.reduceMul, Nat.reduceSub, one, Nat.reduceLeDiff, Aqg, Az5, Axm, List.extract_toArray])
   exact ⟨by rw [show r = _ from hr]; rfl, Az8 l07 h0rb⟩
  | false =>
   (refine @unH _ (zU Az5 ?_); (try clear hK K); intro K hK hc)
   (refine Axs ?_; (try simp only [nq, ↓reduceIte, Nat.reduceEqDiff]); rw [Aq8, results_cell_tmp results26 (by decide) (by decide) (b := rb) (o := 0) rfl underlying34 rfl sizeOf34]; simp -implicitDefEqProofs (disch := first | omega | (simp only [qd] <;> omega)) only [xq, ↓xp, qc, Nat.reduceAdd, List.range, List.range.loop, fine, Nat.reduceEqDiff, ↓reduceIte, yielded, reduceCtorEq, Nat.reduceLT, Nat.reduceMul, Nat.reduceSub, one, Nat.reduceLeDiff, Aqg, Az5, Axm, List.extract_toArray])
   exact ⟨by rw [show r = _ from hr]; rfl, Az8 l07 h0rb⟩
end Go.Proofs.YtnfnaehonkbknaaGreatDoor
end
section
namespace Go.Proofs.YtnfnaehonkbknaaGreatDoor
open Go Go.X
def surM (L : List (Int × Int × Hint)) (h : Int) : Nat -> Nat
 | 0 => 0
 | k + 1 => if Av1 (arrL L k) h = 1 then Akh (surM L h k) k else surM L h k
theorem Cxx (L : List (Int × Int × Hint)) (h : Int) : ∀ k, k <= 6 -> surM L h k < 64
 | 0, _ => by show 0 < 64; decide
 | k + 1, hk => by
  have := Cxx L h k (by omega)
  unfold surM
  split
  ·exact Bvy (n := (k : Int)) this (by omega) (by omega)
  ·exact this
end Go.Proofs.YtnfnaehonkbknaaGreatDoor
end
section
namespace Go.Proofs.YtnfnaehonkbknaaGreatDoor
open Go Go.X Go.Proofs.Tryz
def Azz := aN @Eq4 (aN @Eqy (aN @Ayr (aN @Bvk (aN @Dy6 (aN @Exu (aN @Ex2 (aN @Cqg (aN @Cqh (aN (fun H => Aq9 (H := H) underlying124) (aN (fun H => Aqs (H := H) underlying124 sizeOf123) (aN (fun H => Aqo (H := H) underlying123 rfl sizeOf123) (aN (fun H => Aqt (H := H) (P := Tryz.prog) (h := zeroValue123)) (aN (fun H => Aqr (H := H) sizeOf123) (aN (fun H => Aqd (H := H) underlying123 (i := 0) rfl (off := 0) rfl sizeOf101) (aN @Eqq @Bvw)))))))))))))))
def Czd := aN @Eqy (aN @Eqn (aN @Dyt @Eqk))
def Cze := aN @Eqy (aN @Eqn (aN @Dyt @Eql))
theorem Cxu (main : Md) (H : Hp) (pb hb : Nat) (p hour : Int) (h0 : 0 <= p) (h1 : p < 6) (x : Hint) (hx : Axq x) (q1 q2 : Bool) (f1 f2 : Nat × Nat) (vp : H pb = some (q1, .cells #[.int .i64 p] 3 f1)) (vh : H hb = some (q2, .cells #[.int .i64 hour] 3 f2)) :
  FnX Tryz.prog main 70 #[.agg (Axu x).toArray, .pointer (some ⟨pb, 0, none⟩), .pointer (some ⟨hb, 0, none⟩)] H fun e H' => e = .returned (.bool (decide ((gB x p).lo <= hour))) /\ H.le H' := by
 have hl := Ax0 hx
 have hex := Ak7 hx
 obtain ⟨hb1, hb2, _⟩ := Bqj hx (Czw hx h0 h1)
 generalize gB x p = g at *
 generalize Axu x = HC at *
 refine Aql func70 rfl ntmps70 (by simp) ?_
 (refine @unH _ (zA Czd ?_); (try clear hK K); intro K hK hc)
 (intro xb hxb; generalize hG : Hp.set _ xb _ = H1; have lH1 := Aqc hG hxb; have vxb := Aqb hG; clear hG)
 have vp1 := lH1 _ _ vp
 have vh1 := lH1 _ _ vh
 (refine @unH _ (zU Czd ?_); (try clear hK K); intro K hK hc)
 (refine Akm 8 [(true, 0), (true, 1), (true, 2), (true, 3), (true, 4), (true, 5), (true, 6), (true, 7)] (by kernel_rfl) (by kernel_rfl) (by simp) (by kernel_rfl) ?_; intro K hK; (iterate 8 (refine @unH _ ?_; refine z3 Czd ?_)); refine Ak8 (hK _ _ ?_); clear hK K; (try refine @unH _ (zQ ?_)))
 (refine @unH _ ?_; refine z9 results70 ?_)
 exact ⟨trivial, lH1⟩
theorem Cxv (main : Md) (H : Hp) (pb hb : Nat) (p hour : Int) (h0 : 0 <= p) (h1 : p < 6) (x : Hint) (hx : Axq x) (q1 q2 : Bool) (f1 f2 : Nat × Nat) (vp : H pb = some (q1, .cells #[.int .i64 p] 3 f1)) (vh : H hb = some (q2, .cells #[.int .i64 hour] 3 f2)) :
  FnX Tryz.prog main 71 #[.agg (Axu x).toArray, .pointer (some ⟨pb, 0, none⟩), .pointer (some ⟨hb, 0, none⟩)] H fun e H' => e = .returned (.bool (decide (hour < (gB x p).hi))) /\ H.le H' := by
 have hl := Ax0 hx
 have hex := Ak7 hx
 obtain ⟨hb1, hb2, _⟩ := Bqj hx (Czw hx h0 h1)
 generalize gB x p = g at *
 generalize Axu x = HC at *
 refine Aql func71 rfl ntmps71 (by simp) ?_
 (refine @unH _ (zA Cze ?_); (try clear hK K); intro K hK hc)
 (intro xb hxb; generalize hG : Hp.set _ xb _ = H1; have lH1 := Aqc hG hxb; have vxb := Aqb hG; clear hG)
 have vp1 := lH1 _ _ vp
 have vh1 := lH1 _ _ vh
 (refine @unH _ (zU Cze ?_); (try clear hK K); intro K hK hc)
 (refine Akm 8 [(true, 0), (true, 1), (true, 2), (true, 3), (true, 4), (true, 5), (true, 6), (true, 7)] (by kernel_rfl) (by kernel_rfl) (by simp) (by kernel_rfl) ?_; intro K hK; (iterate 8 (refine @unH _ ?_; refine z3 Cze ?_)); refine Ak8 (hK _ _ ?_); clear hK K; (try refine @unH _ (zQ ?_)))
 (refine @unH _ ?_; refine z9 results71 ?_)
 exact ⟨trivial, lH1⟩
def sq1 (p hour : Int) (x : Hint) : Bool := decide ((gB x p).lo <= hour)
def sq2 (p hour : Int) (x : Hint) : Bool := decide (hour < (gB x p).hi)
theorem Dwn (main : Md) (H : Hp) (pb hb : Nat) (p hour : Int) (h0 : 0 <= p) (h1 : p < 6) (vp : H pb = some (true, .cells #[.int .i64 p] 3 (0, 0))) (vh : H hb = some (true, .cells #[.int .i64 hour] 3 (0, 0))) :
  IsF Tryz.prog main H (.func (.func 70) #[] #[.pointer (some ⟨pb, 0, none⟩), .pointer (some ⟨hb, 0, none⟩)]) (sq1 p hour) := fun H' x hl hx =>
 Ajp.fn (fun _ _ => Dke _) (Cxu main H' pb hb p hour h0 h1 x hx _ _ _ _ (hl _ _ vp) (hl _ _ vh))
theorem Dwo (main : Md) (H : Hp) (pb hb : Nat) (p hour : Int) (h0 : 0 <= p) (h1 : p < 6) (vp : H pb = some (true, .cells #[.int .i64 p] 3 (0, 0))) (vh : H hb = some (true, .cells #[.int .i64 hour] 3 (0, 0))) :
  IsF Tryz.prog main H (.func (.func 71) #[] #[.pointer (some ⟨pb, 0, none⟩), .pointer (some ⟨hb, 0, none⟩)]) (sq2 p hour) := fun H' x hl hx =>
 Ajp.fn (fun _ _ => Dkf _) (Cxv main H' pb hb p hour h0 h1 x hx _ _ _ _ (hl _ _ vp) (hl _ _ vh))
theorem Dkw (f g : Fn) (x y u w : Array Value) : Instr.fill (fun i => some (i * 1, 1)) ((Array.range (2 * 1)).map fun x => (Value.agg #[Value.nilFunc]).cells[x % (Value.agg #[Value.nilFunc]).cells.size]!) [(0, .agg #[.func f x u]), (1, .agg #[.func g y w])] = some #[.func f x u, .func g y w] := by
 kernel_rfl
theorem Dqm {H : Hp} (f g : Fn) (x y : Array Value) (u w : Array Value) (K : Value -> Hp -> Prop) (E : Value -> Hp -> Prop) :
  wpS Tryz.prog (Instr.buildSlice 124 2 #[(0, .agg #[.func f x u]), (1, .agg #[.func g y w])]) H K E = ∀ nb, H nb = none -> K (.slice (some ⟨nb, 0, none⟩) 2 2) (H.set nb (.cells #[.func f x u, .func g y w] 123 (0, 0))) := by
 unfold Instr.buildSlice
 have hn1 : ¬ 2 * 1 > 2 ^ 24 := by decide
 have hn2 : ¬ 2 * 1 = 0 := by decide
 simp only [Aqa, Aqj underlying124, Aq0 sizeOf123, hn1, hn2, if_false, Axg zeroValue123, Aqe]
 rw [Dkw]
 simp only [newRow, newObj, Aqa, wpS, Aqe]
def snW (L : List (Int × Int × Hint)) (hour : Int) (k : Nat) : Nat := max (cntL (sq1 k hour) L) (cntL (sq2 k hour) L)
def snS (L : List (Int × Int × Hint)) (hour : Int) (n : Nat) : Nat -> Int × Nat
 | 0 => (-1, n)
 | k + 1 => if snW L hour k < (snS L hour n k).2 then ((k : Int), snW L hour k) else snS L hour n k
def snE (s : Sm) (hour : Int) : Int × Int × Int := if begE s [] hour = 0 then (if (snS (susp s) hour (Azi s) s.places.toNat).1 < 0 then (0, 0, 11) else ((snS (susp s) hour (Azi s) s.places.toNat).1, ((snS (susp s) hour (Azi s) s.places.toNat).2 : Int), 0)) else (0, 0, begE s [] hour)
theorem Cxq (H : Hp) (s : Sm) (dv hv nv : Value) (hs : SmIn H dv hv nv s) (ok : SmOk s) (h : Int) :
  FnX Tryz.prog (.wg Tryz.prog) 35 #[smV s.places dv hv nv, .int .i64 h] H fun e H' => e = .returned (.tuple #[.int .i64 (snE s h).1, .int .i64 (snE s h).2.1, .int .i64 (snE s h).2.2]) /\ H.le H' := by
 obtain ⟨da, dc, ha, kc, na, nc, rfl, rfl, rfl, l1, l2, l3⟩ := hs.forms
 have hbeg := fun H dv hv nv (hs : SmIn H dv hv nv s) => Az4 H s dv hv nv hs ok h _ [] (nilS H) (by simp)
 have hr0 : begE s [] h = 0 -> snE s h = (if (snS (susp s) h (Azi s) s.places.toNat).1 < 0 then (0, 0, 11) else ((snS (susp s) h (Azi s) s.places.toNat).1, ((snS (susp s) h (Azi s) s.places.toNat).2 : Int), 0)) := fun e => if_pos e
 have hr1 : begE s [] h ≠ 0 -> snE s h = (0, 0, begE s [] h) := fun e => if_neg e
 generalize begE s [] h = z at *
 generalize snE s h = r at *
 replace hbeg : Aqk _ := hbeg
 replace hr0 : Aqk _ := hr0
 replace hr1 : Aqk _ := hr1
 have q0 := ok.p0
 have q6 := ok.p1
 refine Aql func35 rfl ntmps35 (by simp) ?_
 (refine @unH _ (zA Azz ?_); (try clear hK K); intro K hK hc)
 (intro sb hsb ub hub; replace hub : (Hp.set _ sb _) ub = none := hub; generalize hG : Hp.set _ sb _ = H1 at hub ⊢; have lH1 := Aqc hG hsb; have wsb := Aqb hG; clear hG; generalize hG : Hp.set _ ub _ = H2; have lH2 := Aqc hG hub; have vub := Aqb hG; have vsb := lH2 _ _ wsb; have nsbub := Aqq wsb hub; clear hG wsb)
 have hs2 := hs.le (Hp.le_trans lH1 lH2)
 have l02 := Hp.le_trans lH1 lH2
 clear hsb hub hs lH1 lH2
 (refine @unH _ (zU Azz ?_); (try clear hK K); intro K hK hc)
 refine ((show ∀ H dv hv nv (hs : SmIn H dv hv nv s), _ from hbeg) H2 _ _ _ hs2).runs.mono ?_
 clear hbeg
 rintro _ H3 ⟨v, rfl, lH3, hv, _⟩
 have l03 := Hp.le_trans l02 lH3
 have vs3 := lH3 _ _ vsb
 have vu3 := lH3 _ _ vub
 clear l02 lH3 vsb vub hs2
 by_cases hz : z = 0
 ·subst hz
  replace hv := hv (.inl rfl)
  replace hr0 := hr0 rfl
  replace hr0 : Aqk _ := hr0
  clear hr1
  (refine @unH _ (zU Azz ?_); (try clear hK K); intro K hK hc)
  refine (Aw7 _ H3 s ok v hv).runs.mono ?_
  rintro _ H4 ⟨rfl, lH4⟩
  have l04 := Hp.le_trans l03 lH4
  have vs4 := lH4 _ _ vs3
  have vu4 := lH4 _ _ vu3
  have hv4 := hv.le lH4
  clear hv l03 lH4 vs3 vu3
  have hnl : Azi s <= 1000 := by
   have h1 := Bjo (Axl s) (Ajj ok)
   have h2 := Azp s
   have h3 := ok.h1
   rw [Awj]
   show (Azv (Axl s)).length <= 1000
   omega
  have hpl : ((s.places.toNat : Nat) : Int) = s.places := by omega
  have hok := Ajj ok
  have hln : (Axl s).length <= 1000 := by rw [Azp]; have := ok.h1; omega
  have hsu : Azv (Axl s) = susp s := rfl
  clear ok
  generalize Azi s = N at *
  generalize susp s = SS at *
  generalize Axl s = TT at *
  replace hsu : Aqk _ := hsu
  replace hok : Aqk _ := hok
  (refine @unH _ (zU Azz ?_); (try clear hK K); intro K hK hc)
  refine Axc (fun w a' H' => ∃ e, ∃ k : Nat, w = 6 - k /\ k <= s.places.toNat /\ a' = act 55 e [] /\ e 3 = .pointer (some ⟨ub, 0, none⟩) /\ e 7 = v /\ e 4 = .int .i64 (snS SS h N k).1 /\ e 5 = .int .i64 ((snS SS h N k).2 : Nat) /\ e 24 = .int .i64 s.places /\ e 25 = .int .i64 (k : Nat) /\ H.le H' /\ SlT H' v TT /\ H' ub = some (true, .cells #[.int .i64 h] 3 (0, 0))) (n := 6) ?_ ?_
  ·exact ⟨_, 0, by omega, by omega, rfl, rfl, rfl, rfl, rfl, rfl, rfl, l04, hv4, vu4⟩
  clear hv4 l04 vs4 vu4
  rintro w a' H5 ⟨e, k, rfl, hk, rfl, e3, e7, e4, e5, e24, e25, l05, hv5, vu5⟩
  by_cases hlt : k < s.places.toNat
  ·(refine @unH _ (zA Azz ?_); (try clear hK K); intro K hK hc)
   intro pb hpb
   (refine @unH _ (zU (aN Azz @Dqm) ?_); (try clear hK K); intro K hK hc)
   intro ab hab
   replace hab : (Hp.set H5 pb _) ab = none := hab
   generalize hG : Hp.set H5 pb _ = H6 at hab ⊢
   have l06 := Hp.le_trans l05 (Aqc hG hpb)
   have vp6 := Aqb hG
   have vu6 := (Aqc hG hpb) _ _ vu5
   have hv6 := hv5.le (Aqc hG hpb)
   clear hG hpb l05 vu5 hv5
   replace vp6 : H6 pb = some (true, .cells #[.int .i64 (k : Nat)] 3 (0, 0)) := vp6
   generalize hG : Hp.set H6 ab _ = H7
   have lH7 := Aqc hG hab
   have va7 := Aqb hG
   have vp7 := lH7 _ _ vp6
   have vu7 := lH7 _ _ vu6
   have hv7 := hv6.le lH7
   have l07 := Hp.le_trans l06 lH7
   clear hG hab l06 vu6 hv6 vp6 lH7
   refine hK _ _ ?_
   clear hK K
   (try refine @unH _ (zQ ?_))
   (refine @unH _ (zA Azz ?_); (try clear hK K); intro K hK hc)
   obtain ⟨c1, hc1⟩ : ∃ c1, c1 = cntL (sq1 k h) SS := ⟨_, rfl⟩
   obtain ⟨c2, hc2⟩ : ∃ c2, c2 = cntL (sq2 k h) SS := ⟨_, rfl⟩
   have hn1 : snW SS h k = max c1 c2 := by rw [hc1, hc2]; rfl
   have hsn : snS SS h N (k + 1) = if snW SS h k < (snS SS h N k).2 then ((k : Int), snW SS h k) else snS SS h N k := rfl
   rw [hn1] at hsn
   clear hn1
   generalize snS SS h N k = w at *
   obtain ⟨wb, wm⟩ := w
   replace hsn : Aqk _ := hsn
   replace hc1 : Aqk _ := hc1
   replace hc2 : Aqk _ := hc2
   refine Axc (fun w a' H' => ∃ e, ∃ j : Nat, w = 2 - j /\ j <= 2 /\ a' = act 55 e [] /\ e 3 = .pointer (some ⟨ub, 0, none⟩) /\ e 7 = v /\ e 4 = .int .i64 wb /\ e 5 = .int .i64 (wm : Nat) /\ e 8 = .pointer (some ⟨pb, 0, none⟩) /\ e 24 = .int .i64 s.places /\ e 25 = .int .i64 (k : Nat) /\ e 9 = .int .i64 ((if j = 0 then 0 else if j = 1 then c1 else max c1 c2 : Nat) : Int) /\ e 32 = .slice (some ⟨ab, 0, none⟩) 2 2 /\ e 33 = .int .i64 (2 : Nat) /\ e 34 = .int .i64 (j : Nat) /\ H.le H' /\ SlT H' v TT /\ H' ub = some (true, .cells #[.int .i64 h] 3 (0, 0)) /\ H' pb = some (true, .cells #[.int .i64 (k : Nat)] 3 (0, 0)) /\ H' ab = some (true, .cells #[.func (.func 70) #[] #[.pointer (some ⟨pb, 0, none⟩), .pointer (some ⟨ub, 0, none⟩)], .func (.func 71) #[] #[.pointer (some ⟨pb, 0, none⟩), .pointer (some ⟨ub, 0, none⟩)]] 123 (0, 0))) (n := 2) ?_ ?_
   ·exact ⟨_, 0, by omega, by omega, rfl, e3, e7, e4, e5, rfl, e24, e25, rfl, rfl, rfl, rfl, l07, hv7, vu7, vp7, va7⟩
   clear l07 hv7 vu7 vp7 va7 e3 e7 e4 e5 e24 e25
   rintro w a' H8 ⟨e, j, rfl, hj, rfl, e3, e7, e4, e5, e8, e24, e25, e9, e32, e33, e34, l08, hv8, vu8, vp8, va8⟩
   rcases (by omega : j = 0 ∨ j = 1 ∨ j = 2) with rfl | rfl | rfl
   ·simp only [if_true] at e9
    (refine @unH _ (zA Azz ?_); (try clear hK K); intro K hK hc)
    (intro tb htb; generalize hG : Hp.set _ tb _ = H9; have lH9 := Aqc hG htb; have vtb := Aqb hG; clear hG)
    have l09 := Hp.le_trans l08 lH9
    have hv9 := hv8.le lH9
    have vu9 := lH9 _ _ vu8
    have vp9 := lH9 _ _ vp8
    have va9 := lH9 _ _ va8
    clear lH9 htb l08 hv8 vu8 vp8 va8
    (refine @unH _ (zU Azz ?_); (try clear hK K); intro K hK hc)
    refine (Awq _ H9 v TT hv9 hok hln _ _ _ (sq1 k h) (Dwn _ H9 pb ub k h (by omega) (by omega) vp9 vu9)).runs.mono ?_
    rintro _ H10 ⟨rfl, lH10⟩
    rw [show Azv TT = SS from hsu, show cntL (sq1 k h) SS = c1 from Eq.symm hc1]
    have l10 := Hp.le_trans l09 lH10
    have hv10 := hv9.le lH10
    have vu10 := lH10 _ _ vu9
    have vp10 := lH10 _ _ vp9
    have va10 := lH10 _ _ va9
    clear l09 hv9 vu9 vp9 va9 lH10 vtb
    (refine @unH _ (zU Azz ?_); (try clear hK K); intro K hK hc)
    exact ⟨_, by omega, _, 1, rfl, by omega, rfl, e3, e7, e4, e5, e8, e24, e25, congrArg (Value.int .i64) (by simp only [Nat.one_ne_zero, if_true, if_false]; split <;> omega), e32, e33, rfl, l10, hv10, vu10, vp10, va10⟩
   ·simp only [Nat.one_ne_zero, if_true, if_false] at e9
    (refine @unH _ (zA Azz ?_); (try clear hK K); intro K hK hc)
    (intro tb htb; generalize hG : Hp.set _ tb _ = H9; have lH9 := Aqc hG htb; have vtb := Aqb hG; clear hG)
    have l09 := Hp.le_trans l08 lH9
    have hv9 := hv8.le lH9
    have vu9 := lH9 _ _ vu8
    have vp9 := lH9 _ _ vp8
    have va9 := lH9 _ _ va8
    clear lH9 htb l08 hv8 vu8 vp8 va8
    (refine @unH _ (zU Azz ?_); (try clear hK K); intro K hK hc)
    refine (Awq _ H9 v TT hv9 hok hln _ _ _ (sq2 k h) (Dwo _ H9 pb ub k h (by omega) (by omega) vp9 vu9)).runs.mono ?_
    rintro _ H10 ⟨rfl, lH10⟩
    rw [show Azv TT = SS from hsu, show cntL (sq2 k h) SS = c2 from Eq.symm hc2]
    have l10 := Hp.le_trans l09 lH10
    have hv10 := hv9.le lH10
    have vu10 := lH10 _ _ vu9
    have vp10 := lH10 _ _ vp9
    have va10 := lH10 _ _ va9
    clear l09 hv9 vu9 vp9 va9 lH10 vtb
    (refine @unH _ (zU Azz ?_); (try clear hK K); intro K hK hc)
    exact ⟨_, by omega, _, 2, rfl, by omega, rfl, e3, e7, e4, e5, e8, e24, e25, congrArg (Value.int .i64) (by simp only [show ¬ (2 : Nat) = 0 by decide, show ¬ (2 : Nat) = 1 by decide, if_true, if_false]; split <;> omega), e32, e33, rfl, l10, hv10, vu10, vp10, va10⟩
   ·simp only [show ¬ (2 : Nat) = 0 by decide, show ¬ (2 : Nat) = 1 by decide, if_false] at e9
    by_cases hb : max c1 c2 < wm
    ·replace hsn : Aqk (snS SS h N (k + 1) = ((k : Int), max c1 c2)) := Eq.trans (show snS SS h N (k + 1) = _ from hsn) (if_pos hb)
     generalize max c1 c2 = mm at *
     (refine @unH _ (zA Azz ?_); (try clear hK K); intro K hK hc)
     exact ⟨_, by omega, _, k + 1, rfl, by omega, rfl, e3, e7, by rw [show snS SS h N (k + 1) = _ from hsn]; rfl, by rw [show snS SS h N (k + 1) = _ from hsn]; rfl, e24, rfl, l08, hv8, vu8⟩
    ·replace hsn : Aqk (snS SS h N (k + 1) = (wb, wm)) := Eq.trans (show snS SS h N (k + 1) = _ from hsn) (if_neg hb)
     generalize max c1 c2 = mm at *
     (refine @unH _ (zA Azz ?_); (try clear hK K); intro K hK hc)
     exact ⟨_, by omega, _, k + 1, rfl, by omega, rfl, e3, e7, by rw [show snS SS h N (k + 1) = _ from hsn]; exact e4, by rw [show snS SS h N (k + 1) = _ from hsn]; exact e5, e24, rfl, l08, hv8, vu8⟩
  ·obtain rfl : k = s.places.toNat := by omega
   generalize snS SS h N s.places.toNat = w at *
   obtain ⟨b, m⟩ := w
   by_cases hb : b < 0
   ·replace hr0 : Aqk (r = (0, 0, 11)) := Eq.trans (show r = _ from hr0) (if_pos hb)
    (refine @unH _ (zA Azz ?_); (try clear hK K); intro K hK hc)
    (refine @unH _ ?_; refine zC results35 ?_)
    exact ⟨by rw [show r = _ from hr0], l05⟩
   ·replace hr0 : Aqk (r = (b, (m : Int), 0)) := Eq.trans (show r = _ from hr0) (if_neg hb)
    (refine @unH _ (zA Azz ?_); (try clear hK K); intro K hK hc)
    (refine @unH _ ?_; refine zC results35 ?_)
    exact ⟨by rw [show r = _ from hr0], l05⟩
 ·replace hr1 := hr1 hz
  replace hr1 : Aqk _ := hr1
  clear hv hr0
  (refine @unH _ (zU Azz ?_); (try clear hK K); intro K hK hc)
  (refine @unH _ ?_; refine zC results35 ?_)
  exact ⟨by rw [show r = _ from hr1], l03⟩
end Go.Proofs.YtnfnaehonkbknaaGreatDoor
end
