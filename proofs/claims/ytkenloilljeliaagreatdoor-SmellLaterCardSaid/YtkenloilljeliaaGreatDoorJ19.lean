/- Texts SmJ SmL SmV SmO SmO2. -/
import Derived.Test.YtkenloilljeliaaGreatDoorJ18
set_option linter.defProp false
set_option linter.unusedSimpArgs false
set_option linter.unusedVariables false
set_option maxRecDepth 100000
set_option maxHeartbeats 2000000
section
namespace Go.Proofs.YtkenloilljeliaaGreatDoor
open Go Go.X
def Av4 := And.intro (fun H => Aqp (H := H) Tryz.underlying26 rfl Tryz.sizeOf26) (And.intro @Bq7 @Bvh)
def Ajd := And.intro (fun H => Aqp (H := H) Tryz.underlying26 rfl Tryz.sizeOf26) (And.intro @Bq7 (And.intro (fun H => Aqv (H := H) (P := Tryz.prog) (h := Tryz.zeroValue110)) (And.intro (fun H => Axc (H := H) Tryz.sizeOf110) (And.intro @Bq8 (And.intro (fun H => Aqf (H := H) Tryz.underlying110 rfl) @Dj1)))))
def Ay8 := And.intro (fun H => Aqp (H := H) Tryz.underlying26 rfl Tryz.sizeOf26) (And.intro @Cql @Bvh)
def Bjs := And.intro (fun H => Aqf (H := H) Tryz.underlying110 rfl) (And.intro @Cvs (fun H => Axc (H := H) Tryz.sizeOf110))
theorem nilS (H : Hp) : SlI H (.slice none 0 0) [] := ⟨none, 0, rfl, Nat.le_refl _, fun i x h => by simp at h⟩
theorem Bx8 (s : Sm) : begE s [] 0 = if Aza s = 0 then 11 else 0 := by
 unfold begE
 simp
theorem Cxh (H : Hp) (s : Sm) (dv hv nv : Value) (hs : SmIn H dv hv nv s) (ok : SmOk s) :
  FnX Tryz.prog (.wg Tryz.prog) 13 #[smV s.places dv hv nv] H fun e H' => e = .returned (.tuple #[.int .i64 (Aza s : Nat), .int .i64 0]) /\ H.le H' := by
 obtain ⟨da, dc, ha, kc, na, nc, rfl, rfl, rfl, l1, l2, l3⟩ := hs.forms
 refine Aqm Tryz.func13 rfl Tryz.ntmps13 (by simp) ?_
 (refine @unH _ (zA Av4 ?_); (repeat refine inC fun hc => ?_); try refine inK fun K hK => ?_)
 (intro sb hsb; generalize hG : Hp.set _ sb _ = H1; have lH1 := Aqc hG hsb; have vsb := Aqb hG; clear hG)
 ((try refine @unH _ (zX Av4 ?_)); (try (refine hK _ _ ?_; clear hK K; try refine @unH _ (zQ ?_))); refine @unH _ (zA Av4 ?_); (repeat refine inC fun hc => ?_); try refine inK fun K hK => ?_)
 refine (Ajk H1 s _ _ _ (hs.le lH1) ok 0 _ [] (nilS H1) (by simp)).runs.mono ?_
 rw [Bx8]
 rintro _ H2 ⟨v, rfl, lH2, hv, _⟩
 have l02 := Hp.le_trans lH1 lH2
 clear lH1 lH2 vsb hs hsb
 by_cases hz : Aza s = 0
 ·rw [if_pos hz]
  have hz' : Aqk (Aza s = 0) := hz
  replace hz' : Aqk _ := hz'
  clear hz hv
  ((try refine @unH _ (zX Av4 ?_)); (try (refine hK _ _ ?_; clear hK K; try refine @unH _ (zQ ?_))); refine @unH _ (zA Av4 ?_); (repeat refine inC fun hc => ?_); try refine inK fun K hK => ?_)
  (refine @unH _ ?_; refine zB Tryz.results13 ?_)
  exact ⟨by rw [show Aza s = 0 from hz']; rfl, l02⟩
 ·rw [if_neg hz]
  rw [if_neg hz] at hv
  have hv2 := hv (.inl rfl)
  clear hv
  ((try refine @unH _ (zX Av4 ?_)); (try (refine hK _ _ ?_; clear hK K; try refine @unH _ (zQ ?_))); refine @unH _ (zA Av4 ?_); (repeat refine inC fun hc => ?_); try refine inK fun K hK => ?_)
  refine (Aw8 _ H2 s ok v hv2).runs.mono ?_
  rintro _ H3 ⟨rfl, lH3⟩
  have l03 := Hp.le_trans l02 lH3
  ((try refine @unH _ (zX Av4 ?_)); (try (refine hK _ _ ?_; clear hK K; try refine @unH _ (zQ ?_))); refine @unH _ (zA Av4 ?_); (repeat refine inC fun hc => ?_); try refine inK fun K hK => ?_)
  (refine @unH _ ?_; refine zB Tryz.results13 ?_)
  exact ⟨trivial, l03⟩
theorem Cyb (H : Hp) (s : Sm) (dv hv nv : Value) (hs : SmIn H dv hv nv s) (ok : SmOk s) :
  FnX Tryz.prog (.wg Tryz.prog) 49 #[smV s.places dv hv nv] H fun e H' => e = .returned (.bool (decide (0 < Aza s))) /\ H.le H' := by
 obtain ⟨da, dc, ha, kc, na, nc, rfl, rfl, rfl, l1, l2, l3⟩ := hs.forms
 refine Aqm Tryz.func49 rfl Tryz.ntmps49 (by simp) ?_
 (refine @unH _ (zA Ay8 ?_); (repeat refine inC fun hc => ?_); try refine inK fun K hK => ?_)
 (intro sb hsb; generalize hG : Hp.set _ sb _ = H1; have lH1 := Aqc hG hsb; have vsb := Aqb hG; clear hG)
 ((try refine @unH _ (zX Ay8 ?_)); (try (refine hK _ _ ?_; clear hK K; try refine @unH _ (zQ ?_))); refine @unH _ (zA Ay8 ?_); (repeat refine inC fun hc => ?_); try refine inK fun K hK => ?_)
 refine (Ay6 H1 s _ _ _ (hs.le lH1) ok).runs.mono ?_
 rintro _ H2 ⟨v, rfl, hv, lH2⟩
 have l02 := Hp.le_trans lH1 lH2
 ((try refine @unH _ (zX Ay8 ?_)); (try (refine hK _ _ ?_; clear hK K; try refine @unH _ (zQ ?_))); refine @unH _ (zA Ay8 ?_); (repeat refine inC fun hc => ?_); try refine inK fun K hK => ?_)
 refine (Aw8 _ H2 s ok v hv).runs.mono ?_
 rintro _ H3 ⟨rfl, lH3⟩
 have l03 := Hp.le_trans l02 lH3
 ((try refine @unH _ (zX Ay8 ?_)); (try (refine hK _ _ ?_; clear hK K; try refine @unH _ (zQ ?_))); refine @unH _ (zA Ay8 ?_); (repeat refine inC fun hc => ?_); try refine inK fun K hK => ?_)
 (refine @unH _ ?_; refine z9 Tryz.results49 ?_)
 refine ⟨?_, l03⟩
 have : decide ((0 : Int) < ((Aza s : Nat) : Int)) = decide (0 < Aza s) := by
  rw [Bool.eq_iff_iff]
  simp
 rw [<- this]
def Cj4 (L : List (Int × Int × Hint)) : Nat := oOf (L.map fun x => x.1)
theorem Bj5 (main : Md) (H : Hp) (ob m : Nat) (ham hour : Int) (x : Hint) (hm : m < 64) (h0 : 0 <= ham) (h1 : ham < 6) (vo : H ob = some (true, .cells #[.int .u8 m] 110 (0, 0))) :
  FnX Tryz.prog main 63 #[.int .i64 ham, .int .i64 hour, .agg (Axv x).toArray, .pointer (some ⟨ob, 0, none⟩)] H fun e H' => e = .returned (.tuple #[]) /\ H' ob = some (true, .cells #[.int .u8 (Ava m ham.toNat : Nat)] 110 (0, 0)) /\ ∀ b x, b ≠ ob -> H b = some x -> H' b = some x := by
 refine Aqm Tryz.func63 rfl Tryz.ntmps63 (by simp) ?_
 (refine @unH _ (zA Bjs ?_); (repeat refine inC fun hc => ?_); try refine inK fun K hK => ?_)
 (intro b hb; generalize hG : Hp.set _ b _ = H1; have lH1 := Aqc hG hb; have vb := Aqb hG; clear hG)
 have vo1 := lH1 _ _ vo
 ((try refine @unH _ (zX Bjs ?_)); (try (refine hK _ _ ?_; clear hK K; try refine @unH _ (zQ ?_))); refine @unH _ (zA Bjs ?_); (repeat refine inC fun hc => ?_); try refine inK fun K hK => ?_)
 refine (Bky main H1 m ham hm h0 h1).runs.mono ?_
 rintro _ _ ⟨rfl, hQ⟩
 rw [hQ]
 clear hQ
 ((try refine @unH _ (zX Bjs ?_)); (try (refine hK _ _ ?_; clear hK K; try refine @unH _ (zQ ?_))); refine @unH _ (zA Bjs ?_); (repeat refine inC fun hc => ?_); try refine inK fun K hK => ?_)
 (refine @unH _ ?_; refine zD Tryz.results63 ?_)
 exact ⟨by trivial, Axg, fun b x hb hx => by rw [Aqw hb]; exact lH1 _ _ hx⟩
theorem Bxn {s : Sm} (ok : SmOk s) : ∀ t ∈ Axp s, 0 <= t.ham /\ t.ham < 3 := fun t ht => by
 simp only [Axp, List.mem_map, List.mem_range] at ht
 obtain ⟨i, hi, rfl⟩ := ht
 have := ok.h1
 exact ⟨by show (0 : Int) <= (i : Int); omega, by show (i : Int) < 3; omega⟩
theorem Cz7 {s : Sm} (ok : SmOk s) : ∀ x ∈ susp s, 0 <= x.1 /\ x.1 < 3 := fun x hx => by
 unfold susp Az3 at hx
 obtain ⟨t, ht, hx⟩ := List.mem_flatMap.1 hx
 unfold Awb at hx
 obtain ⟨y, _, rfl⟩ := List.mem_map.1 hx
 exact Bxn ok t ht
def Dxi (L : List (Int × Int × Hint)) : Nat := L.foldl (fun m x => if 0 <= x.1 /\ x.1 < 3 then Ava m x.1.toNat else m) 0
theorem Dxk (L : List (Int × Int × Hint)) : Dxi L < 64 := by
 have key : ∀ (L : List (Int × Int × Hint)) (m : Nat), m < 64 -> L.foldl (fun m x => if 0 <= x.1 /\ x.1 < 3 then Ava m x.1.toNat else m) m < 64 := by
  intro L
  induction L with
  | nil => intro m h; exact h
  | cons x L ih =>
   intro m h
   rw [List.foldl_cons]
   refine ih _ ?_
   split
   ·exact Cz3 h (by omega) (by omega)
   ·exact h
 exact key L 0 (by decide)
theorem Dxj {L : List (Int × Int × Hint)} (h : ∀ x ∈ L, 0 <= x.1 /\ x.1 < 3) : Dxi L = Cj4 L := by
 have key : ∀ (L : List (Int × Int × Hint)) (m : Nat), (∀ x ∈ L, 0 <= x.1 /\ x.1 < 3) -> L.foldl (fun m x => if 0 <= x.1 /\ x.1 < 3 then Ava m x.1.toNat else m) m = (L.map fun x => x.1).foldl (fun m x => Ava m x.toNat) m := by
  intro L
  induction L with
  | nil => intro m _; rfl
  | cons x L ih =>
   intro m h
   rw [List.foldl_cons, List.map_cons, List.foldl_cons, if_pos (h x List.mem_cons_self), ih _ (fun y hy => h y (List.mem_cons_of_mem _ hy))]
 exact key L 0 h
theorem sSuspects_spec (H : Hp) (s : Sm) (dv hv nv : Value) (hs : SmIn H dv hv nv s) (ok : SmOk s) :
  FnX Tryz.prog (.wg Tryz.prog) 24 #[smV s.places dv hv nv] H fun e H' => ∃ v, e = .returned (.tuple #[v, .int .i64 (if Aza s = 0 then 11 else 0)]) /\ SlI H' v (if Aza s = 0 then [] else Ayz (Cj4 (susp s))) /\ H.le H' := by
 obtain ⟨da, dc, ha, kc, na, nc, rfl, rfl, rfl, l1, l2, l3⟩ := hs.forms
 have hm64 : Cj4 (susp s) < 64 := Cw1 _ 0 (by decide) fun x hx => by
  obtain ⟨y, hy, rfl⟩ := List.mem_map.1 hx
  have := Cz7 ok y hy
  omega
 by_cases hz : Aza s = 0
 ·simp only [if_pos hz]
  refine Aqm Tryz.func24 rfl Tryz.ntmps24 (by simp) ?_
  (refine @unH _ (zA Ajd ?_); (repeat refine inC fun hc => ?_); try refine inK fun K hK => ?_)
  (intro sb hsb; generalize hG : Hp.set _ sb _ = H1; have lH1 := Aqc hG hsb; have vsb := Aqb hG; clear hG)
  ((try refine @unH _ (zX Ajd ?_)); (try (refine hK _ _ ?_; clear hK K; try refine @unH _ (zQ ?_))); refine @unH _ (zA Ajd ?_); (repeat refine inC fun hc => ?_); try refine inK fun K hK => ?_)
  refine (Ajk H1 s _ _ _ (hs.le lH1) ok 0 _ [] (nilS H1) (by simp)).runs.mono ?_
  rw [Bx8, if_pos hz]
  rintro _ H2 ⟨v, rfl, lH2, hv, _⟩
  have l02 := Hp.le_trans lH1 lH2
  clear lH1 lH2 vsb hs hsb
  clear hz hv
  ((try refine @unH _ (zX Ajd ?_)); (try (refine hK _ _ ?_; clear hK K; try refine @unH _ (zQ ?_))); refine @unH _ (zA Ajd ?_); (repeat refine inC fun hc => ?_); try refine inK fun K hK => ?_)
  (refine @unH _ ?_; refine zB Tryz.results24 ?_)
  exact ⟨_, rfl, nilS _, l02⟩
 ·simp only [if_neg hz]
  refine Aqm Tryz.func24 rfl Tryz.ntmps24 (by simp) ?_
  (refine @unH _ (zA Ajd ?_); (repeat refine inC fun hc => ?_); try refine inK fun K hK => ?_)
  (intro sb hsb; generalize hG : Hp.set _ sb _ = H1; have lH1 := Aqc hG hsb; have vsb := Aqb hG; clear hG)
  ((try refine @unH _ (zX Ajd ?_)); (try (refine hK _ _ ?_; clear hK K; try refine @unH _ (zQ ?_))); refine @unH _ (zA Ajd ?_); (repeat refine inC fun hc => ?_); try refine inK fun K hK => ?_)
  refine (Ajk H1 s _ _ _ (hs.le lH1) ok 0 _ [] (nilS H1) (by simp)).runs.mono ?_
  rw [Bx8, if_neg hz]
  rintro _ H2 ⟨v, rfl, lH2, hv, _⟩
  have l02 := Hp.le_trans lH1 lH2
  clear lH1 lH2 vsb hs hsb
  have hv2 := hv (.inl rfl)
  clear hv hz
  ((try refine @unH _ (zX Ajd ?_)); (try (refine hK _ _ ?_; clear hK K; try refine @unH _ (zQ ?_))); refine @unH _ (zA Ajd ?_); (repeat refine inC fun hc => ?_); try refine inK fun K hK => ?_)
  intro ob hob
  ((try refine @unH _ (zX Ajd ?_)); (try (refine hK _ _ ?_; clear hK K; try refine @unH _ (zQ ?_))); refine @unH _ (zA Ajd ?_); (repeat refine inC fun hc => ?_); try refine inK fun K hK => ?_)
  generalize hG : Hp.set H2 ob _ = H3
  have lH3 := Aqc hG hob
  have vo3 := Aqb hG
  have l03 := Hp.le_trans l02 lH3
  have h0ob := hob
  have h00 := Hp.le_none l02 hob
  clear hG hob
  have hone := Bz1 (.wg Tryz.prog) (A := fun ham _ _ => 0 <= ham /\ ham < 3) (yf := .func 63) (yi := #[]) (yc := #[.pointer (some ⟨ob, 0, none⟩)]) H2 H3 v _ hv2 ob (fun L => .cells #[.int .u8 (Dxi L : Nat)] 110 (0, 0)) lH3 h0ob (by rw [vo3]; rfl) (fun L H' ham hour x h1 h2 hxo ⟨a0, a3⟩ => by
   refine Ajz.fn (fun _ _ => Dj0 _) ((Bj5 _ H' ob _ ham hour x (Dxk L) a0 (by omega) h1).mono ?_)
   rintro _ H4 ⟨rfl, h3, h4⟩
   refine ⟨rfl, ?_, h4⟩
   rw [h3]
   unfold Dxi
   rw [List.foldl_append, List.foldl_cons, List.foldl_nil, if_pos ⟨a0, a3⟩]) (Aj4 ok) (fun t ht h x _ _ => Bxn ok t ht) (by rw [Az6]; have := ok.h1; omega)
  refine hone.runs.mono ?_
  clear hone
  rintro _ H4 ⟨rfl, h3, h4⟩
  rw [show Az3 (Axp s) = susp s from rfl, Dxj (Cz7 ok)] at h3
  have l04 : H.le H4 := fun b x hx => h4 b x (fun e => by rw [e, h00] at hx; cases hx) (l03 _ _ hx)
  replace h3 : H4 ob = some (true, .cells #[.int .u8 (Cj4 (susp s) : Nat)] 110 (0, 0)) := h3
  clear h4 vo3 l03 l02
  ((try refine @unH _ (zX Ajd ?_)); (try (refine hK _ _ ?_; clear hK K; try refine @unH _ (zQ ?_))); refine @unH _ (zA Ajd ?_); (repeat refine inC fun hc => ?_); try refine inK fun K hK => ?_)
  refine (Cku _ H4 _ hm64).runs.mono ?_
  rintro _ H5 ⟨w, rfl, hw, lH5⟩
  have l05 := Hp.le_trans l04 lH5
  ((try refine @unH _ (zX Ajd ?_)); (try (refine hK _ _ ?_; clear hK K; try refine @unH _ (zQ ?_))); refine @unH _ (zA Ajd ?_); (repeat refine inC fun hc => ?_); try refine inK fun K hK => ?_)
  (refine @unH _ ?_; refine zB Tryz.results24 ?_)
  exact ⟨_, rfl, hw, l05⟩
def Ak1 := And.intro (fun H => Aqp (H := H) Tryz.underlying26 rfl Tryz.sizeOf26) (And.intro @Azo (And.intro @Bq7 (And.intro @Djx @Djy)))
def Awz := And.intro (fun H => Aqv (H := H) (P := Tryz.prog) (h := Tryz.zeroValue97)) (And.intro @Bq8 (And.intro (fun H => Aqp (H := H) Tryz.underlying97 rfl Tryz.sizeOf97) (fun H => Aqr (H := H) Tryz.sizeOf97)))
def Av5 := And.intro (fun H => Aqd (H := H) Tryz.underlying97 (i := 0) rfl (off := 0) rfl Tryz.sizeOf3) (And.intro (fun H => Aqf (H := H) Tryz.underlying3 rfl) (fun H => Aqd (H := H) Tryz.underlying97 (i := 1) rfl (off := 1) rfl Tryz.sizeOf3))
def Bqc := And.intro (fun H => Aqf (H := H) Tryz.underlying3 rfl) (And.intro (fun H => Aqd (H := H) Tryz.underlying103 (i := 0) rfl (off := 0) rfl Tryz.sizeOf99) (And.intro (fun H => Aq5 (H := H) Tryz.underlying99 Tryz.sizeOf97) (And.intro (fun H => Aqd (H := H) Tryz.underlying97 (i := 0) rfl (off := 0) rfl Tryz.sizeOf3) (And.intro @Bvi (fun H => Aqd (H := H) Tryz.underlying97 (i := 1) rfl (off := 1) rfl Tryz.sizeOf3)))))
def gB (x : Hint) (p : Int) : Bd := x.bs.getD p.toNat bd0
theorem Czq {x : Hint} (h : Axr x) {p : Int} (h0 : 0 <= p) (h1 : p < 6) : x.bs[p.toNat]? = some (gB x p) := by
 unfold gB
 rw [List.getD, List.getElem?_eq_getElem (by rw [h.b]; omega)]
 rfl
abbrev bdO (b : Bd) : Obj := .cells #[.int .i64 b.lo, .int .i64 b.hi, .bool b.some] 97 (0, 0)
theorem Dqg (b : Bd) : BdC #[.int .i64 b.lo, .int .i64 b.hi, .bool b.some] 0 b := ⟨rfl, rfl, rfl⟩
theorem Cjj (b b' : Bd) : Bjx #[.int .i64 b.lo, .int .i64 b.hi, .bool b.some] 0 b' = #[.int .i64 b'.lo, .int .i64 b'.hi, .bool b'.some] := by simp [Bjx]
theorem Avn (main : Md) (H : Hp) (bb : Nat) (b : Bd) (x : Int) (vb : H bb = some (true, bdO b)) :
  FnX Tryz.prog main 58 #[.pointer (some ⟨bb, 0, none⟩), .int .i64 x] H fun e' H' => e' = .returned (.tuple #[]) /\ H' bb = some (true, bdO (Azh b x)) /\ ∀ y, y ≠ bb -> H' y = H y :=
 (Byn main H bb 0 b x _ _ vb (Dqg b)).mono fun e H' ⟨h1, h2, h3⟩ => ⟨h1, by rw [h2, Cjj], h3⟩
def arrF (p : Int) (b : Bd) (x : Int × Int × Hint) : Bd := Azh (Azh b (gB x.2.2 p).lo) (gB x.2.2 p).hi
theorem Bk8 (main : Md) (H : Hp) (ob pb : Nat) (p : Int) (h0 : 0 <= p) (h1 : p < 6) (ham hour : Int) (x : Hint) (hx : Axr x) (b : Bd) (vo : H ob = some (true, bdO b)) (vp : H pb = some (true, .cells #[.int .i64 p] 3 (0, 0))) (hne : pb ≠ ob) :
  FnX Tryz.prog main 81 #[.int .i64 ham, .int .i64 hour, .agg (Axv x).toArray, .pointer (some ⟨ob, 0, none⟩), .pointer (some ⟨pb, 0, none⟩)] H fun e H' => e = .returned (.tuple #[]) /\ H' ob = some (true, bdO (arrF p b (ham, hour, x))) /\ ∀ b x, b ≠ ob -> H b = some x -> H' b = some x := by
 have hl := Ax2 hx
 have hex := Ak5 hx
 have hbd := Bqp hx (Czq hx h0 h1)
 obtain ⟨hb1, hb2, _⟩ := hbd
 unfold arrF
 simp only
 generalize gB x p = g at *
 generalize Axv x = HC at *
 refine Aqm Tryz.func81 rfl Tryz.ntmps81 (by simp) ?_
 (refine @unH _ (zA Bqc ?_); (repeat refine inC fun hc => ?_); try refine inK fun K hK => ?_)
 (intro b hb; generalize hG : Hp.set _ b _ = H1; have lH1 := Aqc hG hb; have vb := Aqb hG; clear hG)
 have vo1 := lH1 _ _ vo
 have vp1 := lH1 _ _ vp
 ((try refine @unH _ (zX Bqc ?_)); (try (refine hK _ _ ?_; clear hK K; try refine @unH _ (zQ ?_))); refine @unH _ (zA Bqc ?_); (repeat refine inC fun hc => ?_); try refine inK fun K hK => ?_)
 refine (Avn main H1 ob _ g.lo vo1).runs.mono ?_
 rintro _ H2 ⟨rfl, h21, h22⟩
 have nob : b ≠ ob := fun e => by rw [e, vo] at hb; cases hb
 have vp2 := (h22 pb hne).trans vp1
 have vb2 := (h22 b nob).trans vb
 have hf2 : ∀ c z, c ≠ ob -> H c = some z -> H2 c = some z := fun c z hc hz => (h22 c hc).trans (lH1 _ _ hz)
 clear vo1 vp1 vb h22 lH1
 ((try refine @unH _ (zX Bqc ?_)); (try (refine hK _ _ ?_; clear hK K; try refine @unH _ (zQ ?_))); refine @unH _ (zA Bqc ?_); (repeat refine inC fun hc => ?_); try refine inK fun K hK => ?_)
 refine (Avn main H2 ob _ g.hi h21).runs.mono ?_
 rintro _ H3 ⟨rfl, h31, h32⟩
 ((try refine @unH _ (zX Bqc ?_)); (try (refine hK _ _ ?_; clear hK K; try refine @unH _ (zQ ?_))); refine @unH _ (zA Bqc ?_); (repeat refine inC fun hc => ?_); try refine inK fun K hK => ?_)
 (refine @unH _ ?_; refine zD Tryz.results81 ?_)
 exact ⟨rfl, h31, fun c z hc hz => (h32 c hc).trans (hf2 c z hc hz)⟩
def arrL (L : List (Int × Int × Hint)) (p : Int) : Bd := L.foldl (arrF p) bd0
theorem Cve (L : List (Int × Int × Hint)) (p : Int) (x : Int × Int × Hint) : arrL (L ++ [x]) p = arrF p (arrL L p) x := by simp [arrL]
theorem Bwq (main : Md) (H : Hp) (v : Value) (l : List Trail) (hv : SlT H v l) (hok : ∀ t ∈ l, Ax6 t) (hl : l.length <= 1000) (p : Int) (h0 : 0 <= p) (h1 : p < 6) :
  FnX Tryz.prog main 60 #[v, .int .i64 p] H fun e H' => e = .returned (.agg #[.int .i64 (arrL (Az3 l) p).lo, .int .i64 (arrL (Az3 l) p).hi, .bool (arrL (Az3 l) p).some]) /\ H.le H' := by
 obtain ⟨a, cap, rfl, hcap⟩ := hv.isSlice
 refine Aqm Tryz.func60 rfl Tryz.ntmps60 (by simp) ?_
 (refine @unH _ (zA Awz ?_); (repeat refine inC fun hc => ?_); try refine inK fun K hK => ?_)
 (intro pb hpb rb hrb; replace hrb : (Hp.set _ pb _) rb = none := hrb; generalize hG : Hp.set _ pb _ = H1 at hrb ⊢; have lH1 := Aqc hG hpb; have wpb := Aqb hG; clear hG; generalize hG : Hp.set _ rb _ = H2; have lH2 := Aqc hG hrb; have vrb := Aqb hG; have vpb := lH2 _ _ wpb; have npbrb := Aqq wpb hrb; clear hG wpb)
 have l02 := Hp.le_trans lH1 lH2
 have hv2 := hv.le l02
 have h0rb := Hp.le_none lH1 hrb
 clear lH1 lH2 hpb
 ((try refine @unH _ (zX Awz ?_)); (try (refine hK _ _ ?_; clear hK K; try refine @unH _ (zQ ?_))); refine @unH _ (zA Awz ?_); (repeat refine inC fun hc => ?_); try refine inK fun K hK => ?_)
 intro ob hob
 have nob := Aqq vpb hob
 have nrb := Aqq vrb hob
 generalize hG : Hp.set H2 ob _ = H3
 have lH3 := Aqc hG hob
 have vo3 := Aqb hG
 have vp3 := Aqh hG vpb nob
 have vr3 := Aqh hG vrb nrb
 have h00 := Hp.le_none l02 hob
 clear hG vpb vrb
 have hone := Bz1 main (A := fun _ _ _ => True) (yf := .func 81) (yi := #[]) (yc := #[.pointer (some ⟨ob, 0, none⟩), .pointer (some ⟨pb, 0, none⟩)]) H2 H3 _ _ hv2 ob (fun L => bdO (arrL L p)) lH3 hob (by rw [vo3]; rfl) (fun L H' ham hour x g1 g2 hxo _ => by
  refine Ajz.fn (fun _ _ => Dka _) ((Bk8 main H' ob pb p h0 h1 ham hour x hxo _ g1 (g2 _ _ nob vp3) nob).mono ?_)
  rintro _ H4 ⟨rfl, h3, h4⟩
  exact ⟨rfl, by rw [h3, Cve], h4⟩) hok (fun _ _ _ _ _ _ => trivial) hl
 ((try refine @unH _ (zX Awz ?_)); (try (refine hK _ _ ?_; clear hK K; try refine @unH _ (zQ ?_))); refine @unH _ (zA Awz ?_); (repeat refine inC fun hc => ?_); try refine inK fun K hK => ?_)
 refine hone.runs.mono ?_
 clear hone
 rintro _ H4 ⟨rfl, h3, h4⟩
 have l04 : H.le H4 := fun b x hx => h4 b x (fun e => by rw [e, h00] at hx; cases hx) (lH3 _ _ (l02 _ _ hx))
 have vr4 := h4 _ _ nrb vr3
 generalize arrL (Az3 l) p = w at *
 clear h4 vr3 vp3 vo3 l02 lH3 hv2
 ((try refine @unH _ (zX Awz ?_)); (try (refine hK _ _ ?_; clear hK K; try refine @unH _ (zQ ?_))); refine @unH _ (zA Awz ?_); (repeat refine inC fun hc => ?_); try refine inK fun K hK => ?_)
 (refine Axt ?_; (try simp only [nq, ↓reduceIte, Nat.reduceEqDiff]); rw [Aq7, Ax7 Tryz.results60 (by decide) (b := rb) (o := 0) rfl Tryz.underlying97 rfl Tryz.sizeOf97]; simp -implicitDefEqProofs (disch := first | omega | (simp only [qd] <;> omega)) only [xq, ↓xp, qc, Nat.reduceAdd, List.range, List.range.loop, fine, Nat.reduceEqDiff, ↓reduceIte, yielded, reduceCtorEq, Nat.reduceLT, Nat.reduceMul, Nat.reduceSub, one, Nat.reduceLeDiff, Aqi, Awz, Axm, List.extract_toArray])
 exact fun c z hc => by rw [Aqw (fun e => by rw [e, h0rb] at hc; cases hc)]; exact l04 _ _ hc
def Cyy (b : Bd) (h : Int) : Int := if b.lo <= h /\ h < b.hi then 3 else if h < b.lo then 2 else 1
theorem Bv7 (main : Md) (H : Hp) (b : Bd) (h : Int) :
  FnX Tryz.prog main 61 #[.agg #[.int .i64 b.lo, .int .i64 b.hi, .bool b.some], .int .i64 h] H fun e H' => e = .returned (.int .i64 (Cyy b h)) /\ H.le H' := by
 unfold Cyy
 by_cases g1 : b.lo <= h
 ·have d1 : decide (b.lo <= h) = true := by simpa using g1
  by_cases g2 : h < b.hi
  ·have d2 : decide (h < b.hi) = true := by simpa using g2
   rw [if_pos ⟨g1, g2⟩]
   clear g1 g2
   refine Aqm Tryz.func61 rfl Tryz.ntmps61 (by simp) ?_
   (refine @unH _ (zA Av5 ?_); (repeat refine inC fun hc => ?_); try refine inK fun K hK => ?_)
   (intro bb hbb; generalize hG : Hp.set _ bb _ = H1; have lH1 := Aqc hG hbb; have vbb := Aqb hG; clear hG)
   ((try refine @unH _ (zX Av5 ?_)); (try (refine hK _ _ ?_; clear hK K; try refine @unH _ (zQ ?_))); refine @unH _ (zA Av5 ?_); (repeat refine inC fun hc => ?_); try refine inK fun K hK => ?_)
   (refine @unH _ ?_; refine z9 Tryz.results61 ?_)
   exact ⟨rfl, lH1⟩
  ·have d2 : decide (h < b.hi) = false := by simpa using g2
   have d3 : decide (h < b.lo) = false := by simp; omega
   rw [if_neg (fun g => g2 g.2), if_neg (by omega : ¬ h < b.lo)]
   clear g1 g2
   refine Aqm Tryz.func61 rfl Tryz.ntmps61 (by simp) ?_
   (refine @unH _ (zA Av5 ?_); (repeat refine inC fun hc => ?_); try refine inK fun K hK => ?_)
   (intro bb hbb; generalize hG : Hp.set _ bb _ = H1; have lH1 := Aqc hG hbb; have vbb := Aqb hG; clear hG)
   ((try refine @unH _ (zX Av5 ?_)); (try (refine hK _ _ ?_; clear hK K; try refine @unH _ (zQ ?_))); refine @unH _ (zA Av5 ?_); (repeat refine inC fun hc => ?_); try refine inK fun K hK => ?_)
   (refine @unH _ ?_; refine z9 Tryz.results61 ?_)
   exact ⟨rfl, lH1⟩
 ·have d1 : decide (b.lo <= h) = false := by simpa using g1
  have d3 : decide (h < b.lo) = true := by simp; omega
  rw [if_neg (fun g => g1 g.1), if_pos (by omega)]
  clear g1
  refine Aqm Tryz.func61 rfl Tryz.ntmps61 (by simp) ?_
  (refine @unH _ (zA Av5 ?_); (repeat refine inC fun hc => ?_); try refine inK fun K hK => ?_)
  (intro bb hbb; generalize hG : Hp.set _ bb _ = H1; have lH1 := Aqc hG hbb; have vbb := Aqb hG; clear hG)
  ((try refine @unH _ (zX Av5 ?_)); (try (refine hK _ _ ?_; clear hK K; try refine @unH _ (zQ ?_))); refine @unH _ (zA Av5 ?_); (repeat refine inC fun hc => ?_); try refine inK fun K hK => ?_)
  (refine @unH _ ?_; refine z9 Tryz.results61 ?_)
  exact ⟨rfl, lH1⟩
theorem Dwj {H : Hp} {b : Nat} {x : Int} {p : Bool} {fr : Nat × Nat} (h : H b = some (p, .cells #[.int .i64 x] 3 fr)) : SlI H (.slice (some ⟨b, 0, none⟩) 1 1) [x] := by
 refine ⟨some ⟨b, 0, none⟩, 1, rfl, Nat.le_refl _, fun i y hy => ?_⟩
 rcases i with _ | i
 ·simp only [List.getElem?_cons_zero, Option.some.injEq] at hy
  subst hy
  exact ⟨b, 0, p, _, _, rfl, h, rfl⟩
 ·simp at hy
theorem Cvg {s : Sm} (ok : SmOk s) {p h : Int} (hb : begE s [p] h = 0) : 0 <= p /\ p < 6 := by
 unfold begE at hb
 have h6 := ok.p1
 simp only [List.any_cons, List.any_nil, Bool.or_false, Bool.or_eq_true, decide_eq_true_eq] at hb
 split at hb
 ·cases hb
 ·omega
def Cyx (s : Sm) (p h : Int) : Int := if begE s [p] h = 0 then Cyy (arrL (susp s) p) h else 0
theorem Bv3 (H : Hp) (s : Sm) (dv hv nv : Value) (hs : SmIn H dv hv nv s) (ok : SmOk s) (p h : Int) :
  FnX Tryz.prog (.wg Tryz.prog) 20 #[smV s.places dv hv nv, .int .i64 p, .int .i64 h] H fun e H' => e = .returned (.tuple #[.int .i64 (Cyx s p h), .int .i64 (begE s [p] h)]) /\ H.le H' := by
 obtain ⟨da, dc, ha, kc, na, nc, rfl, rfl, rfl, l1, l2, l3⟩ := hs.forms
 have hpp : begE s [p] h = 0 -> 0 <= p /\ p < 6 := Cvg ok
 have hr0 : begE s [p] h = 0 -> Cyx s p h = Cyy (arrL (susp s) p) h := fun e => if_pos e
 have hr1 : begE s [p] h ≠ 0 -> Cyx s p h = 0 := fun e => if_neg e
 have hbeg := fun H dv hv nv (hs : SmIn H dv hv nv s) pv (hp : SlI H pv [p]) => Ajk H s dv hv nv hs ok h pv [p] hp (by simp)
 generalize begE s [p] h = z at *
 generalize Cyx s p h = r at *
 replace hpp : Aqk _ := hpp
 replace hr0 : Aqk _ := hr0
 replace hr1 : Aqk _ := hr1
 replace hbeg : Aqk _ := hbeg
 refine Aqm Tryz.func20 rfl Tryz.ntmps20 (by simp) ?_
 (refine @unH _ (zA Ak1 ?_); (repeat refine inC fun hc => ?_); try refine inK fun K hK => ?_)
 (intro sb hsb; generalize hG : Hp.set _ sb _ = H1; have lH1 := Aqc hG hsb; have vsb := Aqb hG; clear hG)
 have hs1 := hs.le lH1
 have h0sb := hsb
 clear hsb
 ((try refine @unH _ (zX Ak1 ?_)); (try (refine hK _ _ ?_; clear hK K; try refine @unH _ (zQ ?_))); refine @unH _ (zA Ak1 ?_); (repeat refine inC fun hc => ?_); try refine inK fun K hK => ?_)
 (intro pb hpb; generalize hG : Hp.set _ pb _ = H2; have lH2 := Aqc hG hpb; have vpb := Aqb hG; clear hG)
 have hs2 := hs1.le lH2
 have l02 := Hp.le_trans lH1 lH2
 have hp2 : SlI H2 (.slice (some ⟨pb, 0, none⟩) 1 1) [p] := Dwj vpb
 clear hs hs1 vsb hpb lH1 lH2 vpb
 refine ((show ∀ H dv hv nv (hs : SmIn H dv hv nv s) pv (hp : SlI H pv [p]), _ from hbeg) H2 _ _ _ hs2 _ hp2).runs.mono ?_
 clear hbeg
 rintro _ H3 ⟨v, rfl, lH3, hv, _⟩
 have l03 := Hp.le_trans l02 lH3
 clear hs2 hp2 lH3 l02 h0sb
 by_cases hz : z = 0
 ·subst hz
  replace hv := hv (.inl rfl)
  obtain ⟨p0, p1⟩ := hpp rfl
  replace hr0 : Aqk (r = Cyy (arrL (susp s) p) h) := hr0 rfl
  clear hpp hr1
  ((try refine @unH _ (zX Ak1 ?_)); (try (refine hK _ _ ?_; clear hK K; try refine @unH _ (zQ ?_))); refine @unH _ (zA Ak1 ?_); (repeat refine inC fun hc => ?_); try refine inK fun K hK => ?_)
  refine (Bwq _ H3 v _ hv (Aj4 ok) (by rw [Az6]; have := ok.h1; omega) p p0 p1).runs.mono ?_
  rintro _ H4 ⟨rfl, lH4⟩
  have l04 := Hp.le_trans l03 lH4
  clear l03 lH4
  rw [show arrL (Az3 (Axp s)) p = arrL (susp s) p from rfl]
  generalize arrL (susp s) p = w at *
  ((try refine @unH _ (zX Ak1 ?_)); (try (refine hK _ _ ?_; clear hK K; try refine @unH _ (zQ ?_))); refine @unH _ (zA Ak1 ?_); (repeat refine inC fun hc => ?_); try refine inK fun K hK => ?_)
  refine (Bv7 _ H4 w h).runs.mono ?_
  rintro _ H5 ⟨rfl, lH5⟩
  ((try refine @unH _ (zX Ak1 ?_)); (try (refine hK _ _ ?_; clear hK K; try refine @unH _ (zQ ?_))); refine @unH _ (zA Ak1 ?_); (repeat refine inC fun hc => ?_); try refine inK fun K hK => ?_)
  (refine @unH _ ?_; refine zB Tryz.results20 ?_)
  exact ⟨by rw [show r = _ from hr0], Hp.le_trans l04 lH5⟩
 ·replace hr1 : Aqk (r = 0) := hr1 hz
  clear hv hpp hr0
  ((try refine @unH _ (zX Ak1 ?_)); (try (refine hK _ _ ?_; clear hK K; try refine @unH _ (zQ ?_))); refine @unH _ (zA Ak1 ?_); (repeat refine inC fun hc => ?_); try refine inK fun K hK => ?_)
  (refine @unH _ ?_; refine zB Tryz.results20 ?_)
  exact ⟨by rw [show r = _ from hr1], l03⟩
def fitS (s : Sm) (i b : Nat) : List (List Int × List Int) := fitL s (trL s (s.hampers.getD i 0)) b
theorem Cvm (s : Sm) (L : List (List Int × List Int)) {b : Nat} (h : b < 13) : (byL s L)[b]? = some (Ayu s L (b : Int)) := by
 unfold byL
 rw [List.getElem?_map, List.getElem?_range h]
 rfl
theorem Byz (s : Sm) (i : Nat) (x : Int × Int × Hint) : x ∈ Awb (Azp s i) ↔ ∃ b : Nat, b < 13 /\ fitS s i b ≠ [] /\ x = ((i : Int), (b : Int), Ayu s (trL s (s.hampers.getD i 0)) (b : Int)) := by
 unfold Awb
 simp only [List.mem_map, List.mem_filter, Azp]
 constructor
 ·rintro ⟨⟨y, b⟩, ⟨h1, h2⟩, rfl⟩
  have h3 := List.mem_zipIdx_iff_getElem?.1 h1
  simp only at h3 h2
  have hb : b < 13 := by
   have := (List.getElem?_eq_some_iff.1 h3).1
   simpa [byL] using this
  rw [Cvm s _ hb, Option.some.injEq] at h3
  subst h3
  refine ⟨b, hb, ?_, rfl⟩
  rw [Bkj] at h2
  unfold fitS
  intro h
  rw [h] at h2
  cases h2
 ·rintro ⟨b, hb, h, rfl⟩
  refine ⟨(Ayu s (trL s (s.hampers.getD i 0)) (b : Int), b), ⟨List.mem_zipIdx_iff_getElem?.2 (Cvm s _ hb), ?_⟩, rfl⟩
  simp only [Bkj]
  unfold fitS at h
  cases hL : fitL s (trL s (s.hampers.getD i 0)) (b : Int) with
  | nil => exact absurd hL h
  | cons _ _ => rfl
theorem Av1 (s : Sm) (x : Int × Int × Hint) : x ∈ susp s ↔ ∃ i b : Nat, i < s.hampers.length /\ b < 13 /\ fitS s i b ≠ [] /\ x = ((i : Int), (b : Int), Ayu s (trL s (s.hampers.getD i 0)) (b : Int)) := by
 unfold susp Az3 Axp
 simp only [List.mem_flatMap, List.mem_map, List.mem_range]
 constructor
 ·rintro ⟨_, ⟨i, hi, rfl⟩, hx⟩
  obtain ⟨b, h1, h2, h3⟩ := (Byz s i x).1 hx
  exact ⟨i, b, hi, h1, h2, h3⟩
 ·rintro ⟨i, b, hi, h1, h2, h3⟩
  exact ⟨_, ⟨i, hi, rfl⟩, (Byz s i x).2 ⟨b, h1, h2, h3⟩⟩
def Czj (s : Sm) (i b : Nat) (p : Int) : List Int := (fitS s i b).map fun tc => min 99 ((b : Int) + gI tc.2 p)
theorem Cwg (s : Sm) (i b : Nat) {p : Int} (h0 : 0 <= p) (h1 : p < s.places) (h6 : s.places <= 6) (hne : fitS s i b ≠ []) : IsBd (Czj s i b p) (gB (Ayu s (trL s (s.hampers.getD i 0)) (b : Int)) p) := by
 have h := Dxl s (trL s (s.hampers.getD i 0)) (b : Int) (p := p.toNat) (by omega) (by omega)
 unfold gB
 rw [List.getD, h, Option.getD_some]
 have hp : ((p.toNat : Nat) : Int) = p := by omega
 rw [hp]
 refine Byc ?_
 intro hm
 unfold Czj at hm
 rw [List.map_eq_nil_iff] at hm
 exact hne hm
theorem Dv3 (p : Int) : ∀ (L : List (Int × Int × Hint)) (w : Bd), L.foldl (arrF p) w = (L.flatMap fun x => [(gB x.2.2 p).lo, (gB x.2.2 p).hi]).foldl Azh w
 | [], _ => rfl
 | x :: L, w => by
  rw [List.foldl_cons, List.flatMap_cons, List.foldl_append, Dv3 p L]
  rfl
theorem Cws {α : Type} {L : List α} {V : α -> List Int} {g : α -> Bd} (h : ∀ x ∈ L, IsBd (V x) (g x)) (hne : L ≠ []) : IsBd (L.flatMap V) ((L.flatMap fun x => [(g x).lo, (g x).hi]).foldl Azh bd0) := by
 have h1 : IsBd (L.flatMap fun x => [(g x).lo, (g x).hi]) ((L.flatMap fun x => [(g x).lo, (g x).hi]).foldl Azh bd0) := Byc (by
  cases L with
  | nil => exact absurd rfl hne
  | cons x L => simp)
 generalize (L.flatMap fun x => [(g x).lo, (g x).hi]).foldl Azh bd0 = w at *
 have key : ∀ y, y ∈ (L.flatMap fun x => [(g x).lo, (g x).hi]) -> y ∈ L.flatMap V := by
  intro y hy
  obtain ⟨x, hx, hy⟩ := List.mem_flatMap.1 hy
  simp only [List.mem_cons, List.not_mem_nil, or_false] at hy
  refine List.mem_flatMap.2 ⟨x, hx, ?_⟩
  rcases hy with rfl | rfl
  ·exact (h x hx).lo
  ·exact (h x hx).hi
 refine ⟨h1.some, fun y hy => ?_, key _ h1.lo, key _ h1.hi⟩
 obtain ⟨x, hx, hy⟩ := List.mem_flatMap.1 hy
 have h2 := (h x hx).all y hy
 have h3 := h1.all _ (List.mem_flatMap.2 ⟨x, hx, List.mem_cons_self⟩)
 have h4 := h1.all _ (List.mem_flatMap.2 ⟨x, hx, List.mem_cons_of_mem _ List.mem_cons_self⟩)
 omega
def allT (s : Sm) : List (Nat × Nat × List Int × List Int) := (List.range s.hampers.length).flatMap fun i => (List.range 13).flatMap fun b => (fitS s i b).map fun tc => (i, b, tc.1, tc.2)
theorem Akg (s : Sm) (i b : Nat) (t c : List Int) : (i, b, t, c) ∈ allT s ↔ i < s.hampers.length /\ b < 13 /\ (t, c) ∈ fitS s i b := by
 unfold allT
 simp only [List.mem_flatMap, List.mem_range, List.mem_map, Prod.mk.injEq]
 constructor
 ·rintro ⟨i', h1, b', h2, ⟨t', c'⟩, h3, rfl, rfl, rfl, rfl⟩
  exact ⟨h1, h2, h3⟩
 ·rintro ⟨h1, h2, h3⟩
  exact ⟨i, h1, b, h2, (t, c), h3, rfl, rfl, rfl, rfl⟩
theorem Dzd (s : Sm) : susp s = [] ↔ allT s = [] := by
 constructor
 ·intro h
  rw [List.eq_nil_iff_forall_not_mem]
  rintro ⟨i, b, t, c⟩ hx
  obtain ⟨h1, h2, h3⟩ := (Akg s i b t c).1 hx
  have : ((i : Int), (b : Int), Ayu s (trL s (s.hampers.getD i 0)) (b : Int)) ∈ susp s := (Av1 s _).2 ⟨i, b, h1, h2, List.ne_nil_of_mem h3, rfl⟩
  rw [h] at this
  cases this
 ·intro h
  rw [List.eq_nil_iff_forall_not_mem]
  intro x hx
  obtain ⟨i, b, h1, h2, h3, rfl⟩ := (Av1 s x).1 hx
  obtain ⟨⟨t, c⟩, h4⟩ := List.exists_mem_of_ne_nil _ h3
  have := (Akg s i b t c).2 ⟨h1, h2, h4⟩
  rw [h] at this
  cases this
theorem Dzt {s : Sm} (ok : SmOk s) {i b : Nat} {t c : List Int} (h : (i, b, t, c) ∈ allT s) : ∃ t0 ∈ Axx s.doors, t = pad6 t0 /\ c = Aq4 s.doors (s.hampers.getD i 0) (pad6 t0) /\ i < s.hampers.length /\ b < 13 /\ fitB s.noses c b = true := by
 obtain ⟨h1, h2, h3⟩ := (Akg s i b t c).1 h
 unfold fitS fitL trL at h3
 simp only [List.mem_filter, List.mem_map, Prod.mk.injEq] at h3
 obtain ⟨⟨t0, h4, rfl, rfl⟩, h5⟩ := h3
 exact ⟨t0, h4, rfl, rfl, h1, h2, h5⟩
theorem Cwi {s : Sm} (ok : SmOk s) {i : Nat} (h : i < s.hampers.length) : 0 <= s.hampers.getD i 0 /\ s.hampers.getD i 0 < s.places := by
 rw [List.getD, List.getElem?_eq_getElem h, Option.getD_some]
 exact ok.hk _ (List.getElem_mem h)
theorem Bxb {s : Sm} (ok : SmOk s) {h : Int} (h0 : 0 <= h) (h1 : h < s.places) {t : List Int} (ht : t ∈ Axx s.doors) : Ayj (Edg s.doors (pad6 t)) h (Aq4 s.doors h (pad6 t)) := by
 have h6 := ok.p1
 exact Bk1 h6 h0 (by omega) ok.dk (Aka ok.dk ht)
def Ajc := And.intro (fun H => Aqv (H := H) (P := Tryz.prog) (h := Tryz.zeroValue45)) (And.intro (fun H => Aqp (H := H) Tryz.underlying26 rfl Tryz.sizeOf26) (And.intro (fun H => Aqf (H := H) Tryz.underlying3 rfl) (And.intro @Azo (And.intro @Bq7 (And.intro @Bzo (And.intro (fun H => Aqr (H := H) Tryz.sizeOf45) (And.intro (fun H => Aqv (H := H) (P := Tryz.prog) (h := Tryz.zeroValue97)) (And.intro @Bq8 (And.intro (fun H => Aqd (H := H) Tryz.underlying97 (i := 2) rfl (off := 2) rfl Tryz.sizeOf4) (And.intro (fun H => Aqf (H := H) Tryz.underlying4 rfl) (And.intro (fun H => Aqd (H := H) Tryz.underlying97 (i := 0) rfl (off := 0) rfl Tryz.sizeOf3) (And.intro (fun H => Aqd (H := H) Tryz.underlying97 (i := 1) rfl (off := 1) rfl Tryz.sizeOf3) @Ajo))))))))))))
def Ave := And.intro (fun H => Aqf (H := H) Tryz.underlying3 rfl) (And.intro (fun H => Aqd (H := H) Tryz.underlying103 (i := 0) rfl (off := 0) rfl Tryz.sizeOf99) (And.intro (fun H => Aq5 (H := H) Tryz.underlying99 Tryz.sizeOf97) (And.intro (fun H => Aqd (H := H) Tryz.underlying97 (i := 1) rfl (off := 1) rfl Tryz.sizeOf3) (And.intro (fun H => Aqd (H := H) Tryz.underlying97 (i := 0) rfl (off := 0) rfl Tryz.sizeOf3) @Bvi))))
def Bjt := @Bvi
def comF (p : Int) (b : Bd) (x : Int × Int × Hint) : Bd := if (gB x.2.2 p).hi < 99 then arrF p b x else b
theorem Cqr (main : Md) (H : Hp) (ob pb : Nat) (p : Int) (h0 : 0 <= p) (h1 : p < 6) (ham hour : Int) (x : Hint) (hx : Axr x) (b : Bd) (vo : H ob = some (true, bdO b)) (vp : H pb = some (true, .cells #[.int .i64 p] 3 (0, 0))) (hne : pb ≠ ob) :
  FnX Tryz.prog main 57 #[.int .i64 ham, .int .i64 hour, .agg (Axv x).toArray, .pointer (some ⟨pb, 0, none⟩), .pointer (some ⟨ob, 0, none⟩)] H fun e H' => e = .returned (.tuple #[]) /\ H' ob = some (true, bdO (comF p b (ham, hour, x))) /\ ∀ b x, b ≠ ob -> H b = some x -> H' b = some x := by
 have hl := Ax2 hx
 have hex := Ak5 hx
 have hbd := Bqp hx (Czq hx h0 h1)
 obtain ⟨hb1, hb2, _⟩ := hbd
 unfold comF arrF
 simp only
 generalize gB x p = g at *
 generalize Axv x = HC at *
 by_cases hg : g.hi < 99
 ·rw [if_pos hg]
  refine Aqm Tryz.func57 rfl Tryz.ntmps57 (by simp) ?_
  (refine @unH _ (zA Ave ?_); (repeat refine inC fun hc => ?_); try refine inK fun K hK => ?_)
  (intro b hb; generalize hG : Hp.set _ b _ = H1; have lH1 := Aqc hG hb; have vb := Aqb hG; clear hG)
  have vo1 := lH1 _ _ vo
  have vp1 := lH1 _ _ vp
  ((try refine @unH _ (zX Ave ?_)); (try (refine hK _ _ ?_; clear hK K; try refine @unH _ (zQ ?_))); refine @unH _ (zA Ave ?_); (repeat refine inC fun hc => ?_); try refine inK fun K hK => ?_)
  refine (Avn main H1 ob _ g.lo vo1).runs.mono ?_
  rintro _ H2 ⟨rfl, h21, h22⟩
  have nob : b ≠ ob := fun e => by rw [e, vo] at hb; cases hb
  have vp2 := (h22 pb hne).trans vp1
  have vb2 := (h22 b nob).trans vb
  have hf2 : ∀ c z, c ≠ ob -> H c = some z -> H2 c = some z := fun c z hc hz => (h22 c hc).trans (lH1 _ _ hz)
  clear vo1 vp1 vb h22 lH1
  ((try refine @unH _ (zX Ave ?_)); (try (refine hK _ _ ?_; clear hK K; try refine @unH _ (zQ ?_))); refine @unH _ (zA Ave ?_); (repeat refine inC fun hc => ?_); try refine inK fun K hK => ?_)
  refine (Avn main H2 ob _ g.hi h21).runs.mono ?_
  rintro _ H3 ⟨rfl, h31, h32⟩
  ((try refine @unH _ (zX Ave ?_)); (try (refine hK _ _ ?_; clear hK K; try refine @unH _ (zQ ?_))); refine @unH _ (zA Ave ?_); (repeat refine inC fun hc => ?_); try refine inK fun K hK => ?_)
  (refine @unH _ ?_; refine zD Tryz.results57 ?_)
  exact ⟨rfl, h31, fun c z hc hz => (h32 c hc).trans (hf2 c z hc hz)⟩
 ·rw [if_neg hg]
  refine Aqm Tryz.func57 rfl Tryz.ntmps57 (by simp) ?_
  (refine @unH _ (zA Ave ?_); (repeat refine inC fun hc => ?_); try refine inK fun K hK => ?_)
  (intro b hb; generalize hG : Hp.set _ b _ = H1; have lH1 := Aqc hG hb; have vb := Aqb hG; clear hG)
  have vo1 := lH1 _ _ vo
  have vp1 := lH1 _ _ vp
  ((try refine @unH _ (zX Ave ?_)); (try (refine hK _ _ ?_; clear hK K; try refine @unH _ (zQ ?_))); refine @unH _ (zA Ave ?_); (repeat refine inC fun hc => ?_); try refine inK fun K hK => ?_)
  (refine @unH _ ?_; refine zD Tryz.results57 ?_)
  exact ⟨rfl, vo1, fun c z hc hz => lH1 _ _ hz⟩
def sinF (b : Bd) (x : Int × Int × Hint) : Bd := Azh b x.2.1
theorem Cxo (main : Md) (H : Hp) (ob : Nat) (ham hour : Int) (x : Hint) (hx : Axr x) (b : Bd) (vo : H ob = some (true, bdO b)) :
  FnX Tryz.prog main 69 #[.int .i64 ham, .int .i64 hour, .agg (Axv x).toArray, .pointer (some ⟨ob, 0, none⟩)] H fun e H' => e = .returned (.tuple #[]) /\ H' ob = some (true, bdO (sinF b (ham, hour, x))) /\ ∀ b x, b ≠ ob -> H b = some x -> H' b = some x := by
 have hl := Ax2 hx
 have hex := Ak5 hx
 unfold sinF
 simp only
 generalize Axv x = HC at *
 refine Aqm Tryz.func69 rfl Tryz.ntmps69 (by simp) ?_
 (refine @unH _ (zA @Bjt ?_); (repeat refine inC fun hc => ?_); try refine inK fun K hK => ?_)
 (intro b hb; generalize hG : Hp.set _ b _ = H1; have lH1 := Aqc hG hb; have vb := Aqb hG; clear hG)
 have vo1 := lH1 _ _ vo
 ((try refine @unH _ (zX @Bjt ?_)); (try (refine hK _ _ ?_; clear hK K; try refine @unH _ (zQ ?_))); refine @unH _ (zA @Bjt ?_); (repeat refine inC fun hc => ?_); try refine inK fun K hK => ?_)
 refine (Avn main H1 ob _ hour vo1).runs.mono ?_
 rintro _ H2 ⟨rfl, h21, h22⟩
 ((try refine @unH _ (zX @Bjt ?_)); (try (refine hK _ _ ?_; clear hK K; try refine @unH _ (zQ ?_))); refine @unH _ (zA @Bjt ?_); (repeat refine inC fun hc => ?_); try refine inK fun K hK => ?_)
 (refine @unH _ ?_; refine zD Tryz.results69 ?_)
 exact ⟨rfl, h21, fun c z hc hz => (h22 c hc).trans (lH1 _ _ hz)⟩
theorem Ajb {H H' : Hp} {b : Nat} {o : Obj} (l : H.le H') (h : H b = none) : H.le (H'.set b o) := fun x z hz => by
 rw [Aqw (fun e => by rw [e, h] at hz; cases hz)]
 exact l _ _ hz
def comL (L : List (Int × Int × Hint)) (p : Int) : Bd := L.foldl (comF p) bd0
theorem Cv1 (L : List (Int × Int × Hint)) (p : Int) (x : Int × Int × Hint) : comL (L ++ [x]) p = comF p (comL L p) x := by simp [comL]
def bdE (z : Int) (b : Bd) : Int × Int × Int := if z = 0 then (if b.some then (b.lo, b.hi, 0) else (0, 0, 11)) else (0, 0, z)
def comE (s : Sm) (p : Int) : Int × Int × Int := bdE (begE s [p] 0) (comL (susp s) p)
theorem Cxg (H : Hp) (s : Sm) (dv hv nv : Value) (hs : SmIn H dv hv nv s) (ok : SmOk s) (p : Int) :
  FnX Tryz.prog (.wg Tryz.prog) 18 #[smV s.places dv hv nv, .int .i64 p] H fun e H' => e = .returned (.tuple #[.agg #[.int .i64 (comE s p).1, .int .i64 (comE s p).2.1], .int .i64 (comE s p).2.2]) /\ H.le H' := by
 obtain ⟨da, dc, ha, kc, na, nc, rfl, rfl, rfl, l1, l2, l3⟩ := hs.forms
 have hpp : begE s [p] 0 = 0 -> 0 <= p /\ p < 6 := Cvg ok
 have hr : comE s p = bdE (begE s [p] 0) (comL (susp s) p) := rfl
 have hbeg := fun H dv hv nv (hs : SmIn H dv hv nv s) pv (hp : SlI H pv [p]) => Ajk H s dv hv nv hs ok 0 pv [p] hp (by simp)
 generalize begE s [p] 0 = z at *
 generalize comE s p = r at *
 replace hpp : Aqk _ := hpp
 replace hr : Aqk _ := hr
 replace hbeg : Aqk _ := hbeg
 refine Aqm Tryz.func18 rfl Tryz.ntmps18 (by simp) ?_
 (refine @unH _ (zA Ajc ?_); (repeat refine inC fun hc => ?_); try refine inK fun K hK => ?_)
 (intro sb hsb qb hqb rb hrb; replace hrb : (Hp.set (Hp.set _ sb _) qb _) rb = none := hrb; replace hqb : (Hp.set _ sb _) qb = none := hqb; generalize hG : Hp.set _ sb _ = H1 at hqb hrb ⊢; have lH1 := Aqc hG hsb; have wsb := Aqb hG; clear hG; generalize hG : Hp.set _ qb _ = H2 at hrb ⊢; have lH2 := Aqc hG hqb; have wqb := Aqb hG; have nsbqb := Aqq wsb hqb; replace wsb := lH2 _ _ wsb; clear hG; generalize hG : Hp.set _ rb _ = H3; have lH3 := Aqc hG hrb; have vrb := Aqb hG; have vsb := lH3 _ _ wsb; have vqb := lH3 _ _ wqb; have nsbrb := Aqq wsb hrb; have nqbrb := Aqq wqb hrb; clear hG wsb wqb)
 have l03 := Hp.le_trans lH1 (Hp.le_trans lH2 lH3)
 have hs3 := hs.le l03
 have h0rb := Hp.le_none (Hp.le_trans lH1 lH2) hrb
 clear lH1 lH2 lH3 hsb hqb hrb hs
 ((try refine @unH _ (zX Ajc ?_)); (try (refine hK _ _ ?_; clear hK K; try refine @unH _ (zQ ?_))); refine @unH _ (zA Ajc ?_); (repeat refine inC fun hc => ?_); try refine inK fun K hK => ?_)
 (intro pb hpb; generalize hG : Hp.set _ pb _ = H4; have lH4 := Aqc hG hpb; have vpb := Aqb hG; clear hG)
 have hs4 := hs3.le lH4
 have l04 := Hp.le_trans l03 lH4
 have vr4 := lH4 _ _ vrb
 have vq4 := lH4 _ _ vqb
 have hp4 : SlI H4 (.slice (some ⟨pb, 0, none⟩) 1 1) [p] := Dwj vpb
 clear hs3 l03 lH4 vrb vqb vsb vpb hpb
 refine ((show ∀ H dv hv nv (hs : SmIn H dv hv nv s) pv (hp : SlI H pv [p]), _ from hbeg) H4 _ _ _ hs4 _ hp4).runs.mono ?_
 clear hbeg
 rintro _ H5 ⟨v, rfl, lH5, hv, _⟩
 have l05 := Hp.le_trans l04 lH5
 have vr5 := lH5 _ _ vr4
 have vq5 := lH5 _ _ vq4
 clear hs4 hp4 lH5 l04 vr4 vq4
 by_cases hz : z = 0
 ·subst hz
  replace hv := hv (.inl rfl)
  obtain ⟨p0, p1⟩ := hpp rfl
  clear hpp
  ((try refine @unH _ (zX Ajc ?_)); (try (refine hK _ _ ?_; clear hK K; try refine @unH _ (zQ ?_))); refine @unH _ (zA Ajc ?_); (repeat refine inC fun hc => ?_); try refine inK fun K hK => ?_)
  intro ob hob
  have nqo := Aqq vq5 hob
  have nro := Aqq vr5 hob
  ((try refine @unH _ (zX Ajc ?_)); (try (refine hK _ _ ?_; clear hK K; try refine @unH _ (zQ ?_))); refine @unH _ (zA Ajc ?_); (repeat refine inC fun hc => ?_); try refine inK fun K hK => ?_)
  generalize hG : Hp.set H5 ob _ = H6
  have lH6 := Aqc hG hob
  have vo6 := Aqb hG
  have vq6 := Aqh hG vq5 nqo
  have vr6 := Aqh hG vr5 nro
  have h0ob := Hp.le_none l05 hob
  clear hG vq5 vr5
  have hone := Bz1 (.wg Tryz.prog) (A := fun _ _ _ => True) (yf := .func 57) (yi := #[]) (yc := #[.pointer (some ⟨qb, 0, none⟩), .pointer (some ⟨ob, 0, none⟩)]) H5 H6 _ _ hv ob (fun L => bdO (comL L p)) lH6 hob (by rw [vo6]; rfl) (fun L H' ham hour x g1 g2 hxo _ => by
   refine Ajz.fn (fun _ _ => Djw _) ((Cqr _ H' ob qb p p0 p1 ham hour x hxo _ g1 (g2 _ _ nqo vq6) nqo).mono ?_)
   rintro _ H4 ⟨rfl, h3, h4⟩
   exact ⟨rfl, by rw [h3, Cv1], h4⟩) (Aj4 ok) (fun _ _ _ _ _ _ => trivial) (by rw [Az6]; have := ok.h1; omega)
  refine hone.runs.mono ?_
  clear hone
  rintro _ H7 ⟨rfl, h3, h4⟩
  have l07 : H.le H7 := fun b x hx => h4 b x (fun e => by rw [e, h0ob] at hx; cases hx) (lH6 _ _ (l05 _ _ hx))
  have vr7 := h4 _ _ nro vr6
  replace hr : Aqk (r = bdE 0 (comL (susp s) p)) := hr
  rw [show Az3 (Axp s) = susp s from rfl] at h3
  generalize comL (susp s) p = w at *
  clear h4 vr6 vq6 vo6 l05 lH6 hv
  obtain ⟨lo, hi, sm⟩ := w
  cases sm with
  | true =>
   ((try refine @unH _ (zX Ajc ?_)); (try (refine hK _ _ ?_; clear hK K; try refine @unH _ (zQ ?_))); refine @unH _ (zA Ajc ?_); (repeat refine inC fun hc => ?_); try refine inK fun K hK => ?_)
   (refine Axt ?_; (try simp only [nq, ↓reduceIte, Nat.reduceEqDiff]); rw [Aq7, results_cell_tmp Tryz.results18 (by decide) (by decide) (b := rb) (o := 0) rfl Tryz.underlying45 rfl Tryz.sizeOf45]; simp -implicitDefEqProofs (disch := first | omega | (simp only [qd] <;> omega)) only [xq, ↓xp, qc, Nat.reduceAdd, List.range, List.range.loop, fine, Nat.reduceEqDiff, ↓reduceIte, yielded, reduceCtorEq, Nat.reduceLT, Nat.reduceMul, Nat.reduceSub, one, Nat.reduceLeDiff, Aqi, Ajc, Axm, List.extract_toArray])
   exact ⟨by rw [show r = _ from hr]; rfl, Ajb l07 h0rb⟩
  | false =>
   ((try refine @unH _ (zX Ajc ?_)); (try (refine hK _ _ ?_; clear hK K; try refine @unH _ (zQ ?_))); refine @unH _ (zA Ajc ?_); (repeat refine inC fun hc => ?_); try refine inK fun K hK => ?_)
   (refine Axt ?_; (try simp only [nq, ↓reduceIte, Nat.reduceEqDiff]); rw [Aq7, results_cell_tmp Tryz.results18 (by decide) (by decide) (b := rb) (o := 0) rfl Tryz.underlying45 rfl Tryz.sizeOf45]; simp -implicitDefEqProofs (disch := first | omega | (simp only [qd] <;> omega)) only [xq, ↓xp, qc, Nat.reduceAdd, List.range, List.range.loop, fine, Nat.reduceEqDiff, ↓reduceIte, yielded, reduceCtorEq, Nat.reduceLT, Nat.reduceMul, Nat.reduceSub, one, Nat.reduceLeDiff, Aqi, Ajc, Axm, List.extract_toArray])
   exact ⟨by rw [show r = _ from hr]; rfl, Ajb l07 h0rb⟩
 ·clear hv hpp
  ((try refine @unH _ (zX Ajc ?_)); (try (refine hK _ _ ?_; clear hK K; try refine @unH _ (zQ ?_))); refine @unH _ (zA Ajc ?_); (repeat refine inC fun hc => ?_); try refine inK fun K hK => ?_)
  (refine Axt ?_; (try simp only [nq, ↓reduceIte, Nat.reduceEqDiff]); rw [Aq7, results_cell_tmp Tryz.results18 (by decide) (by decide) (b := rb) (o := 0) rfl Tryz.underlying45 rfl Tryz.sizeOf45]; simp -implicitDefEqProofs (disch := first | omega | (simp only [qd] <;> omega)) only [xq, ↓xp, qc, Nat.reduceAdd, List.range, List.range.loop, fine, Nat.reduceEqDiff, ↓reduceIte, yielded, reduceCtorEq, Nat.reduceLT, Nat.reduceMul, Nat.reduceSub, one, Nat.reduceLeDiff, Aqi, Ajc, Axm, List.extract_toArray])
  exact ⟨by rw [show r = _ from hr, bdE, if_neg hz], Ajb l05 h0rb⟩
def Ax3 := And.intro (fun H => Aqv (H := H) (P := Tryz.prog) (h := Tryz.zeroValue45)) (And.intro (fun H => Aqp (H := H) Tryz.underlying26 rfl Tryz.sizeOf26) (And.intro @Bvg (And.intro @Bzo (And.intro (fun H => Aqr (H := H) Tryz.sizeOf45) (And.intro (fun H => Aqd (H := H) Tryz.underlying26 (i := 2) rfl (off := 2) rfl Tryz.sizeOf22) (And.intro (fun H => Aqf (H := H) Tryz.underlying22 rfl) (And.intro (fun H => Aq6 (H := H) Tryz.underlying22) (And.intro @Ayr (And.intro (fun H => Aqv (H := H) (P := Tryz.prog) (h := Tryz.zeroValue97)) (And.intro @Cql (And.intro (fun H => Bv4 (H := H) Tryz.underlying89 Tryz.sizeOf133) (And.intro (fun H => Bv5 (H := H) Tryz.underlying89 Tryz.sizeOf133) (And.intro (fun H => Bxi (H := H) Tryz.underlying89 Tryz.sizeOf133) (And.intro (fun H => Bxu (H := H) Tryz.underlying89 Tryz.sizeOf133) (And.intro @Bq8 (And.intro (fun H => Aqd (H := H) Tryz.underlying97 (i := 2) rfl (off := 2) rfl Tryz.sizeOf4) (And.intro (fun H => Aqf (H := H) Tryz.underlying4 rfl) (And.intro (fun H => Aqd (H := H) Tryz.underlying97 (i := 0) rfl (off := 0) rfl Tryz.sizeOf3) (And.intro (fun H => Aqf (H := H) Tryz.underlying3 rfl) (And.intro (fun H => Aqd (H := H) Tryz.underlying97 (i := 1) rfl (off := 1) rfl Tryz.sizeOf3) @Ajo))))))))))))))))))))
theorem Dwt {p q : Prop} (g : q) (h : Hid q -> p := by
 intro g
 repeat' (first
 | (refine Ax5 rfl ?_; intro Kz hKz; simp -implicitDefEqProofs (disch := first | omega | (simp only [qd] <;> omega)) only [xq, ↓xp, qc, Nat.reduceAdd, List.range, List.range.loop, fine, Nat.reduceEqDiff, ↓reduceIte, yielded, reduceCtorEq, Nat.reduceLT, Nat.reduceMul, Nat.reduceSub, one, Nat.reduceLeDiff, Aqi, Ax3, aq, ↓ap, qe0, qe1, qe2, *, -g, -hKz, Ay4 Tryz.underlying89 Tryz.sizeOf133]; try (refine hKz _ _ ?_; clear hKz Kz))
 | (refine Aji rfl ?_; intro Kz hKz; simp -implicitDefEqProofs (disch := first | omega | (simp only [qd] <;> omega)) only [xq, ↓xp, qc, Nat.reduceAdd, List.range, List.range.loop, fine, Nat.reduceEqDiff, ↓reduceIte, yielded, reduceCtorEq, Nat.reduceLT, Nat.reduceMul, Nat.reduceSub, one, Nat.reduceLeDiff, Aqi, Ax3, aq, ↓ap, qe0, qe1, qe2, *, -g, -hKz, Ay4 Tryz.underlying89 Tryz.sizeOf133]; try (refine hKz _ _ ?_; clear hKz Kz; (try simp only [nq, ↓reduceIte, Nat.reduceEqDiff])))
 | (refine Az1 ?_; (try simp only [nq, ↓reduceIte, Nat.reduceEqDiff]))
 | (refine Az7 ?_; (try simp only [nq, ↓reduceIte, Nat.reduceEqDiff]))
 | (refine Ajw ?_; (try simp only [nq, ↓reduceIte, Nat.reduceEqDiff]))
 | (refine Aj8 ?_; (try simp only [nq, ↓reduceIte, Nat.reduceEqDiff]))
 | (refine Ajh (by simp only [Aq9, Axk, Nat.reduceEqDiff, Nat.reduceLT, ↓reduceIte, *, -g]; rfl) ?_ ?_ <;> (intro hcz; first | (exfalso; simp -implicitDefEqProofs (disch := omega) only [*, -g, bq, reduceCtorEq] at hcz; done) | (simp only [dq, qe3, qe4, qe5, qe6] at hcz) | skip))
 | (refine Aja ?_)
 | (refine Azb ?_)
 | (refine Axq ?_))
 (try (revert Kz; refine unK ?_)); (repeat (revert hcz; refine unC ?_))
 exact Hid.out g) : Hid p := ⟨h ⟨g⟩⟩
theorem Dws {p q : Prop} (g : q) (h : Hid q -> p := by
 intro g
 simp -implicitDefEqProofs (disch := first | omega | (simp only [qd] <;> omega)) only [xq, ↓xp, qc, Nat.reduceAdd, List.range, List.range.loop, fine, Nat.reduceEqDiff, ↓reduceIte, yielded, reduceCtorEq, Nat.reduceLT, Nat.reduceMul, Nat.reduceSub, one, Nat.reduceLeDiff, Aqi, Ax3, aq, ↓ap, qe0, qe1, qe2, *, -g, -hK, Ay4 Tryz.underlying89 Tryz.sizeOf133]
 exact Hid.out g) : Hid p := ⟨h ⟨g⟩⟩
theorem Ay4 {P : Program} {H : Hp} {t e : TypeId} (hu : P.underlying t = some (.slice e)) {n : Nat} (hs : ∀ w, (sizeOf e).run P w = .ok n w) (b o len cap : Nat) (k k' k'' : IntKind) (i j m : Int) (h0 : 0 <= i) (h1 : i <= j) (h2 : j <= m) (h3 : m <= cap) (hne : i < m) (K : Value -> Hp -> Prop) (E : Value -> Hp -> Prop) :
  wpS P (Instr.sliceAt t (.slice (some ⟨b, o, none⟩) len cap) (some (.int k i)) (some (.int k' j)) (some (.int k'' m))) H K E = K (.slice (some ⟨b, o + i.toNat * n, none⟩) (j.toNat - i.toNat) (m.toNat - i.toNat)) H := by
 unfold Instr.sliceAt Instr.slice Instr.sliceBounds
 have hm : j <= (m.toNat : Int) := by omega
 have hj : i <= (j.toNat : Int) := by omega
 have hne' : ¬ m.toNat = i.toNat := by omega
 simp [-bind_pure_comp, Aqa, Aqj hu, Aqe, Ajf k'' m cap _ (by omega) h3, Ajf k' j m.toNat _ (by omega) hm, Ajf k i j.toNat _ h0 hj, Aq0 hs, Ake, hne']
def sinL (L : List (Int × Int × Hint)) : Bd := L.foldl sinF bd0
theorem Cyf (L : List (Int × Int × Hint)) (x : Int × Int × Hint) : sinL (L ++ [x]) = sinF (sinL L) x := by simp [sinL]
def sinE (s : Sm) (i : Int) : Int × Int × Int := bdE (if i < 0 ∨ (s.hampers.length : Int) - 1 < i then 3 else 0) (sinL (Awb (Azp s i.toNat)))
theorem SlT.only {H : Hp} {s : Sm} {a : Option Addr} {n cap : Nat} (h : SlT H (.slice a n cap) (Axp s)) {i : Nat} (hi : i < s.hampers.length) : ∃ b o, a = some ⟨b, o, none⟩ /\ SlT H (.slice (some ⟨b, o + i * 326, none⟩) 1 1) [Azp s i] := by
 have hx : ((Axp s).map Axd)[i]? = some (Axd (Azp s i)) := by
  unfold Axp
  rw [List.getElem?_map, List.getElem?_map, List.getElem?_range hi]
  rfl
 obtain ⟨b, o, p, c, fr, rfl, h2, h3, h4, h5⟩ := SlG.get h hx
 refine ⟨b, o, rfl, some ⟨b, o + i * 326, none⟩, 1, rfl, by simp, fun j r hr => ?_⟩
 rcases j with _ | j
 ·simp only [List.map_cons, List.getElem?_cons_zero, Option.some.injEq] at hr
  subst hr
  exact ⟨b, o + i * 326, p, c, fr, rfl, h2, by omega, h4, by simpa using h5⟩
 ·simp at hr
theorem Cj7 (main : Md) {A : Int -> Int -> Hint -> Prop} {yf : Fn} {yi yc : Array Value} (H2 : Hp) (v : Value) (l : List Trail) (hv : SlT H2 v l) (ob : Nat) (O : List (Int × Int × Hint) -> Obj) (h0 : ∀ p c fr, H2 ob ≠ some (p, .cells c 133 fr)) (vo : H2 ob = some (true, O []))
  (h : ∀ L H' ham hour x, H' ob = some (true, O L) -> (∀ b z, b ≠ ob -> H2 b = some z -> H' b = some z) -> Axr x -> A ham hour x -> Ajz Tryz.prog main (.func yf yi yc) #[.int .i64 ham, .int .i64 hour, .agg (Axv x).toArray] H' fun e H'' => e = .returned (.tuple #[]) /\ H'' ob = some (true, O (L ++ [(ham, hour, x)])) /\ ∀ b z, b ≠ ob -> H' b = some z -> H'' b = some z)
  (hok : ∀ t ∈ l, Ax6 t) (hA : ∀ t ∈ l, ∀ (h : Nat) x, t.hs[h]? = some x -> x.some = true -> A t.ham h x) (hl : l.length <= 1000) :
  FnX Tryz.prog main 56 #[v, .func yf yi yc] H2 fun e H' => e = .returned (.tuple #[]) /\ H' ob = some (true, O (Az3 l)) /\ ∀ b x, b ≠ ob -> H2 b = some x -> H' b = some x :=
 (Aw6 main (Cwn H2 ob O vo h) H2 v l (fun L H' h _ => hv.move fun x p c fr hx => ⟨p, h.2 x _ (fun e => h0 p c fr (by rw [<- e]; exact hx)) hx⟩) hok hA hl [] ⟨vo, fun _ _ _ hx => hx⟩).mono fun e H' ⟨h1, h2, _⟩ => ⟨h1, by simpa using h2.1, h2.2⟩
theorem Cxl (H : Hp) (s : Sm) (dv hv nv : Value) (hs : SmIn H dv hv nv s) (ok : SmOk s) (i : Int) :
  FnX Tryz.prog (.wg Tryz.prog) 31 #[smV s.places dv hv nv, .int .i64 i] H fun e H' => e = .returned (.tuple #[.agg #[.int .i64 (sinE s i).1, .int .i64 (sinE s i).2.1], .int .i64 (sinE s i).2.2]) /\ H.le H' := by
 obtain ⟨da, dc, ha, kc, na, nc, rfl, rfl, rfl, l1, l2, l3⟩ := hs.forms
 have hr : sinE s i = bdE (if i < 0 ∨ (s.hampers.length : Int) - 1 < i then 3 else 0) (sinL (Awb (Azp s i.toNat))) := rfl
 have h3 := ok.h1
 have h1 := ok.h0
 have e := ok.p1
 clear e
 generalize sinE s i = r at *
 by_cases hi : i < 0 ∨ (s.hampers.length : Int) - 1 < i
 ·have hdo : (decide (i < 0) || decide ((s.hampers.length : Int) - 1 < i)) = true := by simpa using hi
  rw [if_pos hi] at hr
  replace hr : Aqk _ := hr
  replace hdo : Aqk _ := hdo
  clear hi
  refine Aqm Tryz.func31 rfl Tryz.ntmps31 (by simp) ?_
  (refine @unH _ (zA Ax3 ?_); (repeat refine inC fun hc => ?_); try refine inK fun K hK => ?_)
  (intro sb hsb rb hrb; replace hrb : (Hp.set _ sb _) rb = none := hrb; generalize hG : Hp.set _ sb _ = H1 at hrb ⊢; have lH1 := Aqc hG hsb; have wsb := Aqb hG; clear hG; generalize hG : Hp.set _ rb _ = H2; have lH2 := Aqc hG hrb; have vrb := Aqb hG; have vsb := lH2 _ _ wsb; have nsbrb := Aqq wsb hrb; clear hG wsb)
  have l02 := Hp.le_trans lH1 lH2
  have hs2 := hs.le l02
  have h0rb := Hp.le_none lH1 hrb
  clear lH1 lH2 hsb hrb hs
  ((try refine @unH _ (zX Ax3 ?_)); (try (refine hK _ _ ?_; clear hK K; try refine @unH _ (zQ ?_))); refine @unH _ (zA Ax3 ?_); (repeat refine inC fun hc => ?_); try refine inK fun K hK => ?_)
  refine (Avr _ H2 s _ _ _ hs2 ok).runs.mono ?_
  rintro _ H3 ⟨rfl, lH3⟩
  have l03 := Hp.le_trans l02 lH3
  have vr3 := lH3 _ _ vrb
  have vs3 := lH3 _ _ vsb
  clear l02 lH3 vrb vsb hs2
  ((try refine @unH _ (zX Ax3 ?_)); (try (refine hK _ _ ?_; clear hK K; try refine @unH _ (zQ ?_))); refine @unH _ (zA Ax3 ?_); (repeat refine inC fun hc => ?_); try refine inK fun K hK => ?_)
  refine (Axj _ H3 i 0 _).runs.mono ?_
  rintro _ _ ⟨rfl, hQ⟩
  rw [hQ, show (decide (i < 0) || decide ((s.hampers.length : Int) - 1 < i)) = true from hdo]; clear hQ
  ((try refine @unH _ (zX Ax3 ?_)); (try (refine hK _ _ ?_; clear hK K; try refine @unH _ (zQ ?_))); refine @unH _ (zA Ax3 ?_); (repeat refine inC fun hc => ?_); try refine inK fun K hK => ?_)
  (refine Axt ?_; (try simp only [nq, ↓reduceIte, Nat.reduceEqDiff]); rw [Aq7, results_cell_tmp Tryz.results31 (by decide) (by decide) (b := rb) (o := 0) rfl Tryz.underlying45 rfl Tryz.sizeOf45]; simp -implicitDefEqProofs (disch := first | omega | (simp only [qd] <;> omega)) only [xq, ↓xp, qc, Nat.reduceAdd, List.range, List.range.loop, fine, Nat.reduceEqDiff, ↓reduceIte, yielded, reduceCtorEq, Nat.reduceLT, Nat.reduceMul, Nat.reduceSub, one, Nat.reduceLeDiff, Aqi, Ax3, Axm, List.extract_toArray])
  exact ⟨by rw [show r = _ from hr]; rfl, Ajb l03 h0rb⟩
 ·have hdo : (decide (i < 0) || decide ((s.hampers.length : Int) - 1 < i)) = false := by simpa using hi
  rw [if_neg hi] at hr
  replace hdo : Aqk _ := hdo
  obtain ⟨k, rfl⟩ : ∃ k : Nat, i = (k : Int) := ⟨i.toNat, by omega⟩
  have hk : k < s.hampers.length := by omega
  replace hr : Aqk (r = bdE 0 (sinL (Awb (Azp s k)))) := hr
  clear hi
  refine Aqm Tryz.func31 rfl Tryz.ntmps31 (by simp) ?_
  (refine @unH _ (zA Ax3 ?_); (repeat refine inC fun hc => ?_); try refine inK fun K hK => ?_)
  (intro sb hsb rb hrb; replace hrb : (Hp.set _ sb _) rb = none := hrb; generalize hG : Hp.set _ sb _ = H1 at hrb ⊢; have lH1 := Aqc hG hsb; have wsb := Aqb hG; clear hG; generalize hG : Hp.set _ rb _ = H2; have lH2 := Aqc hG hrb; have vrb := Aqb hG; have vsb := lH2 _ _ wsb; have nsbrb := Aqq wsb hrb; clear hG wsb)
  have l02 := Hp.le_trans lH1 lH2
  have hs2 := hs.le l02
  have h0rb := Hp.le_none lH1 hrb
  clear lH1 lH2 hsb hrb hs
  ((try refine @unH _ (zX Ax3 ?_)); (try (refine hK _ _ ?_; clear hK K; try refine @unH _ (zQ ?_))); refine @unH _ (zA Ax3 ?_); (repeat refine inC fun hc => ?_); try refine inK fun K hK => ?_)
  refine (Avr _ H2 s _ _ _ hs2 ok).runs.mono ?_
  rintro _ H3 ⟨rfl, lH3⟩
  have l03 := Hp.le_trans l02 lH3
  have vr3 := lH3 _ _ vrb
  have vs3 := lH3 _ _ vsb
  have hs3 := hs2.le lH3
  clear l02 lH3 vrb vsb hs2
  ((try refine @unH _ (zX Ax3 ?_)); (try (refine hK _ _ ?_; clear hK K; try refine @unH _ (zQ ?_))); refine @unH _ (zA Ax3 ?_); (repeat refine inC fun hc => ?_); try refine inK fun K hK => ?_)
  refine (Axj _ H3 k 0 _).runs.mono ?_
  rintro _ _ ⟨rfl, hQ⟩
  rw [hQ, show (decide ((k : Int) < 0) || decide ((s.hampers.length : Int) - 1 < k)) = false from hdo]; clear hQ hdo
  ((try refine @unH _ (zX Ax3 ?_)); (try (refine hK _ _ ?_; clear hK K; try refine @unH _ (zQ ?_))); refine @unH _ (zA Ax3 ?_); (repeat refine inC fun hc => ?_); try refine inK fun K hK => ?_)
  intro ob hob
  have nro := Aqq vr3 hob
  have nso := Aqq vs3 hob
  have h0ob := Hp.le_none l03 hob
  generalize hG : Hp.set H3 ob _ = H4
  have lH4 := Aqc hG hob
  have vo4 := Aqb hG
  have hs4 := hs3.le lH4
  have l04 := Hp.le_trans l03 lH4
  have vr4 := lH4 _ _ vr3
  have vs4 := lH4 _ _ vs3
  clear hG l03 vr3 vs3 hs3 lH4
  ((try refine @unH _ (zX Ax3 ?_)); (try (refine hK _ _ ?_; clear hK K; try refine @unH _ (zQ ?_))); refine @unH _ (zA Ax3 ?_); (repeat refine inC fun hc => ?_); try refine inK fun K hK => ?_)
  refine (Ay6 H4 s _ _ _ hs4 ok).runs.mono ?_
  rintro _ H5 ⟨v, rfl, hv, lH5⟩
  have l05 := Hp.le_trans l04 lH5
  have vr5 := lH5 _ _ vr4
  have vo5 := lH5 _ _ vo4
  obtain ⟨ta, tcap, rfl, htc⟩ := hv.isSlice
  obtain ⟨tb, to, rfl, hone1⟩ := hv.only hk
  clear lH5 vr4 vo4 l04 hs4 vs4 hv
  rw [Az6] at htc ⊢
  ((try refine @unH _ (Dws ?_)); (try (refine hK _ _ ?_; clear hK K; try refine @unH _ (zQ ?_))); refine @unH _ (Dwt ?_); (repeat refine inC fun hc => ?_); try refine inK fun K hK => ?_)
  rw [show ((k : Int) + 1).toNat - k = 1 by omega]
  have hone := Cj7 (.wg Tryz.prog) (A := fun _ _ _ => True) (yf := .func 69) (yi := #[]) (yc := #[.pointer (some ⟨ob, 0, none⟩)]) H5 _ _ hone1 ob (fun L => bdO (sinL L)) (fun p c fr e => by rw [vo5] at e; simp at e) (by rw [vo5]; rfl) (fun L H' ham hour x g1 g2 hxo _ => by
   refine Ajz.fn (fun _ _ => Dj2 _) ((Cxo _ H' ob ham hour x hxo _ g1).mono ?_)
   rintro _ H4 ⟨rfl, h3, h4⟩
   exact ⟨rfl, by rw [h3, Cyf], h4⟩) (fun t ht => by
    simp only [List.mem_cons, List.not_mem_nil, or_false] at ht
    subst ht
    exact Awu ok k) (fun _ _ _ _ _ _ => trivial) (by simp)
  refine hone.runs.mono ?_
  clear hone hone1
  rintro _ H7 ⟨rfl, h3, h4⟩
  have l07 : H.le H7 := fun b x hx => h4 b x (fun e => by rw [e, h0ob] at hx; cases hx) (l05 _ _ hx)
  have vr7 := h4 _ _ nro vr5
  rw [show Az3 [Azp s k] = Awb (Azp s k) from List.append_nil _] at h3
  generalize sinL (Awb (Azp s k)) = w at *
  clear h4 vr5 vo5 l05
  obtain ⟨lo, hi, sm⟩ := w
  cases sm with
  | true =>
   ((try refine @unH _ (zX Ax3 ?_)); (try (refine hK _ _ ?_; clear hK K; try refine @unH _ (zQ ?_))); refine @unH _ (zA Ax3 ?_); (repeat refine inC fun hc => ?_); try refine inK fun K hK => ?_)
   (refine Axt ?_; (try simp only [nq, ↓reduceIte, Nat.reduceEqDiff]); rw [Aq7, results_cell_tmp Tryz.results31 (by decide) (by decide) (b := rb) (o := 0) rfl Tryz.underlying45 rfl Tryz.sizeOf45]; simp -implicitDefEqProofs (disch := first | omega | (simp only [qd] <;> omega)) only [xq, ↓xp, qc, Nat.reduceAdd, List.range, List.range.loop, fine, Nat.reduceEqDiff, ↓reduceIte, yielded, reduceCtorEq, Nat.reduceLT, Nat.reduceMul, Nat.reduceSub, one, Nat.reduceLeDiff, Aqi, Ax3, Axm, List.extract_toArray])
   exact ⟨by rw [show r = _ from hr]; rfl, Ajb l07 h0rb⟩
  | false =>
   ((try refine @unH _ (zX Ax3 ?_)); (try (refine hK _ _ ?_; clear hK K; try refine @unH _ (zQ ?_))); refine @unH _ (zA Ax3 ?_); (repeat refine inC fun hc => ?_); try refine inK fun K hK => ?_)
   (refine Axt ?_; (try simp only [nq, ↓reduceIte, Nat.reduceEqDiff]); rw [Aq7, results_cell_tmp Tryz.results31 (by decide) (by decide) (b := rb) (o := 0) rfl Tryz.underlying45 rfl Tryz.sizeOf45]; simp -implicitDefEqProofs (disch := first | omega | (simp only [qd] <;> omega)) only [xq, ↓xp, qc, Nat.reduceAdd, List.range, List.range.loop, fine, Nat.reduceEqDiff, ↓reduceIte, yielded, reduceCtorEq, Nat.reduceLT, Nat.reduceMul, Nat.reduceSub, one, Nat.reduceLeDiff, Aqi, Ax3, Axm, List.extract_toArray])
   exact ⟨by rw [show r = _ from hr]; rfl, Ajb l07 h0rb⟩
end Go.Proofs.YtkenloilljeliaaGreatDoor
end
