/- Texts SmI SmJ SmL SmV SmO SmO2 SmQ. -/
import Derived.Test.YtnfnaehonkbknaaGreatDoorJ17
set_option linter.defProp false
set_option linter.unusedSimpArgs false
set_option linter.unusedVariables false
set_option maxRecDepth 100000
set_option maxHeartbeats 2000000
section
namespace Go.Proofs.YtnfnaehonkbknaaGreatDoor
open Go Go.X Go.Proofs.Tryz
def Ajw := aN @Dwj (aN @Bjx (aN @Dyd (aN @Dw8 (aN @Dwc (aN @Dvn (aN @Awm (aN @Bw4 @Bjz)))))))
theorem Azw {s : Sm} (ok : SmOk s) : ∀ t ∈ Axd s, Axw t := fun t ht => by
 simp only [Axd, List.mem_map] at ht
 obtain ⟨i, _, rfl⟩ := ht
 exact Avv ok i
theorem Ax6 (s : Sm) : (Axd s).length = s.hampers.length := by simp [Axd]
def susp (s : Sm) : List (Int × Int × Hint) := Azj (Axd s)
def Azh (s : Sm) : Nat := cntL (fun _ => true) (susp s)
theorem Ayg (s : Sm) : Azh s = (susp s).length := by
 unfold Azh cntL
 rw [List.filter_eq_self.2 (fun _ _ => rfl)]
def begE (s : Sm) (ps : List Int) (hour : Int) : Int := if ps.any (fun p => decide (p < 0) || decide (s.places - 1 < p)) then 3 else if hour < 0 ∨ 12 < hour then 1 else if Azh s = 0 then 11 else 0
theorem Dqv (main : Md) (H : Hp) : IsF Tryz.prog main H (.func (.func 52) #[] #[]) (fun _ => true) := Cyp (fun _ _ => Dxq _) fun H' x _ hx => Cjo main H' x hx
theorem Av8 (main : Md) (H : Hp) (s : Sm) (ok : SmOk s) (v : Value) (hv : SlT H v (Axd s)) :
  FnX Tryz.prog main 51 #[v, .func (.func 52) #[] #[]] H fun e H' => e = .returned (.int .i64 (Azh s : Nat)) /\ H.le H' :=
 Avu main H v _ hv (Azw ok) (by rw [Ax6]; have := ok.h1; omega) _ _ _ _ (Dqv main H)
theorem Azf (H : Hp) (s : Sm) (dv hv nv : Value) (hs : SmIn H dv hv nv s) (ok : SmOk s) (hour : Int) (pv : Value) (ps : List Int) (hp : SlI H pv ps) (hpl : ps.length <= 1000) :
  FnX Tryz.prog (.wg Tryz.prog) 43 #[smV s.places dv hv nv, .int .i64 hour, pv] H fun e H' => ∃ v, e = .returned (.tuple #[v, .int .i64 (begE s ps hour)]) /\ H.le H' /\ (begE s ps hour = 0 ∨ begE s ps hour = 11 -> SlT H' v (Axd s)) /\ (begE s ps hour = 3 ∨ begE s ps hour = 1 -> v = .slice none 0 0) := by
 obtain ⟨da, dc, ha, kc, na, nc, rfl, rfl, rfl, l1, l2, l3⟩ := hs.forms
 obtain ⟨pa, pc, rfl, hpc, _⟩ := id hp
 refine Aql func43 rfl ntmps43 (by simp) ?_
 (refine @unH _ (zA Ajw ?_); (try clear hK K); intro K hK hc)
 (intro sb hsb; generalize hG : Hp.set _ sb _ = H1; have lH1 := Aqc hG hsb; have vsb := Aqb hG; clear hG)
 have hs1 := hs.le lH1
 have hp1 := hp.le lH1
 have q0 := ok.p0
 have q6 := ok.p1
 clear hsb
 (refine @unH _ (zU Ajw ?_); (try clear hK K); intro K hK hc)
 refine (Ak8 _ H1 s _ _ _ hs1 ok).runs.mono ?_
 rintro _ H2 ⟨rfl, lH2⟩
 have l02 := Hp.le_trans lH1 lH2
 have hs2 := hs1.le lH2
 have hp2 := hp1.le lH2
 have vs2 := lH2 _ _ vsb
 clear vsb lH1 lH2 hs1 hp1 hs hp
 (refine @unH _ (zU Ajw ?_); (try clear hK K); intro K hK hc)
 refine Axh (fun w a' H' => ∃ e, ∃ k : Nat, w = ps.length - k /\ k <= ps.length /\ a' = act 38 e [] /\ e 1 = .int .i64 hour /\ e 3 = .pointer (some ⟨sb, 0, none⟩) /\ e 17 = .slice pa ps.length pc /\ e 18 = .int .i64 ps.length /\ e 19 = .int .i64 (k : Nat) /\ (ps.take k).any (fun p => decide (p < 0) || decide (s.places - 1 < p)) = false /\ H' = H2) (n := ps.length) ?_ ?_
 ·exact ⟨_, 0, by omega, by omega, rfl, rfl, rfl, rfl, rfl, rfl, rfl, rfl⟩
 ·rintro w a' H3 ⟨e, k, rfl, hk, rfl, e1, e3, e17, e18, e19, hany, hHQ⟩
  rw [hHQ]; clear hHQ H3
  by_cases hlt : k < ps.length
  ·obtain ⟨b, o, q, c, fr, rfl, hb, hc'⟩ := hp2.get (List.getElem?_eq_getElem hlt)
   have hstep : (ps.take (k + 1)).any (fun p => decide (p < 0) || decide (s.places - 1 < p)) = (decide (ps[k] < 0) || decide (s.places - 1 < ps[k])) := by
    rw [List.take_add_one, List.getElem?_eq_getElem hlt, List.any_append, hany]
    simp
   have hall : (decide (ps[k] < 0) || decide (s.places - 1 < ps[k])) = true -> ps.any (fun p => decide (p < 0) || decide (s.places - 1 < p)) = true := fun h => List.any_eq_true.2 ⟨_, List.getElem_mem hlt, h⟩
   generalize ps[k] = p at *
   replace hany : Aqo _ := hany
   replace hstep : Aqo _ := hstep
   replace hall : Aqo _ := hall
   (refine @unH _ (zA Ajw ?_); (try clear hK K); intro K hK hc)
   refine (Axc _ H2 p 0 (s.places - 1)).runs.mono ?_
   rintro _ _ ⟨rfl, hQ⟩
   rw [hQ]
   clear hQ
   cases hbad : (decide (p < 0) || decide (s.places - 1 < p)) with
   | true =>
    have hE : Aqo (begE s ps hour = 3) := show begE s ps hour = 3 by
     unfold begE
     rw [(show _ -> _ from hall) hbad, if_pos rfl]
    (refine @unH _ (zU Ajw ?_); (try clear hK K); intro K hK hc)
    (refine @unH _ ?_; refine zB results43 ?_)
    rw [show begE s ps hour = 3 from hE]
    exact ⟨_, rfl, l02, by simp, fun _ => rfl⟩
   | false =>
    rw [hbad] at hstep
    (refine @unH _ (zU Ajw ?_); (try clear hK K); intro K hK hc)
    exact ⟨_, by omega, _, k + 1, rfl, by omega, rfl, e1, e3, e17, e18, rfl, hstep, by trivial⟩
  ·obtain rfl : k = ps.length := by omega
   rw [List.take_length] at hany
   replace hany : Aqo _ := hany
   (refine @unH _ (zA Ajw ?_); (try clear hK K); intro K hK hc)
   refine (Axc _ H2 hour 0 12).runs.mono ?_
   rintro _ _ ⟨rfl, hQ⟩
   rw [hQ]
   clear hQ
   by_cases hh : hour < 0 ∨ 12 < hour
   ·rw [show (decide (hour < 0) || decide (12 < hour)) = true by simp; omega]
    have hE : Aqo (begE s ps hour = 1) := show begE s ps hour = 1 by
     unfold begE
     rw [show ps.any _ = false from hany, if_neg (by simp), if_pos hh]
    (refine @unH _ (zU Ajw ?_); (try clear hK K); intro K hK hc)
    (refine @unH _ ?_; refine zB results43 ?_)
    rw [show begE s ps hour = 1 from hE]
    exact ⟨_, rfl, l02, by simp, fun _ => rfl⟩
   ·rw [show (decide (hour < 0) || decide (12 < hour)) = false by simp; omega]
    have hE : Aqo (begE s ps hour = if Azh s = 0 then 11 else 0) := show begE s ps hour = _ by
     unfold begE
     rw [show ps.any _ = false from hany, if_neg (by simp), if_neg hh]
    (refine @unH _ (zU Ajw ?_); (try clear hK K); intro K hK hc)
    refine (Awy H2 s _ _ _ hs2 ok).runs.mono ?_
    rintro _ H4 ⟨v, rfl, hv, lH4⟩
    have l04 := Hp.le_trans l02 lH4
    clear lH4 hs2 hp2 vs2
    (refine @unH _ (zU Ajw ?_); (try clear hK K); intro K hK hc)
    refine (Av8 _ H4 s ok v hv).runs.mono ?_
    rintro _ H5 ⟨rfl, lH5⟩
    have hv5 := hv.le lH5
    have l05 := Hp.le_trans l04 lH5
    by_cases hz : Azh s = 0
    ·rw [hz] at hE ⊢
     rw [if_pos rfl] at hE
     replace hE : Aqo _ := hE
     clear hz
     (refine @unH _ (zU Ajw ?_); (try clear hK K); intro K hK hc)
     (refine @unH _ ?_; refine zB results43 ?_)
     rw [show begE s ps hour = 11 from hE]
     exact ⟨_, rfl, l05, fun _ => hv5, by simp⟩
    ·rw [if_neg hz] at hE
     replace hE : Aqo _ := hE
     have hz' : ((Azh s : Nat) : Int) ≠ 0 := by omega
     (refine @unH _ (zU Ajw ?_); (try clear hK K); intro K hK hc)
     (refine @unH _ ?_; refine zB results43 ?_)
     rw [show begE s ps hour = 0 from hE]
     exact ⟨_, rfl, l05, fun _ => hv5, by simp⟩
def Bzh := aN @Dwj (aN @Avp @Bjz)
def Avh := aN @Dwj (aN @Avp (aN (fun H => Aqs (H := H) (P := Tryz.prog) (h := zeroValue110)) (aN @Dyh (aN @Ayv (aN @Dv5 @Cj3)))))
def Bkw := aN @Dwj (aN @Bw4 @Bjz)
def Cqt := aN @Dv5 (aN @Bw5 @Dyh)
theorem nilS (H : Hp) : SlI H (.slice none 0 0) [] := ⟨none, 0, rfl, Nat.le_refl _, fun i x h => by simp at h⟩
theorem Bq2 (s : Sm) : begE s [] 0 = if Azh s = 0 then 11 else 0 := by
 unfold begE
 simp
theorem By2 (H : Hp) (s : Sm) (dv hv nv : Value) (hs : SmIn H dv hv nv s) (ok : SmOk s) :
  FnX Tryz.prog (.wg Tryz.prog) 18 #[smV s.places dv hv nv] H fun e H' => e = .returned (.tuple #[.int .i64 (Azh s : Nat), .int .i64 0]) /\ H.le H' := by
 obtain ⟨da, dc, ha, kc, na, nc, rfl, rfl, rfl, l1, l2, l3⟩ := hs.forms
 refine Aql func18 rfl ntmps18 (by simp) ?_
 (refine @unH _ (zA Bzh ?_); (try clear hK K); intro K hK hc)
 (intro sb hsb; generalize hG : Hp.set _ sb _ = H1; have lH1 := Aqc hG hsb; have vsb := Aqb hG; clear hG)
 (refine @unH _ (zU Bzh ?_); (try clear hK K); intro K hK hc)
 refine (Azf H1 s _ _ _ (hs.le lH1) ok 0 _ [] (nilS H1) (by simp)).runs.mono ?_
 rw [Bq2]
 rintro _ H2 ⟨v, rfl, lH2, hv, _⟩
 have l02 := Hp.le_trans lH1 lH2
 clear lH1 lH2 vsb hs hsb
 by_cases hz : Azh s = 0
 ·rw [if_pos hz]
  have hz' : Aqo (Azh s = 0) := hz
  replace hz' : Aqo _ := hz'
  clear hz hv
  (refine @unH _ (zU Bzh ?_); (try clear hK K); intro K hK hc)
  (refine @unH _ ?_; refine zB results18 ?_)
  exact ⟨by rw [show Azh s = 0 from hz']; rfl, l02⟩
 ·rw [if_neg hz]
  rw [if_neg hz] at hv
  have hv2 := hv (.inl rfl)
  clear hv
  (refine @unH _ (zU Bzh ?_); (try clear hK K); intro K hK hc)
  refine (Av8 _ H2 s ok v hv2).runs.mono ?_
  rintro _ H3 ⟨rfl, lH3⟩
  have l03 := Hp.le_trans l02 lH3
  (refine @unH _ (zU Bzh ?_); (try clear hK K); intro K hK hc)
  (refine @unH _ ?_; refine zB results18 ?_)
  exact ⟨trivial, l03⟩
theorem Cvl (H : Hp) (s : Sm) (dv hv nv : Value) (hs : SmIn H dv hv nv s) (ok : SmOk s) :
  FnX Tryz.prog (.wg Tryz.prog) 57 #[smV s.places dv hv nv] H fun e H' => e = .returned (.bool (decide (0 < Azh s))) /\ H.le H' := by
 obtain ⟨da, dc, ha, kc, na, nc, rfl, rfl, rfl, l1, l2, l3⟩ := hs.forms
 refine Aql func57 rfl ntmps57 (by simp) ?_
 (refine @unH _ (zA Bkw ?_); (try clear hK K); intro K hK hc)
 (intro sb hsb; generalize hG : Hp.set _ sb _ = H1; have lH1 := Aqc hG hsb; have vsb := Aqb hG; clear hG)
 (refine @unH _ (zU Bkw ?_); (try clear hK K); intro K hK hc)
 refine (Awy H1 s _ _ _ (hs.le lH1) ok).runs.mono ?_
 rintro _ H2 ⟨v, rfl, hv, lH2⟩
 have l02 := Hp.le_trans lH1 lH2
 (refine @unH _ (zU Bkw ?_); intro _ _ hc)
 refine (Av8 _ H2 s ok v hv).runs.mono ?_
 rintro _ H3 ⟨rfl, lH3⟩
 have l03 := Hp.le_trans l02 lH3
 (refine @unH _ (zU Bkw ?_); (try clear hK K); intro K hK hc)
 (refine @unH _ ?_; refine z9 results57 ?_)
 refine ⟨?_, l03⟩
 have : decide ((0 : Int) < ((Azh s : Nat) : Int)) = decide (0 < Azh s) := by
  rw [Bool.eq_iff_iff]
  simp
 rw [<- this]
def Cyi (L : List (Int × Int × Hint)) : Nat := oOf (L.map fun x => x.1)
theorem Bzr (main : Md) (H : Hp) (ob m : Nat) (ham hour : Int) (x : Hint) (hm : m < 64) (h0 : 0 <= ham) (h1 : ham < 6) (vo : H ob = some (true, .cells #[.int .u8 m] 110 (0, 0))) :
  FnX Tryz.prog main 62 #[.int .i64 ham, .int .i64 hour, .agg (Axn x).toArray, .pointer (some ⟨ob, 0, none⟩)] H fun e H' => e = .returned (.tuple #[]) /\ H' ob = some (true, .cells #[.int .u8 (Akq m ham.toNat : Nat)] 110 (0, 0)) /\ ∀ b x, b ≠ ob -> H b = some x -> H' b = some x := by
 refine Aql func62 rfl ntmps62 (by simp) ?_
 (refine @unH _ (zA Cqt ?_); (try clear hK K); intro K hK hc)
 (intro b hb; generalize hG : Hp.set _ b _ = H1; have lH1 := Aqc hG hb; have vb := Aqb hG; clear hG)
 have vo1 := lH1 _ _ vo
 (refine @unH _ (zU Cqt ?_); (try clear hK K); intro K hK hc)
 refine (Ay0 main H1 m ham hm h0 h1).runs.mono ?_
 rintro _ _ ⟨rfl, hQ⟩
 rw [hQ]
 clear hQ
 (refine @unH _ (zU Cqt ?_); (try clear hK K); intro K hK hc)
 (refine @unH _ ?_; refine zD results62 ?_)
 exact ⟨by trivial, Axp, fun b x hb hx => by rw [Aqv hb]; exact lH1 _ _ hx⟩
theorem Ay7 {s : Sm} (ok : SmOk s) : ∀ t ∈ Axd s, 0 <= t.ham /\ t.ham < 3 := fun t ht => by
 simp only [Axd, List.mem_map, List.mem_range] at ht
 obtain ⟨i, hi, rfl⟩ := ht
 have := ok.h1
 exact ⟨by show (0 : Int) <= (i : Int); omega, by show (i : Int) < 3; omega⟩
theorem Cxs {s : Sm} (ok : SmOk s) : ∀ x ∈ susp s, 0 <= x.1 /\ x.1 < 3 := fun x hx => by
 unfold susp Azj at hx
 obtain ⟨t, ht, hx⟩ := List.mem_flatMap.1 hx
 unfold Ayo at hx
 obtain ⟨y, _, rfl⟩ := List.mem_map.1 hx
 exact Ay7 ok t ht
def Cyj (L : List (Int × Int × Hint)) : Nat := L.foldl (fun m x => if 0 <= x.1 /\ x.1 < 3 then Akq m x.1.toNat else m) 0
theorem Cyl (L : List (Int × Int × Hint)) : Cyj L < 64 := by
 have key : ∀ (L : List (Int × Int × Hint)) (m : Nat), m < 64 -> L.foldl (fun m x => if 0 <= x.1 /\ x.1 < 3 then Akq m x.1.toNat else m) m < 64 := by
  intro L
  induction L with
  | nil => intro m h; exact h
  | cons x L ih =>
   intro m h
   rw [List.foldl_cons]
   refine ih _ ?_
   split
   ·exact Bkc h (by omega) (by omega)
   ·exact h
 exact key L 0 (by decide)
theorem Cyk {L : List (Int × Int × Hint)} (h : ∀ x ∈ L, 0 <= x.1 /\ x.1 < 3) : Cyj L = Cyi L := by
 have key : ∀ (L : List (Int × Int × Hint)) (m : Nat), (∀ x ∈ L, 0 <= x.1 /\ x.1 < 3) -> L.foldl (fun m x => if 0 <= x.1 /\ x.1 < 3 then Akq m x.1.toNat else m) m = (L.map fun x => x.1).foldl (fun m x => Akq m x.toNat) m := by
  intro L
  induction L with
  | nil => intro m _; rfl
  | cons x L ih =>
   intro m h
   rw [List.foldl_cons, List.map_cons, List.foldl_cons, if_pos (h x List.mem_cons_self), ih _ (fun y hy => h y (List.mem_cons_of_mem _ hy))]
 exact key L 0 h
theorem sSuspects_spec (H : Hp) (s : Sm) (dv hv nv : Value) (hs : SmIn H dv hv nv s) (ok : SmOk s) :
  FnX Tryz.prog (.wg Tryz.prog) 27 #[smV s.places dv hv nv] H fun e H' => ∃ v, e = .returned (.tuple #[v, .int .i64 (if Azh s = 0 then 11 else 0)]) /\ SlI H' v (if Azh s = 0 then [] else Byt (Cyi (susp s))) /\ H.le H' := by
 obtain ⟨da, dc, ha, kc, na, nc, rfl, rfl, rfl, l1, l2, l3⟩ := hs.forms
 have hm64 : Cyi (susp s) < 64 := Cva _ 0 (by decide) fun x hx => by
  obtain ⟨y, hy, rfl⟩ := List.mem_map.1 hx
  have := Cxs ok y hy
  omega
 by_cases hz : Azh s = 0
 ·simp only [if_pos hz]
  refine Aql func27 rfl ntmps27 (by simp) ?_
  (refine @unH _ (zA Avh ?_); (try clear hK K); intro K hK hc)
  (intro sb hsb; generalize hG : Hp.set _ sb _ = H1; have lH1 := Aqc hG hsb; have vsb := Aqb hG; clear hG)
  (refine @unH _ (zU Avh ?_); (try clear hK K); intro K hK hc)
  refine (Azf H1 s _ _ _ (hs.le lH1) ok 0 _ [] (nilS H1) (by simp)).runs.mono ?_
  rw [Bq2, if_pos hz]
  rintro _ H2 ⟨v, rfl, lH2, hv, _⟩
  have l02 := Hp.le_trans lH1 lH2
  clear lH1 lH2 vsb hs hsb
  clear hz hv
  (refine @unH _ (zU Avh ?_); (try clear hK K); intro K hK hc)
  (refine @unH _ ?_; refine zB results27 ?_)
  exact ⟨_, rfl, nilS _, l02⟩
 ·simp only [if_neg hz]
  refine Aql func27 rfl ntmps27 (by simp) ?_
  (refine @unH _ (zA Avh ?_); (try clear hK K); intro K hK hc)
  (intro sb hsb; generalize hG : Hp.set _ sb _ = H1; have lH1 := Aqc hG hsb; have vsb := Aqb hG; clear hG)
  (refine @unH _ (zU Avh ?_); (try clear hK K); intro K hK hc)
  refine (Azf H1 s _ _ _ (hs.le lH1) ok 0 _ [] (nilS H1) (by simp)).runs.mono ?_
  rw [Bq2, if_neg hz]
  rintro _ H2 ⟨v, rfl, lH2, hv, _⟩
  have l02 := Hp.le_trans lH1 lH2
  clear lH1 lH2 vsb hs hsb
  have hv2 := hv (.inl rfl)
  clear hv hz
  (refine @unH _ (zU Avh ?_); (try clear hK K); intro K hK hc)
  intro ob hob
  (refine @unH _ (zU Avh ?_); (try clear hK K); intro K hK hc)
  generalize hG : Hp.set H2 ob _ = H3
  have lH3 := Aqc hG hob
  have vo3 := Aqb hG
  have l03 := Hp.le_trans l02 lH3
  have h0ob := hob
  have h00 := Hp.le_none l02 hob
  clear hG hob
  have hone := Bxr (.wg Tryz.prog) (A := fun ham _ _ => 0 <= ham /\ ham < 3) (yf := .func 62) (yi := #[]) (yc := #[.pointer (some ⟨ob, 0, none⟩)]) H2 H3 v _ hv2 ob (fun L => .cells #[.int .u8 (Cyj L : Nat)] 110 (0, 0)) lH3 h0ob (by rw [vo3]; rfl) (fun L H' ham hour x h1 h2 hxo ⟨a0, a3⟩ => by
   refine Ajd.fn (fun _ _ => Dxw _) ((Bzr _ H' ob _ ham hour x (Cyl L) a0 (by omega) h1).mono ?_)
   rintro _ H4 ⟨rfl, h3, h4⟩
   refine ⟨rfl, ?_, h4⟩
   rw [h3]
   unfold Cyj
   rw [List.foldl_append, List.foldl_cons, List.foldl_nil, if_pos ⟨a0, a3⟩]) (Azw ok) (fun t ht h x _ _ => Ay7 ok t ht) (by rw [Ax6]; have := ok.h1; omega)
  refine hone.runs.mono ?_
  clear hone
  rintro _ H4 ⟨rfl, h3, h4⟩
  rw [show Azj (Axd s) = susp s from rfl, Cyk (Cxs ok)] at h3
  have l04 : H.le H4 := fun b x hx => h4 b x (fun e => by rw [e, h00] at hx; cases hx) (l03 _ _ hx)
  replace h3 : H4 ob = some (true, .cells #[.int .u8 (Cyi (susp s) : Nat)] 110 (0, 0)) := h3
  clear h4 vo3 l03 l02
  (refine @unH _ (zU Avh ?_); (try clear hK K); intro K hK hc)
  refine (Cz7 _ H4 _ hm64).runs.mono ?_
  rintro _ H5 ⟨w, rfl, hw, lH5⟩
  have l05 := Hp.le_trans l04 lH5
  (refine @unH _ (zU Avh ?_); (try clear hK K); intro K hK hc)
  (refine @unH _ ?_; refine zB results27 ?_)
  exact ⟨_, rfl, hw, l05⟩
def Bqb := aN @Dwj (aN @Ax1 (aN @Avp (aN @Bw3 @Cj1)))
def Bzi := aN @Dw6 (aN @Ayv (aN (fun H => Aqn (H := H) underlying87 rfl sizeOf87) (fun H => Aqr (H := H) sizeOf87)))
def Bqd := aN @Dvy (aN @Dwc @Dvz)
def Bkx := aN @Dwc (aN @Dv1 (aN @Dvf (aN @Dvy (aN @Bjy @Dvz))))
def gB (x : Hint) (p : Int) : Bd := x.bs.getD p.toNat bd0
theorem Cxa {x : Hint} (h : Axi x) {p : Int} (h0 : 0 <= p) (h1 : p < 6) : x.bs[p.toNat]? = some (gB x p) := by
 unfold gB
 rw [List.getD, List.getElem?_eq_getElem (by rw [h.b]; omega)]
 rfl
abbrev bdO (b : Bd) : Obj := .cells #[.int .i64 b.lo, .int .i64 b.hi, .bool b.some] 87 (0, 0)
theorem Cwg (b : Bd) : BdC #[.int .i64 b.lo, .int .i64 b.hi, .bool b.some] 0 b := ⟨rfl, rfl, rfl⟩
theorem Cx3 (b b' : Bd) : Bzk #[.int .i64 b.lo, .int .i64 b.hi, .bool b.some] 0 b' = #[.int .i64 b'.lo, .int .i64 b'.hi, .bool b'.some] := by simp [Bzk]
theorem Ak4 (main : Md) (H : Hp) (bb : Nat) (b : Bd) (x : Int) (vb : H bb = some (true, bdO b)) :
  FnX Tryz.prog main 46 #[.pointer (some ⟨bb, 0, none⟩), .int .i64 x] H fun e' H' => e' = .returned (.tuple #[]) /\ H' bb = some (true, bdO (Ax0 b x)) /\ ∀ y, y ≠ bb -> H' y = H y :=
 (Bv0 main H bb 0 b x _ _ vb (Cwg b)).mono fun e H' ⟨h1, h2, h3⟩ => ⟨h1, by rw [h2, Cx3], h3⟩
def arrF (p : Int) (b : Bd) (x : Int × Int × Hint) : Bd := Ax0 (Ax0 b (gB x.2.2 p).lo) (gB x.2.2 p).hi
theorem Bjq (main : Md) (H : Hp) (ob pb : Nat) (p : Int) (h0 : 0 <= p) (h1 : p < 6) (ham hour : Int) (x : Hint) (hx : Axi x) (b : Bd) (vo : H ob = some (true, bdO b)) (vp : H pb = some (true, .cells #[.int .i64 p] 3 (0, 0))) (hne : pb ≠ ob) :
  FnX Tryz.prog main 72 #[.int .i64 ham, .int .i64 hour, .agg (Axn x).toArray, .pointer (some ⟨ob, 0, none⟩), .pointer (some ⟨pb, 0, none⟩)] H fun e H' => e = .returned (.tuple #[]) /\ H' ob = some (true, bdO (arrF p b (ham, hour, x))) /\ ∀ b x, b ≠ ob -> H b = some x -> H' b = some x := by
 have hl := Axs hx
 have hex := Akl hx
 have hbd := Ayb hx (Cxa hx h0 h1)
 obtain ⟨hb1, hb2, _⟩ := hbd
 unfold arrF
 simp only
 generalize gB x p = g at *
 generalize Axn x = HC at *
 refine Aql func72 rfl ntmps72 (by simp) ?_
 (refine @unH _ (zA Bkx ?_); (try clear hK K); intro K hK hc)
 (intro b hb; generalize hG : Hp.set _ b _ = H1; have lH1 := Aqc hG hb; have vb := Aqb hG; clear hG)
 have vo1 := lH1 _ _ vo
 have vp1 := lH1 _ _ vp
 (refine @unH _ (zU Bkx ?_); (try clear hK K); intro K hK hc)
 refine (Ak4 main H1 ob _ g.lo vo1).runs.mono ?_
 rintro _ H2 ⟨rfl, h21, h22⟩
 have nob : b ≠ ob := fun e => by rw [e, vo] at hb; cases hb
 have vp2 := (h22 pb hne).trans vp1
 have vb2 := (h22 b nob).trans vb
 have hf2 : ∀ c z, c ≠ ob -> H c = some z -> H2 c = some z := fun c z hc hz => (h22 c hc).trans (lH1 _ _ hz)
 clear vo1 vp1 vb h22 lH1
 (refine @unH _ (zU Bkx ?_); (try clear hK K); intro K hK hc)
 refine (Ak4 main H2 ob _ g.hi h21).runs.mono ?_
 rintro _ H3 ⟨rfl, h31, h32⟩
 (refine @unH _ (zU Bkx ?_); (try clear hK K); intro K hK hc)
 (refine @unH _ ?_; refine zD results72 ?_)
 exact ⟨rfl, h31, fun c z hc hz => (h32 c hc).trans (hf2 c z hc hz)⟩
def arrL (L : List (Int × Int × Hint)) (p : Int) : Bd := L.foldl (arrF p) bd0
theorem Cjq (L : List (Int × Int × Hint)) (p : Int) (x : Int × Int × Hint) : arrL (L ++ [x]) p = arrF p (arrL L p) x := by simp [arrL]
theorem Avo (main : Md) (H : Hp) (v : Value) (l : List Trail) (hv : SlT H v l) (hok : ∀ t ∈ l, Axw t) (hl : l.length <= 1000) (p : Int) (h0 : 0 <= p) (h1 : p < 6) :
  FnX Tryz.prog main 48 #[v, .int .i64 p] H fun e H' => e = .returned (.agg #[.int .i64 (arrL (Azj l) p).lo, .int .i64 (arrL (Azj l) p).hi, .bool (arrL (Azj l) p).some]) /\ H.le H' := by
 obtain ⟨a, cap, rfl, hcap⟩ := hv.isSlice
 refine Aql func48 rfl ntmps48 (by simp) ?_
 (refine @unH _ (zA Bzi ?_); (try clear hK K); intro K hK hc)
 (intro pb hpb rb hrb; replace hrb : (Hp.set _ pb _) rb = none := hrb; generalize hG : Hp.set _ pb _ = H1 at hrb ⊢; have lH1 := Aqc hG hpb; have wpb := Aqb hG; clear hG; generalize hG : Hp.set _ rb _ = H2; have lH2 := Aqc hG hrb; have vrb := Aqb hG; have vpb := lH2 _ _ wpb; have npbrb := Aqq wpb hrb; clear hG wpb)
 have l02 := Hp.le_trans lH1 lH2
 have hv2 := hv.le l02
 have h0rb := Hp.le_none lH1 hrb
 clear lH1 lH2 hpb
 (refine @unH _ (zU Bzi ?_); (try clear hK K); intro K hK hc)
 intro ob hob
 have nob := Aqq vpb hob
 have nrb := Aqq vrb hob
 generalize hG : Hp.set H2 ob _ = H3
 have lH3 := Aqc hG hob
 have vo3 := Aqb hG
 have vp3 := Aqf hG vpb nob
 have vr3 := Aqf hG vrb nrb
 have h00 := Hp.le_none l02 hob
 clear hG vpb vrb
 have hone := Bxr main (A := fun _ _ _ => True) (yf := .func 72) (yi := #[]) (yc := #[.pointer (some ⟨ob, 0, none⟩), .pointer (some ⟨pb, 0, none⟩)]) H2 H3 _ _ hv2 ob (fun L => bdO (arrL L p)) lH3 hob (by rw [vo3]; rfl) (fun L H' ham hour x g1 g2 hxo _ => by
  refine Ajd.fn (fun _ _ => Dx1 _) ((Bjq main H' ob pb p h0 h1 ham hour x hxo _ g1 (g2 _ _ nob vp3) nob).mono ?_)
  rintro _ H4 ⟨rfl, h3, h4⟩
  exact ⟨rfl, by rw [h3, Cjq], h4⟩) hok (fun _ _ _ _ _ _ => trivial) hl
 (refine @unH _ (zU Bzi ?_); (try clear hK K); intro K hK hc)
 refine hone.runs.mono ?_
 clear hone
 rintro _ H4 ⟨rfl, h3, h4⟩
 have l04 : H.le H4 := fun b x hx => h4 b x (fun e => by rw [e, h00] at hx; cases hx) (lH3 _ _ (l02 _ _ hx))
 have vr4 := h4 _ _ nrb vr3
 generalize arrL (Azj l) p = w at *
 clear h4 vr3 vp3 vo3 l02 lH3 hv2
 (refine @unH _ (zU Bzi ?_); (try clear hK K); intro K hK hc)
 (refine Axt ?_; (try simp only [nq, ↓reduceIte, Nat.reduceEqDiff]); rw [Aq7, Ax2 results48 (by decide) (b := rb) (o := 0) rfl underlying87 rfl sizeOf87]; simp -implicitDefEqProofs (disch := first | omega | (simp only [qd] <;> omega)) only [xq, ↓xp, qc, Nat.reduceAdd, List.range, List.range.loop, fine, Nat.reduceEqDiff, ↓reduceIte, yielded, reduceCtorEq, Nat.reduceLT, Nat.reduceMul, Nat.reduceSub, one, Nat.reduceLeDiff, Aqj, Bzi, Axj, List.extract_toArray])
 exact fun c z hc => by rw [Aqv (fun e => by rw [e, h0rb] at hc; cases hc)]; exact l04 _ _ hc
def Bko (b : Bd) (h : Int) : Int := if b.lo <= h /\ h < b.hi then 3 else if h < b.lo then 2 else 1
theorem Ayp (main : Md) (H : Hp) (b : Bd) (h : Int) :
  FnX Tryz.prog main 49 #[.agg #[.int .i64 b.lo, .int .i64 b.hi, .bool b.some], .int .i64 h] H fun e H' => e = .returned (.int .i64 (Bko b h)) /\ H.le H' := by
 unfold Bko
 by_cases g1 : b.lo <= h
 ·have d1 : decide (b.lo <= h) = true := by simpa using g1
  by_cases g2 : h < b.hi
  ·have d2 : decide (h < b.hi) = true := by simpa using g2
   rw [if_pos ⟨g1, g2⟩]
   clear g1 g2
   refine Aql func49 rfl ntmps49 (by simp) ?_
   (refine @unH _ (zA Bqd ?_); (try clear hK K); intro K hK hc)
   (intro bb hbb; generalize hG : Hp.set _ bb _ = H1; have lH1 := Aqc hG hbb; have vbb := Aqb hG; clear hG)
   (refine @unH _ (zU Bqd ?_); (try clear hK K); intro K hK hc)
   (refine @unH _ ?_; refine z9 results49 ?_)
   exact ⟨rfl, lH1⟩
  ·have d2 : decide (h < b.hi) = false := by simpa using g2
   have d3 : decide (h < b.lo) = false := by simp; omega
   rw [if_neg (fun g => g2 g.2), if_neg (by omega : ¬ h < b.lo)]
   clear g1 g2
   refine Aql func49 rfl ntmps49 (by simp) ?_
   (refine @unH _ (zA Bqd ?_); (try clear hK K); intro K hK hc)
   (intro bb hbb; generalize hG : Hp.set _ bb _ = H1; have lH1 := Aqc hG hbb; have vbb := Aqb hG; clear hG)
   (refine @unH _ (zU Bqd ?_); (try clear hK K); intro K hK hc)
   (refine @unH _ ?_; refine z9 results49 ?_)
   exact ⟨rfl, lH1⟩
 ·have d1 : decide (b.lo <= h) = false := by simpa using g1
  have d3 : decide (h < b.lo) = true := by simp; omega
  rw [if_neg (fun g => g1 g.1), if_pos (by omega)]
  clear g1
  refine Aql func49 rfl ntmps49 (by simp) ?_
  (refine @unH _ (zA Bqd ?_); (try clear hK K); intro K hK hc)
  (intro bb hbb; generalize hG : Hp.set _ bb _ = H1; have lH1 := Aqc hG hbb; have vbb := Aqb hG; clear hG)
  (refine @unH _ (zU Bqd ?_); (try clear hK K); intro K hK hc)
  (refine @unH _ ?_; refine z9 results49 ?_)
  exact ⟨rfl, lH1⟩
theorem Dzv {H : Hp} {b : Nat} {x : Int} {p : Bool} {fr : Nat × Nat} (h : H b = some (p, .cells #[.int .i64 x] 3 fr)) : SlI H (.slice (some ⟨b, 0, none⟩) 1 1) [x] := by
 refine ⟨some ⟨b, 0, none⟩, 1, rfl, Nat.le_refl _, fun i y hy => ?_⟩
 rcases i with _ | i
 ·simp only [List.getElem?_cons_zero, Option.some.injEq] at hy
  subst hy
  exact ⟨b, 0, p, _, _, rfl, h, rfl⟩
 ·simp at hy
theorem Bwq {s : Sm} (ok : SmOk s) {p h : Int} (hb : begE s [p] h = 0) : 0 <= p /\ p < 6 := by
 unfold begE at hb
 have h6 := ok.p1
 simp only [List.any_cons, List.any_nil, Bool.or_false, Bool.or_eq_true, decide_eq_true_eq] at hb
 split at hb
 ·cases hb
 ·omega
def Cv0 (s : Sm) (p h : Int) : Int := if begE s [p] h = 0 then Bko (arrL (susp s) p) h else 0
theorem Bkk (H : Hp) (s : Sm) (dv hv nv : Value) (hs : SmIn H dv hv nv s) (ok : SmOk s) (p h : Int) :
  FnX Tryz.prog (.wg Tryz.prog) 12 #[smV s.places dv hv nv, .int .i64 p, .int .i64 h] H fun e H' => e = .returned (.tuple #[.int .i64 (Cv0 s p h), .int .i64 (begE s [p] h)]) /\ H.le H' := by
 obtain ⟨da, dc, ha, kc, na, nc, rfl, rfl, rfl, l1, l2, l3⟩ := hs.forms
 have hpp : begE s [p] h = 0 -> 0 <= p /\ p < 6 := Bwq ok
 have hr0 : begE s [p] h = 0 -> Cv0 s p h = Bko (arrL (susp s) p) h := fun e => if_pos e
 have hr1 : begE s [p] h ≠ 0 -> Cv0 s p h = 0 := fun e => if_neg e
 have hbeg := fun H dv hv nv (hs : SmIn H dv hv nv s) pv (hp : SlI H pv [p]) => Azf H s dv hv nv hs ok h pv [p] hp (by simp)
 generalize begE s [p] h = z at *
 generalize Cv0 s p h = r at *
 replace hpp : Aqo _ := hpp
 replace hr0 : Aqo _ := hr0
 replace hr1 : Aqo _ := hr1
 replace hbeg : Aqo _ := hbeg
 refine Aql func12 rfl ntmps12 (by simp) ?_
 (refine @unH _ (zA Bqb ?_); (try clear hK K); intro K hK hc)
 (intro sb hsb; generalize hG : Hp.set _ sb _ = H1; have lH1 := Aqc hG hsb; have vsb := Aqb hG; clear hG)
 have hs1 := hs.le lH1
 have h0sb := hsb
 clear hsb
 (refine @unH _ (zU Bqb ?_); (try clear hK K); intro K hK hc)
 (intro pb hpb; generalize hG : Hp.set _ pb _ = H2; have lH2 := Aqc hG hpb; have vpb := Aqb hG; clear hG)
 have hs2 := hs1.le lH2
 have l02 := Hp.le_trans lH1 lH2
 have hp2 : SlI H2 (.slice (some ⟨pb, 0, none⟩) 1 1) [p] := Dzv vpb
 clear hs hs1 vsb hpb lH1 lH2 vpb
 refine ((show ∀ H dv hv nv (hs : SmIn H dv hv nv s) pv (hp : SlI H pv [p]), _ from hbeg) H2 _ _ _ hs2 _ hp2).runs.mono ?_
 clear hbeg
 rintro _ H3 ⟨v, rfl, lH3, hv, _⟩
 have l03 := Hp.le_trans l02 lH3
 clear hs2 hp2 lH3 l02 h0sb
 by_cases hz : z = 0
 ·subst hz
  replace hv := hv (.inl rfl)
  obtain ⟨p0, p1⟩ := hpp rfl
  replace hr0 : Aqo (r = Bko (arrL (susp s) p) h) := hr0 rfl
  clear hpp hr1
  (refine @unH _ (zU Bqb ?_); (try clear hK K); intro K hK hc)
  refine (Avo _ H3 v _ hv (Azw ok) (by rw [Ax6]; have := ok.h1; omega) p p0 p1).runs.mono ?_
  rintro _ H4 ⟨rfl, lH4⟩
  have l04 := Hp.le_trans l03 lH4
  clear l03 lH4
  rw [show arrL (Azj (Axd s)) p = arrL (susp s) p from rfl]
  generalize arrL (susp s) p = w at *
  (refine @unH _ (zU Bqb ?_); intro _ _ hc)
  refine (Ayp _ H4 w h).runs.mono ?_
  rintro _ H5 ⟨rfl, lH5⟩
  (refine @unH _ (zU Bqb ?_); (try clear hK K); intro K hK hc)
  (refine @unH _ ?_; refine zB results12 ?_)
  exact ⟨by rw [show r = _ from hr0], Hp.le_trans l04 lH5⟩
 ·replace hr1 : Aqo (r = 0) := hr1 hz
  clear hv hpp hr0
  (refine @unH _ (zU Bqb ?_); (try clear hK K); intro K hK hc)
  (refine @unH _ ?_; refine zB results12 ?_)
  exact ⟨by rw [show r = _ from hr1], l03⟩
end Go.Proofs.YtnfnaehonkbknaaGreatDoor
end
section
namespace Go.Proofs.YtnfnaehonkbknaaGreatDoor
open Go Go.X
def fitS (s : Sm) (i b : Nat) : List (List Int × List Int) := fitL s (trL s (s.hampers.getD i 0)) b
theorem Cjx (s : Sm) (L : List (List Int × List Int)) {b : Nat} (h : b < 13) : (byL s L)[b]? = some (Bqv s L (b : Int)) := by
 unfold byL
 rw [List.getElem?_map, List.getElem?_range h]
 rfl
theorem Bwc (s : Sm) (i : Nat) (x : Int × Int × Hint) : x ∈ Ayo (Azk s i) ↔ ∃ b : Nat, b < 13 /\ fitS s i b ≠ [] /\ x = ((i : Int), (b : Int), Bqv s (trL s (s.hampers.getD i 0)) (b : Int)) := by
 unfold Ayo
 simp only [List.mem_map, List.mem_filter, Azk]
 constructor
 ·rintro ⟨⟨y, b⟩, ⟨h1, h2⟩, rfl⟩
  have h3 := List.mem_zipIdx_iff_getElem?.1 h1
  simp only at h3 h2
  have hb : b < 13 := by
   have := (List.getElem?_eq_some_iff.1 h3).1
   simpa [byL] using this
  rw [Cjx s _ hb, Option.some.injEq] at h3
  subst h3
  refine ⟨b, hb, ?_, rfl⟩
  rw [Bz2] at h2
  unfold fitS
  intro h
  rw [h] at h2
  cases h2
 ·rintro ⟨b, hb, h, rfl⟩
  refine ⟨(Bqv s (trL s (s.hampers.getD i 0)) (b : Int), b), ⟨List.mem_zipIdx_iff_getElem?.2 (Cjx s _ hb), ?_⟩, rfl⟩
  simp only [Bz2]
  unfold fitS at h
  cases hL : fitL s (trL s (s.hampers.getD i 0)) (b : Int) with
  | nil => exact absurd hL h
  | cons _ _ => rfl
theorem Bkn (s : Sm) (x : Int × Int × Hint) : x ∈ susp s ↔ ∃ i b : Nat, i < s.hampers.length /\ b < 13 /\ fitS s i b ≠ [] /\ x = ((i : Int), (b : Int), Bqv s (trL s (s.hampers.getD i 0)) (b : Int)) := by
 unfold susp Azj Axd
 simp only [List.mem_flatMap, List.mem_map, List.mem_range]
 constructor
 ·rintro ⟨_, ⟨i, hi, rfl⟩, hx⟩
  obtain ⟨b, h1, h2, h3⟩ := (Bwc s i x).1 hx
  exact ⟨i, b, hi, h1, h2, h3⟩
 ·rintro ⟨i, b, hi, h1, h2, h3⟩
  exact ⟨_, ⟨i, hi, rfl⟩, (Bwc s i x).2 ⟨b, h1, h2, h3⟩⟩
def Bvf (s : Sm) (i b : Nat) (p : Int) : List Int := (fitS s i b).map fun tc => min 99 ((b : Int) + gI tc.2 p)
theorem Dzj (s : Sm) (i b : Nat) {p : Int} (h0 : 0 <= p) (h1 : p < s.places) (h6 : s.places <= 6) (hne : fitS s i b ≠ []) : IsBd (Bvf s i b p) (gB (Bqv s (trL s (s.hampers.getD i 0)) (b : Int)) p) := by
 have h := Cym s (trL s (s.hampers.getD i 0)) (b : Int) (p := p.toNat) (by omega) (by omega)
 unfold gB
 rw [List.getD, h, Option.getD_some]
 have hp : ((p.toNat : Nat) : Int) = p := by omega
 rw [hp]
 refine Bvq ?_
 intro hm
 unfold Bvf at hm
 rw [List.map_eq_nil_iff] at hm
 exact hne hm
theorem Djs (p : Int) : ∀ (L : List (Int × Int × Hint)) (w : Bd), L.foldl (arrF p) w = (L.flatMap fun x => [(gB x.2.2 p).lo, (gB x.2.2 p).hi]).foldl Ax0 w
 | [], _ => rfl
 | x :: L, w => by
  rw [List.foldl_cons, List.flatMap_cons, List.foldl_append, Djs p L]
  rfl
theorem Ck2 {α : Type} {L : List α} {V : α -> List Int} {g : α -> Bd} (h : ∀ x ∈ L, IsBd (V x) (g x)) (hne : L ≠ []) : IsBd (L.flatMap V) ((L.flatMap fun x => [(g x).lo, (g x).hi]).foldl Ax0 bd0) := by
 have h1 : IsBd (L.flatMap fun x => [(g x).lo, (g x).hi]) ((L.flatMap fun x => [(g x).lo, (g x).hi]).foldl Ax0 bd0) := Bvq (by
  cases L with
  | nil => exact absurd rfl hne
  | cons x L => simp)
 generalize (L.flatMap fun x => [(g x).lo, (g x).hi]).foldl Ax0 bd0 = w at *
 have key : ∀ y, y ∈ (L.flatMap fun x => [(g x).lo, (g x).hi]) -> y ∈ L.flatMap V := by
  intro y hy
  obtain ⟨x, hx, hy⟩ := List.mem_flatMap.1 hy
  simp only [List.mem_cons, List.not_mem_nil, or_false] at hy
  refine List.mem_flatMap.2 ⟨x, hx, ?_⟩
  rcases hy with rfl | rfl
  ·exact (h x hx).lo
  ·exact (h x hx).hi
 refine ⟨h1.some, fun y hy => ?_, key _ h1.lo, key _ h1.hi⟩
 obtain ⟨x, hx, hy⟩ := List.mem_flatMap.1 hy
 have h2 := (h x hx).all y hy
 have h3 := h1.all _ (List.mem_flatMap.2 ⟨x, hx, List.mem_cons_self⟩)
 have h4 := h1.all _ (List.mem_flatMap.2 ⟨x, hx, List.mem_cons_of_mem _ List.mem_cons_self⟩)
 omega
def allT (s : Sm) : List (Nat × Nat × List Int × List Int) := (List.range s.hampers.length).flatMap fun i => (List.range 13).flatMap fun b => (fitS s i b).map fun tc => (i, b, tc.1, tc.2)
theorem Bjo (s : Sm) (i b : Nat) (t c : List Int) : (i, b, t, c) ∈ allT s ↔ i < s.hampers.length /\ b < 13 /\ (t, c) ∈ fitS s i b := by
 unfold allT
 simp only [List.mem_flatMap, List.mem_range, List.mem_map, Prod.mk.injEq]
 constructor
 ·rintro ⟨i', h1, b', h2, ⟨t', c'⟩, h3, rfl, rfl, rfl, rfl⟩
  exact ⟨h1, h2, h3⟩
 ·rintro ⟨h1, h2, h3⟩
  exact ⟨i, h1, b, h2, (t, c), h3, rfl, rfl, rfl, rfl⟩
theorem Cjp {s : Sm} (ok : SmOk s) {p : Int} (h0 : 0 <= p) (h1 : p < s.places) (hne : susp s ≠ []) : IsBd ((allT s).map fun x => min 99 ((x.2.1 : Nat) + gI x.2.2.2 p : Int)) (arrL (susp s) p) := by
 have h6 := ok.p1
 unfold arrL
 rw [Djs]
 have hb : IsBd ((susp s).flatMap fun x => Bvf s x.1.toNat x.2.1.toNat p) (((susp s).flatMap fun x => [(gB x.2.2 p).lo, (gB x.2.2 p).hi]).foldl Ax0 bd0) := by
  refine Ck2 ?_ hne
  intro x hx
  obtain ⟨i, b, _, _, h3, rfl⟩ := (Bkn s x).1 hx
  exact Dzj s i b h0 h1 h6 h3
 generalize ((susp s).flatMap fun x => [(gB x.2.2 p).lo, (gB x.2.2 p).hi]).foldl Ax0 bd0 = w at *
 have key : ∀ y, y ∈ ((susp s).flatMap fun x => Bvf s x.1.toNat x.2.1.toNat p) ↔ y ∈ ((allT s).map fun x => min 99 ((x.2.1 : Nat) + gI x.2.2.2 p : Int)) := by
  intro y
  simp only [List.mem_flatMap, List.mem_map, Bvf]
  constructor
  ·rintro ⟨x, hx, ⟨t, c⟩, h4, rfl⟩
   obtain ⟨i, b, g1, g2, g3, rfl⟩ := (Bkn s x).1 hx
   exact ⟨(i, b, t, c), (Bjo s i b t c).2 ⟨g1, g2, h4⟩, rfl⟩
  ·rintro ⟨⟨i, b, t, c⟩, hx, rfl⟩
   obtain ⟨g1, g2, g3⟩ := (Bjo s i b t c).1 hx
   exact ⟨_, (Bkn s _).2 ⟨i, b, g1, g2, List.ne_nil_of_mem g3, rfl⟩, (t, c), g3, rfl⟩
 exact ⟨hb.some, fun y hy => hb.all y ((key y).2 hy), (key _).1 hb.lo, (key _).1 hb.hi⟩
theorem Dqu {s : Sm} (ok : SmOk s) {i b : Nat} {t c : List Int} (h : (i, b, t, c) ∈ allT s) : ∃ t0 ∈ Ax9 s.doors, t = pad6 t0 /\ c = Axf s.doors (s.hampers.getD i 0) (pad6 t0) /\ i < s.hampers.length /\ b < 13 /\ fitB s.noses c b = true := by
 obtain ⟨h1, h2, h3⟩ := (Bjo s i b t c).1 h
 unfold fitS fitL trL at h3
 simp only [List.mem_filter, List.mem_map, Prod.mk.injEq] at h3
 obtain ⟨⟨t0, h4, rfl, rfl⟩, h5⟩ := h3
 exact ⟨t0, h4, rfl, rfl, h1, h2, h5⟩
theorem Dju {s : Sm} (ok : SmOk s) {i : Nat} (h : i < s.hampers.length) : 0 <= s.hampers.getD i 0 /\ s.hampers.getD i 0 < s.places := by
 rw [List.getD, List.getElem?_eq_getElem h, Option.getD_some]
 exact ok.hk _ (List.getElem_mem h)
theorem Dx8 {s : Sm} (ok : SmOk s) {h : Int} (h0 : 0 <= h) (h1 : h < s.places) {t : List Int} (ht : t ∈ Ax9 s.doors) : Cjl (Edg s.doors (pad6 t)) h (Axf s.doors h (pad6 t)) := by
 have h6 := ok.p1
 exact Bji h6 h0 (by omega) ok.dk (Ayq ok.dk ht)
theorem Dqw {s : Sm} (ok : SmOk s) {p : Int} (h0 : 0 <= p) (h1 : p < s.places) (hne : susp s ≠ []) : 0 <= (arrL (susp s) p).lo /\ (arrL (susp s) p).lo <= 99 /\ 0 <= (arrL (susp s) p).hi /\ (arrL (susp s) p).hi <= 99 := by
 have h6 := ok.p1
 have hb := Cjp ok h0 h1 hne
 have key : ∀ y ∈ ((allT s).map fun x => min 99 ((x.2.1 : Nat) + gI x.2.2.2 p : Int)), 0 <= y /\ y <= 99 := by
  intro y hy
  obtain ⟨⟨i, b, t, c⟩, hx, rfl⟩ := List.mem_map.1 hy
  obtain ⟨t0, g1, rfl, rfl, g2, g3, g4⟩ := Dqu ok hx
  obtain ⟨q0, q1⟩ := Dju ok g2
  have := (Dx8 ok q0 q1 g1).pos p h0 (by omega)
  simp only
  omega
 have := key _ hb.lo
 have := key _ hb.hi
 omega
theorem Cjs {s : Sm} {p h : Int} (hb : begE s [p] h = 0) : 0 <= p /\ p < s.places /\ 0 <= h /\ h <= 12 /\ susp s ≠ [] := by
 unfold begE at hb
 simp only [List.any_cons, List.any_nil, Bool.or_false, Bool.or_eq_true, decide_eq_true_eq] at hb
 split at hb
 ·cases hb
 ·split at hb
  ·cases hb
  ·split at hb
   ·cases hb
   ·rename_i h1 h2 h3
    refine ⟨by omega, by omega, by omega, by omega, fun e => h3 ?_⟩
    rw [Ayg, e]
    rfl
end Go.Proofs.YtnfnaehonkbknaaGreatDoor
end
section
namespace Go.Proofs.YtnfnaehonkbknaaGreatDoor
open Go Go.X Go.Proofs.Tryz
def Aks := aN @Dw3 (aN @Dwj (aN @Dwc (aN @Ax1 (aN @Avp (aN @Bxh (aN @Dws (aN @Dw6 (aN @Ayv (aN @Dv0 (aN @Dwd (aN @Dvy (aN @Dvz @Ajq))))))))))))
def Bqa := aN @Dwj (aN @Ax1 (aN @Avp (aN @Bw3 (aN (fun H => Bvm (H := H) underlying87 (i := 0) rfl (off := 0) rfl underlying3 rfl) @Bw2))))
def Bqc := aN @Dwc (aN @Dv1 (aN @Dvf (aN @Dvz (aN @Dvy @Bjy))))
def Cqs := @Bjy
theorem Cyb {H : Hp} (a b c : Value) (K : Value -> Hp -> Prop) (E : Value -> Hp -> Prop) : wpS Tryz.prog (Instr.field 87 (.agg #[a, b, c]) 0) H K E = K a H := Bvm underlying87 (i := 0) rfl (off := 0) rfl underlying3 rfl [a, b, c] rfl K E
def Cy8 (s : Sm) (p : Int) : Int := if begE s [p] 0 = 0 then min 12 ((arrL (susp s) p).lo - 1) else 0
theorem sSafe_spec (H : Hp) (s : Sm) (dv hv nv : Value) (hs : SmIn H dv hv nv s) (ok : SmOk s) (p : Int) :
  FnX Tryz.prog (.wg Tryz.prog) 11 #[smV s.places dv hv nv, .int .i64 p] H fun e H' => e = .returned (.tuple #[.int .i64 (Cy8 s p), .int .i64 (begE s [p] 0)]) /\ H.le H' := by
 obtain ⟨da, dc, ha, kc, na, nc, rfl, rfl, rfl, l1, l2, l3⟩ := hs.forms
 have hpp : begE s [p] 0 = 0 -> 0 <= p /\ p < 6 := Bwq ok
 have hqb : begE s [p] 0 = 0 -> 0 <= (arrL (susp s) p).lo /\ (arrL (susp s) p).lo <= 99 := fun e => by
  obtain ⟨g1, g2, _, _, g3⟩ := Cjs e
  have := Dqw ok g1 g2 g3
  omega
 have hr0 : begE s [p] 0 = 0 -> Cy8 s p = min 12 ((arrL (susp s) p).lo - 1) := fun e => if_pos e
 have hr1 : begE s [p] 0 ≠ 0 -> Cy8 s p = 0 := fun e => if_neg e
 have hbeg := fun H dv hv nv (hs : SmIn H dv hv nv s) pv (hp : SlI H pv [p]) => Azf H s dv hv nv hs ok 0 pv [p] hp (by simp)
 generalize begE s [p] 0 = z at *
 generalize Cy8 s p = r at *
 replace hpp : Aqo _ := hpp
 replace hqb : Aqo _ := hqb
 replace hr0 : Aqo _ := hr0
 replace hr1 : Aqo _ := hr1
 replace hbeg : Aqo _ := hbeg
 refine Aql func11 rfl ntmps11 (by simp) ?_
 (refine @unH _ (zA Bqa ?_); (try clear hK K); intro K hK hc)
 (intro sb hsb; generalize hG : Hp.set _ sb _ = H1; have lH1 := Aqc hG hsb; have vsb := Aqb hG; clear hG)
 have hs1 := hs.le lH1
 have h0sb := hsb
 clear hsb
 (refine @unH _ (zU Bqa ?_); (try clear hK K); intro K hK hc)
 (intro pb hpb; generalize hG : Hp.set _ pb _ = H2; have lH2 := Aqc hG hpb; have vpb := Aqb hG; clear hG)
 have hs2 := hs1.le lH2
 have l02 := Hp.le_trans lH1 lH2
 have hp2 : SlI H2 (.slice (some ⟨pb, 0, none⟩) 1 1) [p] := Dzv vpb
 clear hs hs1 vsb hpb lH1 lH2 vpb
 refine ((show ∀ H dv hv nv (hs : SmIn H dv hv nv s) pv (hp : SlI H pv [p]), _ from hbeg) H2 _ _ _ hs2 _ hp2).runs.mono ?_
 clear hbeg
 rintro _ H3 ⟨v, rfl, lH3, hv, _⟩
 have l03 := Hp.le_trans l02 lH3
 clear hs2 hp2 lH3 l02 h0sb
 by_cases hz : z = 0
 ·subst hz
  replace hv := hv (.inl rfl)
  obtain ⟨p0, p1⟩ := hpp rfl
  obtain ⟨b0, b1⟩ := hqb rfl
  replace hr0 : Aqo (r = min 12 ((arrL (susp s) p).lo - 1)) := hr0 rfl
  clear hpp hr1
  (refine @unH _ (zU Bqa ?_); (try clear hK K); intro K hK hc)
  refine (Avo _ H3 v _ hv (Azw ok) (by rw [Ax6]; have := ok.h1; omega) p p0 p1).runs.mono ?_
  rintro _ H4 ⟨rfl, lH4⟩
  have l04 := Hp.le_trans l03 lH4
  clear l03 lH4
  rw [show arrL (Azj (Axd s)) p = arrL (susp s) p from rfl]
  generalize arrL (susp s) p = w at *
  clear hqb hv
  (refine @unH _ (zU (aN Bqa @Cyb) ?_); intro _ _ hc)
  (intro lb hlb; generalize hG : Hp.set _ lb _ = H5; have lH5 := Aqc hG hlb; have vlb := Aqb hG; clear hG)
  refine (Awq _ H5 12 (w.lo - 1) lb _ _ vlb).runs.mono ?_
  rintro _ _ ⟨rfl, hQ⟩
  rw [hQ]; clear hQ
  have l05 := Hp.le_trans l04 lH5
  (refine @unH _ (zU Bqa ?_); (try clear hK K); intro K hK hc)
  (refine @unH _ ?_; refine zB results11 ?_)
  exact ⟨by rw [show r = _ from hr0], l05⟩
 ·replace hr1 : Aqo (r = 0) := hr1 hz
  clear hv hpp hqb hr0
  (refine @unH _ (zU Bqa ?_); (try clear hK K); intro K hK hc)
  (refine @unH _ ?_; refine zB results11 ?_)
  exact ⟨by rw [show r = _ from hr1], l03⟩
def comF (p : Int) (b : Bd) (x : Int × Int × Hint) : Bd := if (gB x.2.2 p).hi < 99 then arrF p b x else b
theorem Bye (main : Md) (H : Hp) (ob pb : Nat) (p : Int) (h0 : 0 <= p) (h1 : p < 6) (ham hour : Int) (x : Hint) (hx : Axi x) (b : Bd) (vo : H ob = some (true, bdO b)) (vp : H pb = some (true, .cells #[.int .i64 p] 3 (0, 0))) (hne : pb ≠ ob) :
  FnX Tryz.prog main 45 #[.int .i64 ham, .int .i64 hour, .agg (Axn x).toArray, .pointer (some ⟨pb, 0, none⟩), .pointer (some ⟨ob, 0, none⟩)] H fun e H' => e = .returned (.tuple #[]) /\ H' ob = some (true, bdO (comF p b (ham, hour, x))) /\ ∀ b x, b ≠ ob -> H b = some x -> H' b = some x := by
 have hl := Axs hx
 have hex := Akl hx
 have hbd := Ayb hx (Cxa hx h0 h1)
 obtain ⟨hb1, hb2, _⟩ := hbd
 unfold comF arrF
 simp only
 generalize gB x p = g at *
 generalize Axn x = HC at *
 by_cases hg : g.hi < 99
 ·rw [if_pos hg]
  refine Aql func45 rfl ntmps45 (by simp) ?_
  (refine @unH _ (zA Bqc ?_); (try clear hK K); intro K hK hc)
  (intro b hb; generalize hG : Hp.set _ b _ = H1; have lH1 := Aqc hG hb; have vb := Aqb hG; clear hG)
  have vo1 := lH1 _ _ vo
  have vp1 := lH1 _ _ vp
  (refine @unH _ (zU Bqc ?_); (try clear hK K); intro K hK hc)
  refine (Ak4 main H1 ob _ g.lo vo1).runs.mono ?_
  rintro _ H2 ⟨rfl, h21, h22⟩
  have nob : b ≠ ob := fun e => by rw [e, vo] at hb; cases hb
  have vp2 := (h22 pb hne).trans vp1
  have vb2 := (h22 b nob).trans vb
  have hf2 : ∀ c z, c ≠ ob -> H c = some z -> H2 c = some z := fun c z hc hz => (h22 c hc).trans (lH1 _ _ hz)
  clear vo1 vp1 vb h22 lH1
  (refine @unH _ (zU Bqc ?_); (try clear hK K); intro K hK hc)
  refine (Ak4 main H2 ob _ g.hi h21).runs.mono ?_
  rintro _ H3 ⟨rfl, h31, h32⟩
  (refine @unH _ (zU Bqc ?_); (try clear hK K); intro K hK hc)
  (refine @unH _ ?_; refine zD results45 ?_)
  exact ⟨rfl, h31, fun c z hc hz => (h32 c hc).trans (hf2 c z hc hz)⟩
 ·rw [if_neg hg]
  refine Aql func45 rfl ntmps45 (by simp) ?_
  (refine @unH _ (zA Bqc ?_); (try clear hK K); intro K hK hc)
  (intro b hb; generalize hG : Hp.set _ b _ = H1; have lH1 := Aqc hG hb; have vb := Aqb hG; clear hG)
  have vo1 := lH1 _ _ vo
  have vp1 := lH1 _ _ vp
  (refine @unH _ (zU Bqc ?_); (try clear hK K); intro K hK hc)
  (refine @unH _ ?_; refine zD results45 ?_)
  exact ⟨rfl, vo1, fun c z hc hz => lH1 _ _ hz⟩
def sinF (b : Bd) (x : Int × Int × Hint) : Bd := Ax0 b x.2.1
theorem Cqa (main : Md) (H : Hp) (ob : Nat) (ham hour : Int) (x : Hint) (hx : Axi x) (b : Bd) (vo : H ob = some (true, bdO b)) :
  FnX Tryz.prog main 61 #[.int .i64 ham, .int .i64 hour, .agg (Axn x).toArray, .pointer (some ⟨ob, 0, none⟩)] H fun e H' => e = .returned (.tuple #[]) /\ H' ob = some (true, bdO (sinF b (ham, hour, x))) /\ ∀ b x, b ≠ ob -> H b = some x -> H' b = some x := by
 have hl := Axs hx
 have hex := Akl hx
 unfold sinF
 simp only
 generalize Axn x = HC at *
 refine Aql func61 rfl ntmps61 (by simp) ?_
 (refine @unH _ (zA @Cqs ?_); (try clear hK K); intro K hK hc)
 (intro b hb; generalize hG : Hp.set _ b _ = H1; have lH1 := Aqc hG hb; have vb := Aqb hG; clear hG)
 have vo1 := lH1 _ _ vo
 (refine @unH _ (zU @Cqs ?_); (try clear hK K); intro K hK hc)
 refine (Ak4 main H1 ob _ hour vo1).runs.mono ?_
 rintro _ H2 ⟨rfl, h21, h22⟩
 (refine @unH _ (zU @Cqs ?_); (try clear hK K); intro K hK hc)
 (refine @unH _ ?_; refine zD results61 ?_)
 exact ⟨rfl, h21, fun c z hc hz => (h22 c hc).trans (lH1 _ _ hz)⟩
theorem Azx {H H' : Hp} {b : Nat} {o : Obj} (l : H.le H') (h : H b = none) : H.le (H'.set b o) := fun x z hz => by
 rw [Aqv (fun e => by rw [e, h] at hz; cases hz)]
 exact l _ _ hz
def comL (L : List (Int × Int × Hint)) (p : Int) : Bd := L.foldl (comF p) bd0
theorem Cka (L : List (Int × Int × Hint)) (p : Int) (x : Int × Int × Hint) : comL (L ++ [x]) p = comF p (comL L p) x := by simp [comL]
def bdE (z : Int) (b : Bd) : Int × Int × Int := if z = 0 then (if b.some then (b.lo, b.hi, 0) else (0, 0, 11)) else (0, 0, z)
def comE (s : Sm) (p : Int) : Int × Int × Int := bdE (begE s [p] 0) (comL (susp s) p)
theorem By1 (H : Hp) (s : Sm) (dv hv nv : Value) (hs : SmIn H dv hv nv s) (ok : SmOk s) (p : Int) :
  FnX Tryz.prog (.wg Tryz.prog) 10 #[smV s.places dv hv nv, .int .i64 p] H fun e H' => e = .returned (.tuple #[.agg #[.int .i64 (comE s p).1, .int .i64 (comE s p).2.1], .int .i64 (comE s p).2.2]) /\ H.le H' := by
 obtain ⟨da, dc, ha, kc, na, nc, rfl, rfl, rfl, l1, l2, l3⟩ := hs.forms
 have hpp : begE s [p] 0 = 0 -> 0 <= p /\ p < 6 := Bwq ok
 have hr : comE s p = bdE (begE s [p] 0) (comL (susp s) p) := rfl
 have hbeg := fun H dv hv nv (hs : SmIn H dv hv nv s) pv (hp : SlI H pv [p]) => Azf H s dv hv nv hs ok 0 pv [p] hp (by simp)
 generalize begE s [p] 0 = z at *
 generalize comE s p = r at *
 replace hpp : Aqo _ := hpp
 replace hr : Aqo _ := hr
 replace hbeg : Aqo _ := hbeg
 refine Aql func10 rfl ntmps10 (by simp) ?_
 (refine @unH _ (zA Aks ?_); (try clear hK K); intro K hK hc)
 (intro sb hsb qb hqb rb hrb; replace hrb : (Hp.set (Hp.set _ sb _) qb _) rb = none := hrb; replace hqb : (Hp.set _ sb _) qb = none := hqb; generalize hG : Hp.set _ sb _ = H1 at hqb hrb ⊢; have lH1 := Aqc hG hsb; have wsb := Aqb hG; clear hG; generalize hG : Hp.set _ qb _ = H2 at hrb ⊢; have lH2 := Aqc hG hqb; have wqb := Aqb hG; have nsbqb := Aqq wsb hqb; replace wsb := lH2 _ _ wsb; clear hG; generalize hG : Hp.set _ rb _ = H3; have lH3 := Aqc hG hrb; have vrb := Aqb hG; have vsb := lH3 _ _ wsb; have vqb := lH3 _ _ wqb; have nsbrb := Aqq wsb hrb; have nqbrb := Aqq wqb hrb; clear hG wsb wqb)
 have l03 := Hp.le_trans lH1 (Hp.le_trans lH2 lH3)
 have hs3 := hs.le l03
 have h0rb := Hp.le_none (Hp.le_trans lH1 lH2) hrb
 clear lH1 lH2 lH3 hsb hqb hrb hs
 (refine @unH _ (zU Aks ?_); (try clear hK K); intro K hK hc)
 (intro pb hpb; generalize hG : Hp.set _ pb _ = H4; have lH4 := Aqc hG hpb; have vpb := Aqb hG; clear hG)
 have hs4 := hs3.le lH4
 have l04 := Hp.le_trans l03 lH4
 have vr4 := lH4 _ _ vrb
 have vq4 := lH4 _ _ vqb
 have hp4 : SlI H4 (.slice (some ⟨pb, 0, none⟩) 1 1) [p] := Dzv vpb
 clear hs3 l03 lH4 vrb vqb vsb vpb hpb
 refine ((show ∀ H dv hv nv (hs : SmIn H dv hv nv s) pv (hp : SlI H pv [p]), _ from hbeg) H4 _ _ _ hs4 _ hp4).runs.mono ?_
 clear hbeg
 rintro _ H5 ⟨v, rfl, lH5, hv, _⟩
 have l05 := Hp.le_trans l04 lH5
 have vr5 := lH5 _ _ vr4
 have vq5 := lH5 _ _ vq4
 clear hs4 hp4 lH5 l04 vr4 vq4
 by_cases hz : z = 0
 ·subst hz
  replace hv := hv (.inl rfl)
  obtain ⟨p0, p1⟩ := hpp rfl
  clear hpp
  (refine @unH _ (zU Aks ?_); (try clear hK K); intro K hK hc)
  intro ob hob
  have nqo := Aqq vq5 hob
  have nro := Aqq vr5 hob
  (refine @unH _ (zU Aks ?_); (try clear hK K); intro K hK hc)
  generalize hG : Hp.set H5 ob _ = H6
  have lH6 := Aqc hG hob
  have vo6 := Aqb hG
  have vq6 := Aqf hG vq5 nqo
  have vr6 := Aqf hG vr5 nro
  have h0ob := Hp.le_none l05 hob
  clear hG vq5 vr5
  have hone := Bxr (.wg Tryz.prog) (A := fun _ _ _ => True) (yf := .func 45) (yi := #[]) (yc := #[.pointer (some ⟨qb, 0, none⟩), .pointer (some ⟨ob, 0, none⟩)]) H5 H6 _ _ hv ob (fun L => bdO (comL L p)) lH6 hob (by rw [vo6]; rfl) (fun L H' ham hour x g1 g2 hxo _ => by
   refine Ajd.fn (fun _ _ => Dxp _) ((Bye _ H' ob qb p p0 p1 ham hour x hxo _ g1 (g2 _ _ nqo vq6) nqo).mono ?_)
   rintro _ H4 ⟨rfl, h3, h4⟩
   exact ⟨rfl, by rw [h3, Cka], h4⟩) (Azw ok) (fun _ _ _ _ _ _ => trivial) (by rw [Ax6]; have := ok.h1; omega)
  refine hone.runs.mono ?_
  clear hone
  rintro _ H7 ⟨rfl, h3, h4⟩
  have l07 : H.le H7 := fun b x hx => h4 b x (fun e => by rw [e, h0ob] at hx; cases hx) (lH6 _ _ (l05 _ _ hx))
  have vr7 := h4 _ _ nro vr6
  replace hr : Aqo (r = bdE 0 (comL (susp s) p)) := hr
  rw [show Azj (Axd s) = susp s from rfl] at h3
  generalize comL (susp s) p = w at *
  clear h4 vr6 vq6 vo6 l05 lH6 hv
  obtain ⟨lo, hi, sm⟩ := w
  cases sm with
  | true =>
   (refine @unH _ (zU Aks ?_); (try clear hK K); intro K hK hc)
   (refine Axt ?_; (try simp only [nq, ↓reduceIte, Nat.reduceEqDiff]); rw [Aq7, results_cell_tmp results10 (by decide) (by decide) (b := rb) (o := 0) rfl underlying34 rfl sizeOf34]; simp -implicitDefEqProofs (disch := first | omega | (simp only [qd] <;> omega)) only [xq, ↓xp, qc, Nat.reduceAdd, List.range, List.range.loop, fine, Nat.reduceEqDiff, ↓reduceIte, yielded, reduceCtorEq, Nat.reduceLT, Nat.reduceMul, Nat.reduceSub, one, Nat.reduceLeDiff, Aqj, Aks, Axj, List.extract_toArray])
   exact ⟨by rw [show r = _ from hr]; rfl, Azx l07 h0rb⟩
  | false =>
   (refine @unH _ (zU Aks ?_); (try clear hK K); intro K hK hc)
   (refine Axt ?_; (try simp only [nq, ↓reduceIte, Nat.reduceEqDiff]); rw [Aq7, results_cell_tmp results10 (by decide) (by decide) (b := rb) (o := 0) rfl underlying34 rfl sizeOf34]; simp -implicitDefEqProofs (disch := first | omega | (simp only [qd] <;> omega)) only [xq, ↓xp, qc, Nat.reduceAdd, List.range, List.range.loop, fine, Nat.reduceEqDiff, ↓reduceIte, yielded, reduceCtorEq, Nat.reduceLT, Nat.reduceMul, Nat.reduceSub, one, Nat.reduceLeDiff, Aqj, Aks, Axj, List.extract_toArray])
   exact ⟨by rw [show r = _ from hr]; rfl, Azx l07 h0rb⟩
 ·clear hv hpp
  (refine @unH _ (zU Aks ?_); (try clear hK K); intro K hK hc)
  (refine Axt ?_; (try simp only [nq, ↓reduceIte, Nat.reduceEqDiff]); rw [Aq7, results_cell_tmp results10 (by decide) (by decide) (b := rb) (o := 0) rfl underlying34 rfl sizeOf34]; simp -implicitDefEqProofs (disch := first | omega | (simp only [qd] <;> omega)) only [xq, ↓xp, qc, Nat.reduceAdd, List.range, List.range.loop, fine, Nat.reduceEqDiff, ↓reduceIte, yielded, reduceCtorEq, Nat.reduceLT, Nat.reduceMul, Nat.reduceSub, one, Nat.reduceLeDiff, Aqj, Aks, Axj, List.extract_toArray])
  exact ⟨by rw [show r = _ from hr, bdE, if_neg hz], Azx l05 h0rb⟩
def Azv := aN @Dw3 (aN @Dwj (aN @Bjx (aN @Bxh (aN @Dws (aN @Dvp (aN @Dv9 (aN @Dyd (aN @Awm (aN @Dw6 (aN @Bw4 (aN (fun H => Cxo (H := H) underlying83 sizeOf127) (aN (fun H => Cxp (H := H) underlying83 sizeOf127) (aN (fun H => Bjh (H := H) underlying83 sizeOf127) (aN (fun H => Bqj (H := H) underlying83 sizeOf127) (aN @Ayv (aN @Dv0 (aN @Dwd (aN @Dvy (aN @Dwc (aN @Dvz @Ajq))))))))))))))))))))
theorem Dkg {p q : Prop} (g : q) (h : Hid q -> p := by
 intro g
 repeat' (first
 | (refine Axv rfl ?_; intro Kz hKz; simp -implicitDefEqProofs (disch := first | omega | (simp only [qd] <;> omega)) only [xq, ↓xp, qc, Nat.reduceAdd, List.range, List.range.loop, fine, Nat.reduceEqDiff, ↓reduceIte, yielded, reduceCtorEq, Nat.reduceLT, Nat.reduceMul, Nat.reduceSub, one, Nat.reduceLeDiff, Aqj, Azv, aq, ↓ap, qe0, qe1, qe2, *, -g, -hKz, Aww underlying83 sizeOf127]; try (refine hKz _ _ ?_; clear hKz Kz))
 | (refine Az0 rfl ?_; intro Kz hKz; simp -implicitDefEqProofs (disch := first | omega | (simp only [qd] <;> omega)) only [xq, ↓xp, qc, Nat.reduceAdd, List.range, List.range.loop, fine, Nat.reduceEqDiff, ↓reduceIte, yielded, reduceCtorEq, Nat.reduceLT, Nat.reduceMul, Nat.reduceSub, one, Nat.reduceLeDiff, Aqj, Azv, aq, ↓ap, qe0, qe1, qe2, *, -g, -hKz, Aww underlying83 sizeOf127]; try (refine hKz _ _ ?_; clear hKz Kz; (try simp only [nq, ↓reduceIte, Nat.reduceEqDiff])))
 | (refine Ajc ?_; (try simp only [nq, ↓reduceIte, Nat.reduceEqDiff]))
 | (refine Azu ?_; (try simp only [nq, ↓reduceIte, Nat.reduceEqDiff]))
 | (refine Ajo ?_; (try simp only [nq, ↓reduceIte, Nat.reduceEqDiff]))
 | (refine Ajp ?_; (try simp only [nq, ↓reduceIte, Nat.reduceEqDiff]))
 | (refine Azz (by simp only [Aq6, Axg, Nat.reduceEqDiff, Nat.reduceLT, ↓reduceIte, *, -g]; rfl) ?_ ?_ <;> (intro hcz; first | (exfalso; simp -implicitDefEqProofs (disch := omega) only [*, -g, bq, reduceCtorEq] at hcz; done) | (simp only [dq, qe3, qe4, qe5, qe6] at hcz) | skip))
 | (refine Az7 ?_)
 | (refine Azt ?_)
 | (refine Axy ?_))
 refine unT ?_; (try (revert hcz; refine unC ?_)); (repeat (revert hcz; refine unD ?_)); first | revert Kz | refine unU ?_
 exact Hid.out g) : Hid p := ⟨h ⟨g⟩⟩
theorem Dkf {p q : Prop} (g : q) (h : Hid q -> p := by
 intro g
 simp -implicitDefEqProofs (disch := first | omega | (simp only [qd] <;> omega)) only [xq, ↓xp, qc, Nat.reduceAdd, List.range, List.range.loop, fine, Nat.reduceEqDiff, ↓reduceIte, yielded, reduceCtorEq, Nat.reduceLT, Nat.reduceMul, Nat.reduceSub, one, Nat.reduceLeDiff, Aqj, Azv, aq, ↓ap, qe0, qe1, qe2, *, -g, -hK, Aww underlying83 sizeOf127]
 exact Hid.out g) : Hid p := ⟨h ⟨g⟩⟩
theorem Aww {P : Program} {H : Hp} {t e : TypeId} (hu : P.underlying t = some (.slice e)) {n : Nat} (hs : ∀ w, (sizeOf e).run P w = .ok n w) (b o len cap : Nat) (k k' k'' : IntKind) (i j m : Int) (h0 : 0 <= i) (h1 : i <= j) (h2 : j <= m) (h3 : m <= cap) (hne : i < m) (K : Value -> Hp -> Prop) (E : Value -> Hp -> Prop) :
  wpS P (Instr.sliceAt t (.slice (some ⟨b, o, none⟩) len cap) (some (.int k i)) (some (.int k' j)) (some (.int k'' m))) H K E = K (.slice (some ⟨b, o + i.toNat * n, none⟩) (j.toNat - i.toNat) (m.toNat - i.toNat)) H := by
 unfold Instr.sliceAt Instr.slice Instr.sliceBounds
 have hm : j <= (m.toNat : Int) := by omega
 have hj : i <= (j.toNat : Int) := by omega
 have hne' : ¬ m.toNat = i.toNat := by omega
 simp [-bind_pure_comp, Aqa, Aqh hu, Aqd, Azy k'' m cap _ (by omega) h3, Azy k' j m.toNat _ (by omega) hm, Azy k i j.toNat _ h0 hj, Aqw hs, Ajx, hne']
def sinL (L : List (Int × Int × Hint)) : Bd := L.foldl sinF bd0
theorem Cvo (L : List (Int × Int × Hint)) (x : Int × Int × Hint) : sinL (L ++ [x]) = sinF (sinL L) x := by simp [sinL]
def sinE (s : Sm) (i : Int) : Int × Int × Int := bdE (if i < 0 ∨ (s.hampers.length : Int) - 1 < i then 3 else 0) (sinL (Ayo (Azk s i.toNat)))
theorem SlT.only {H : Hp} {s : Sm} {a : Option Addr} {n cap : Nat} (h : SlT H (.slice a n cap) (Axd s)) {i : Nat} (hi : i < s.hampers.length) : ∃ b o, a = some ⟨b, o, none⟩ /\ SlT H (.slice (some ⟨b, o + i * 326, none⟩) 1 1) [Azk s i] := by
 have hx : ((Axd s).map Aq4)[i]? = some (Aq4 (Azk s i)) := by
  unfold Axd
  rw [List.getElem?_map, List.getElem?_map, List.getElem?_range hi]
  rfl
 obtain ⟨b, o, p, c, fr, rfl, h2, h3, h4, h5⟩ := SlG.get h hx
 refine ⟨b, o, rfl, some ⟨b, o + i * 326, none⟩, 1, rfl, by simp, fun j r hr => ?_⟩
 rcases j with _ | j
 ·simp only [List.map_cons, List.getElem?_cons_zero, Option.some.injEq] at hr
  subst hr
  exact ⟨b, o + i * 326, p, c, fr, rfl, h2, by omega, h4, by simpa using h5⟩
 ·simp at hr
theorem Czp (main : Md) {A : Int -> Int -> Hint -> Prop} {yf : Fn} {yi yc : Array Value} (H2 : Hp) (v : Value) (l : List Trail) (hv : SlT H2 v l) (ob : Nat) (O : List (Int × Int × Hint) -> Obj) (h0 : ∀ p c fr, H2 ob ≠ some (p, .cells c 127 fr)) (vo : H2 ob = some (true, O []))
  (h : ∀ L H' ham hour x, H' ob = some (true, O L) -> (∀ b z, b ≠ ob -> H2 b = some z -> H' b = some z) -> Axi x -> A ham hour x -> Ajd Tryz.prog main (.func yf yi yc) #[.int .i64 ham, .int .i64 hour, .agg (Axn x).toArray] H' fun e H'' => e = .returned (.tuple #[]) /\ H'' ob = some (true, O (L ++ [(ham, hour, x)])) /\ ∀ b z, b ≠ ob -> H' b = some z -> H'' b = some z)
  (hok : ∀ t ∈ l, Axw t) (hA : ∀ t ∈ l, ∀ (h : Nat) x, t.hs[h]? = some x -> x.some = true -> A t.ham h x) (hl : l.length <= 1000) :
  FnX Tryz.prog main 44 #[v, .func yf yi yc] H2 fun e H' => e = .returned (.tuple #[]) /\ H' ob = some (true, O (Azj l)) /\ ∀ b x, b ≠ ob -> H2 b = some x -> H' b = some x :=
 (Av6 main (Ckx H2 ob O vo h) H2 v l (fun L H' h _ => hv.move fun x p c fr hx => ⟨p, h.2 x _ (fun e => h0 p c fr (by rw [<- e]; exact hx)) hx⟩) hok hA hl [] ⟨vo, fun _ _ _ hx => hx⟩).mono fun e H' ⟨h1, h2, _⟩ => ⟨h1, by simpa using h2.1, h2.2⟩
theorem By7 (H : Hp) (s : Sm) (dv hv nv : Value) (hs : SmIn H dv hv nv s) (ok : SmOk s) (i : Int) :
  FnX Tryz.prog (.wg Tryz.prog) 26 #[smV s.places dv hv nv, .int .i64 i] H fun e H' => e = .returned (.tuple #[.agg #[.int .i64 (sinE s i).1, .int .i64 (sinE s i).2.1], .int .i64 (sinE s i).2.2]) /\ H.le H' := by
 obtain ⟨da, dc, ha, kc, na, nc, rfl, rfl, rfl, l1, l2, l3⟩ := hs.forms
 have hr : sinE s i = bdE (if i < 0 ∨ (s.hampers.length : Int) - 1 < i then 3 else 0) (sinL (Ayo (Azk s i.toNat))) := rfl
 have h3 := ok.h1
 have h1 := ok.h0
 have e := ok.p1
 clear e
 generalize sinE s i = r at *
 by_cases hi : i < 0 ∨ (s.hampers.length : Int) - 1 < i
 ·have hdo : (decide (i < 0) || decide ((s.hampers.length : Int) - 1 < i)) = true := by simpa using hi
  rw [if_pos hi] at hr
  replace hr : Aqo _ := hr
  replace hdo : Aqo _ := hdo
  clear hi
  refine Aql func26 rfl ntmps26 (by simp) ?_
  (refine @unH _ (zA Azv ?_); (try clear hK K); intro K hK hc)
  (intro sb hsb rb hrb; replace hrb : (Hp.set _ sb _) rb = none := hrb; generalize hG : Hp.set _ sb _ = H1 at hrb ⊢; have lH1 := Aqc hG hsb; have wsb := Aqb hG; clear hG; generalize hG : Hp.set _ rb _ = H2; have lH2 := Aqc hG hrb; have vrb := Aqb hG; have vsb := lH2 _ _ wsb; have nsbrb := Aqq wsb hrb; clear hG wsb)
  have l02 := Hp.le_trans lH1 lH2
  have hs2 := hs.le l02
  have h0rb := Hp.le_none lH1 hrb
  clear lH1 lH2 hsb hrb hs
  (refine @unH _ (zU Azv ?_); (try clear hK K); intro K hK hc)
  refine (Ak8 _ H2 s _ _ _ hs2 ok).runs.mono ?_
  rintro _ H3 ⟨rfl, lH3⟩
  have l03 := Hp.le_trans l02 lH3
  have vr3 := lH3 _ _ vrb
  have vs3 := lH3 _ _ vsb
  clear l02 lH3 vrb vsb hs2
  (refine @unH _ (zU Azv ?_); (try clear hK K); intro K hK hc)
  refine (Axc _ H3 i 0 _).runs.mono ?_
  rintro _ _ ⟨rfl, hQ⟩
  rw [hQ, show (decide (i < 0) || decide ((s.hampers.length : Int) - 1 < i)) = true from hdo]; clear hQ
  (refine @unH _ (zU Azv ?_); (try clear hK K); intro K hK hc)
  (refine Axt ?_; (try simp only [nq, ↓reduceIte, Nat.reduceEqDiff]); rw [Aq7, results_cell_tmp results26 (by decide) (by decide) (b := rb) (o := 0) rfl underlying34 rfl sizeOf34]; simp -implicitDefEqProofs (disch := first | omega | (simp only [qd] <;> omega)) only [xq, ↓xp, qc, Nat.reduceAdd, List.range, List.range.loop, fine, Nat.reduceEqDiff, ↓reduceIte, yielded, reduceCtorEq, Nat.reduceLT, Nat.reduceMul, Nat.reduceSub, one, Nat.reduceLeDiff, Aqj, Azv, Axj, List.extract_toArray])
  exact ⟨by rw [show r = _ from hr]; rfl, Azx l03 h0rb⟩
 ·have hdo : (decide (i < 0) || decide ((s.hampers.length : Int) - 1 < i)) = false := by simpa using hi
  rw [if_neg hi] at hr
  replace hdo : Aqo _ := hdo
  obtain ⟨k, rfl⟩ : ∃ k : Nat, i = (k : Int) := ⟨i.toNat, by omega⟩
  have hk : k < s.hampers.length := by omega
  replace hr : Aqo (r = bdE 0 (sinL (Ayo (Azk s k)))) := hr
  clear hi
  refine Aql func26 rfl ntmps26 (by simp) ?_
  (refine @unH _ (zA Azv ?_); (try clear hK K); intro K hK hc)
  (intro sb hsb rb hrb; replace hrb : (Hp.set _ sb _) rb = none := hrb; generalize hG : Hp.set _ sb _ = H1 at hrb ⊢; have lH1 := Aqc hG hsb; have wsb := Aqb hG; clear hG; generalize hG : Hp.set _ rb _ = H2; have lH2 := Aqc hG hrb; have vrb := Aqb hG; have vsb := lH2 _ _ wsb; have nsbrb := Aqq wsb hrb; clear hG wsb)
  have l02 := Hp.le_trans lH1 lH2
  have hs2 := hs.le l02
  have h0rb := Hp.le_none lH1 hrb
  clear lH1 lH2 hsb hrb hs
  (refine @unH _ (zU Azv ?_); (try clear hK K); intro K hK hc)
  refine (Ak8 _ H2 s _ _ _ hs2 ok).runs.mono ?_
  rintro _ H3 ⟨rfl, lH3⟩
  have l03 := Hp.le_trans l02 lH3
  have vr3 := lH3 _ _ vrb
  have vs3 := lH3 _ _ vsb
  have hs3 := hs2.le lH3
  clear l02 lH3 vrb vsb hs2
  (refine @unH _ (zU Azv ?_); (try clear hK K); intro K hK hc)
  refine (Axc _ H3 k 0 _).runs.mono ?_
  rintro _ _ ⟨rfl, hQ⟩
  rw [hQ, show (decide ((k : Int) < 0) || decide ((s.hampers.length : Int) - 1 < k)) = false from hdo]; clear hQ hdo
  (refine @unH _ (zU Azv ?_); (try clear hK K); intro K hK hc)
  intro ob hob
  have nro := Aqq vr3 hob
  have nso := Aqq vs3 hob
  have h0ob := Hp.le_none l03 hob
  generalize hG : Hp.set H3 ob _ = H4
  have lH4 := Aqc hG hob
  have vo4 := Aqb hG
  have hs4 := hs3.le lH4
  have l04 := Hp.le_trans l03 lH4
  have vr4 := lH4 _ _ vr3
  have vs4 := lH4 _ _ vs3
  clear hG l03 vr3 vs3 hs3 lH4
  (refine @unH _ (zU Azv ?_); (try clear hK K); intro K hK hc)
  refine (Awy H4 s _ _ _ hs4 ok).runs.mono ?_
  rintro _ H5 ⟨v, rfl, hv, lH5⟩
  have l05 := Hp.le_trans l04 lH5
  have vr5 := lH5 _ _ vr4
  have vo5 := lH5 _ _ vo4
  obtain ⟨ta, tcap, rfl, htc⟩ := hv.isSlice
  obtain ⟨tb, to, rfl, hone1⟩ := hv.only hk
  clear lH5 vr4 vo4 l04 hs4 vs4 hv
  rw [Ax6] at htc ⊢
  ((try refine @unH _ (Dkf ?_)); (try (refine hK _ _ ?_; clear hK K; try refine @unH _ (zQ ?_))); refine @unH _ (Dkg ?_); intro _ _ hc)
  rw [show ((k : Int) + 1).toNat - k = 1 by omega]
  have hone := Czp (.wg Tryz.prog) (A := fun _ _ _ => True) (yf := .func 61) (yi := #[]) (yc := #[.pointer (some ⟨ob, 0, none⟩)]) H5 _ _ hone1 ob (fun L => bdO (sinL L)) (fun p c fr e => by rw [vo5] at e; simp at e) (by rw [vo5]; rfl) (fun L H' ham hour x g1 g2 hxo _ => by
   refine Ajd.fn (fun _ _ => Dxv _) ((Cqa _ H' ob ham hour x hxo _ g1).mono ?_)
   rintro _ H4 ⟨rfl, h3, h4⟩
   exact ⟨rfl, by rw [h3, Cvo], h4⟩) (fun t ht => by
    simp only [List.mem_cons, List.not_mem_nil, or_false] at ht
    subst ht
    exact Avv ok k) (fun _ _ _ _ _ _ => trivial) (by simp)
  refine hone.runs.mono ?_
  clear hone hone1
  rintro _ H7 ⟨rfl, h3, h4⟩
  have l07 : H.le H7 := fun b x hx => h4 b x (fun e => by rw [e, h0ob] at hx; cases hx) (l05 _ _ hx)
  have vr7 := h4 _ _ nro vr5
  rw [show Azj [Azk s k] = Ayo (Azk s k) from List.append_nil _] at h3
  generalize sinL (Ayo (Azk s k)) = w at *
  clear h4 vr5 vo5 l05
  obtain ⟨lo, hi, sm⟩ := w
  cases sm with
  | true =>
   (refine @unH _ (zU Azv ?_); (try clear hK K); intro K hK hc)
   (refine Axt ?_; (try simp only [nq, ↓reduceIte, Nat.reduceEqDiff]); rw [Aq7, results_cell_tmp results26 (by decide) (by decide) (b := rb) (o := 0) rfl underlying34 rfl sizeOf34]; simp -implicitDefEqProofs (disch := first | omega | (simp only [qd] <;> omega)) only [xq, ↓xp, qc, Nat.reduceAdd, List.range, List.range.loop, fine, Nat.reduceEqDiff, ↓reduceIte, yielded, reduceCtorEq, Nat.reduceLT, Nat.reduceMul, Nat.reduceSub, one, Nat.reduceLeDiff, Aqj, Azv, Axj, List.extract_toArray])
   exact ⟨by rw [show r = _ from hr]; rfl, Azx l07 h0rb⟩
  | false =>
   (refine @unH _ (zU Azv ?_); (try clear hK K); intro K hK hc)
   (refine Axt ?_; (try simp only [nq, ↓reduceIte, Nat.reduceEqDiff]); rw [Aq7, results_cell_tmp results26 (by decide) (by decide) (b := rb) (o := 0) rfl underlying34 rfl sizeOf34]; simp -implicitDefEqProofs (disch := first | omega | (simp only [qd] <;> omega)) only [xq, ↓xp, qc, Nat.reduceAdd, List.range, List.range.loop, fine, Nat.reduceEqDiff, ↓reduceIte, yielded, reduceCtorEq, Nat.reduceLT, Nat.reduceMul, Nat.reduceSub, one, Nat.reduceLeDiff, Aqj, Azv, Axj, List.extract_toArray])
   exact ⟨by rw [show r = _ from hr]; rfl, Azx l07 h0rb⟩
end Go.Proofs.YtnfnaehonkbknaaGreatDoor
end
section
namespace Go.Proofs.YtnfnaehonkbknaaGreatDoor
open Go Go.X
def surM (L : List (Int × Int × Hint)) (h : Int) : Nat -> Nat
 | 0 => 0
 | k + 1 => if Bko (arrL L k) h = 1 then Akq (surM L h k) k else surM L h k
theorem Cqf (L : List (Int × Int × Hint)) (h : Int) : ∀ k, k <= 6 -> surM L h k < 64
 | 0, _ => by show 0 < 64; decide
 | k + 1, hk => by
  have := Cqf L h k (by omega)
  unfold surM
  split
  ·exact Bkc (n := (k : Int)) this (by omega) (by omega)
  ·exact this
end Go.Proofs.YtnfnaehonkbknaaGreatDoor
end
