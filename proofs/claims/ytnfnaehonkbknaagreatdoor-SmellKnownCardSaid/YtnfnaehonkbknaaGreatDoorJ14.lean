/- Texts SmC SmK SmS1 SmS2. -/
import Derived.Test.YtnfnaehonkbknaaGreatDoorJ13
set_option linter.defProp false
set_option linter.unusedSimpArgs false
set_option linter.unusedVariables false
set_option maxRecDepth 100000
set_option maxHeartbeats 2000000
section
namespace Go.Proofs.YtnfnaehonkbknaaGreatDoor
open Go Go.X Go.Proofs.Tryz
def Ajy := aN @Dvn (aN @Dwc (aN @Awm (aN @Dvo (aN @Dwa (aN @Dye (aN @Dw9 (aN @Dwm (aN @Dw5 (aN @Dwu (aN @Dwj (aN @Dxx (aN @Dvp (aN @Dv9 (aN @Dyd (aN @Dw8 (aN @Bw6 (aN @Bw5 (aN @Dvq (aN @Dwb (aN @Dyf (aN @Dya (aN @Dwl (aN @Dw4 (aN @Dwt (aN @Dxr (aN @Cke (aN @Dza (aN (fun H => Bwu (H := H) underlying103) (aN (fun H => Bjs (H := H) underlying103) (aN (fun H => Bwv (H := H) underlying103) (aN (fun H => Bju (H := H) underlying103) @Dxs)))))))))))))))))))))))))))))))
def Cxz := aN @Dvt (aN @Dwc (aN @Dvn (aN @Awm (aN @Bjv (aN @Dyn @Dvu)))))
def Bjn := aN @Dvv (aN @Dwc (aN @Dvn (aN @Awm (aN @Dvw (aN @Dvx (aN @Dvr @Dvs))))))
theorem Bve (main : Md) (H : Hp) (pl : Int) (dv hv nv : Value) (n : Ns) (at_ : Int) (hn : NsOk pl n) (hp : pl <= 6) (h1 : one dv = true) (h2 : one hv = true) (h3 : one nv = true) :
  FnX Tryz.prog main 53 #[smV pl dv hv nv, .agg #[.int .i64 n.pl, .int .i64 n.hr, .bool n.sm], .int .i64 at_] H fun e H' => e = .returned .nilIface /\ H.le H' := by
 obtain ⟨p0, p1, q0, q1⟩ := hn
 refine Aql func53 rfl ntmps53 (by simp) ?_
 (refine @unH _ (zA Cxz ?_); (try clear hK K); intro K hK hc)
 (intro sb hsb nb hnb; replace hnb : (Hp.set _ sb _) nb = none := hnb; generalize hG : Hp.set _ sb _ = H1 at hnb ⊢; have lH1 := Aqc hG hsb; have wsb := Aqb hG; clear hG; generalize hG : Hp.set _ nb _ = H2; have lH2 := Aqc hG hnb; have vnb := Aqb hG; have vsb := lH2 _ _ wsb; have nsbnb := Aqq wsb hnb; clear hG wsb)
 have l2 := Hp.le_trans lH1 lH2
 clear hsb hnb lH1 lH2
 (refine @unH _ (zU Cxz ?_); (try clear hK K); intro K hK hc)
 refine (Axc main H2 n.pl 0 (pl - 1)).runs.mono ?_
 rintro _ _ ⟨rfl, hQ⟩
 rw [hQ, show (decide (n.pl < 0) || decide (pl - 1 < n.pl)) = false by simp; omega]
 clear hQ
 (refine @unH _ (zU Cxz ?_); (try clear hK K); intro K hK hc)
 refine (Axc main H2 n.hr 0 12).runs.mono ?_
 rintro _ _ ⟨rfl, hQ⟩
 rw [hQ, show (decide (n.hr < 0) || decide (12 < n.hr)) = false by simp; omega]
 clear hQ
 (refine @unH _ (zU Cxz ?_); (try clear hK K); intro K hK hc)
 (refine @unH _ ?_; refine z9 results53 ?_)
 exact ⟨trivial, l2⟩
theorem Bvd (main : Md) (H : Hp) (pl : Int) (dv hv nv : Value) (d : Dr) (hn : DrOk pl d) (hp : pl <= 6) (h1 : one dv = true) (h2 : one hv = true) (h3 : one nv = true) :
  FnX Tryz.prog main 65 #[smV pl dv hv nv, .agg #[.int .i64 d.a, .int .i64 d.b, .int .i64 d.mn, .int .i64 d.mx]] H fun e H' => e = .returned (.int .i64 0) /\ H.le H' := by
 obtain ⟨p0, p1, q0, q1, ne, r0, r1, r2⟩ := hn
 refine Aql func65 rfl ntmps65 (by simp) ?_
 (refine @unH _ (zA Bjn ?_); (try clear hK K); intro K hK hc)
 (intro sb hsb nb hnb; replace hnb : (Hp.set _ sb _) nb = none := hnb; generalize hG : Hp.set _ sb _ = H1 at hnb ⊢; have lH1 := Aqc hG hsb; have wsb := Aqb hG; clear hG; generalize hG : Hp.set _ nb _ = H2; have lH2 := Aqc hG hnb; have vnb := Aqb hG; have vsb := lH2 _ _ wsb; have nsbnb := Aqq wsb hnb; clear hG wsb)
 have l2 := Hp.le_trans lH1 lH2
 clear hsb hnb lH1 lH2
 (refine @unH _ (zU Bjn ?_); (try clear hK K); intro K hK hc)
 refine (Axc main H2 d.a 0 (pl - 1)).runs.mono ?_
 rintro _ _ ⟨rfl, hQ⟩
 rw [hQ, show (decide (d.a < 0) || decide (pl - 1 < d.a)) = false by simp; omega]
 clear hQ
 (refine @unH _ (zU Bjn ?_); intro _ _ hc)
 refine (Axc main H2 d.b 0 (pl - 1)).runs.mono ?_
 rintro _ _ ⟨rfl, hQ⟩
 rw [hQ, show (decide (d.b < 0) || decide (pl - 1 < d.b)) = false by simp; omega]
 clear hQ
 (refine @unH _ (zU Bjn ?_); (try clear hK K); intro K hK hc)
 refine (Axc main H2 d.mn 1 4).runs.mono ?_
 rintro _ _ ⟨rfl, hQ⟩
 rw [hQ, show (decide (d.mn < 1) || decide (4 < d.mn)) = false by simp; omega]
 clear hQ
 (refine @unH _ (zU Bjn ?_); intro _ _ hc)
 refine (Axc main H2 d.mx 1 4).runs.mono ?_
 rintro _ _ ⟨rfl, hQ⟩
 rw [hQ, show (decide (d.mx < 1) || decide (4 < d.mx)) = false by simp; omega]
 clear hQ
 (refine @unH _ (zU Bjn ?_); (try clear hK K); intro K hK hc)
 (refine @unH _ ?_; refine z9 results65 ?_)
 exact ⟨trivial, l2⟩
theorem Cyw (xs : List Int) (x : Int) : oOf (xs ++ [x]) = Akq (oOf xs) x.toNat := by simp [oOf]
theorem Ak8 (main : Md) (H : Hp) (s : Sm) (dv hv nv : Value) (hs : SmIn H dv hv nv s) (ok : SmOk s) :
  FnX Tryz.prog main 31 #[smV s.places dv hv nv] H fun e H' => e = .returned (.int .i64 0) /\ H.le H' := by
 obtain ⟨da, dc, ha, kc, na, nc, rfl, rfl, rfl, l1, l2, l3⟩ := hs.forms
 obtain ⟨p0, p1, dl, dk, h0, h1, hk, hd, nl, nk⟩ := ok
 obtain ⟨pl, ds, hp, ns⟩ := s
 simp only at *
 have hsD : SlD H _ ds := hs.dd
 have hsH : SlI H _ hp := hs.hh
 have hsN : SlN H _ ns := hs.nn
 clear hs
 refine Aql func31 rfl ntmps31 (by simp) ?_
 (refine @unH _ (zA Ajy ?_); (try clear hK K); intro K hK hc)
 (intro sb hsb; generalize hG : Hp.set _ sb _ = H1; have lH1 := Aqc hG hsb; have vsb := Aqb hG; clear hG)
 replace hsD := hsD.le lH1
 replace hsH := hsH.le lH1
 replace hsN := hsN.le lH1
 (refine @unH _ (zU Ajy ?_); (try clear hK K); intro K hK hc)
 refine (Axc main H1 pl 1 6).runs.mono ?_
 rintro _ _ ⟨rfl, hQ⟩
 rw [hQ, show (decide (pl < 1) || decide (6 < pl)) = false by simp; omega]
 clear hQ
 (refine @unH _ (zU Ajy ?_); (try clear hK K); intro K hK hc)
 refine Axh (fun w a' H' => ∃ e, ∃ k : Nat, w = ds.length - k /\ k <= ds.length /\ a' = act 83 e [] /\ e 1 = .pointer (some ⟨sb, 0, none⟩) /\ e 21 = .slice da ds.length dc /\ e 22 = .int .i64 ds.length /\ e 23 = .int .i64 (k : Nat) /\ H1.le H') (n := ds.length) ?_ ?_
 ·exact ⟨_, 0, by omega, by omega, rfl, rfl, rfl, rfl, rfl, Hp.le_refl _⟩
 ·rename_i eold
  clear eold
  rintro w a' H2 ⟨e, k, rfl, hk', rfl, e1, e21, e22, e23, l12⟩
  have vs2 := l12 _ _ vsb
  by_cases hlt : k < ds.length
  ·obtain ⟨b, o, p, c, fr, rfl, hb, hcs, hce⟩ := hsD.get (List.getElem?_eq_getElem hlt)
   have hdk := dk _ (List.getElem_mem hlt)
   generalize ds[k] = d at *
   have hb2 := l12 _ _ hb
   clear hb vsb hsD
   (refine @unH _ (zA Ajy ?_); (try clear hK K); intro K hK hc)
   intro ab hab
   have nsb := Aqq vs2 hab
   (refine @unH _ (zU Ajy ?_); (try clear hK K); intro K hK hc)
   generalize hG : Hp.set _ ab _ = H3
   have vs3 := Aqf hG vs2 nsb
   have l13 := Hp.le_trans l12 (Aqc hG hab)
   clear vs2 hb2 hab hG
   refine (Bvd main H3 pl (.slice _ _ _) (.slice _ _ _) (.slice _ _ _) d hdk p1 rfl rfl rfl).runs.mono ?_
   rintro _ H4 ⟨rfl, lH4⟩
   have l14 := Hp.le_trans l13 lH4
   clear lH4 vs3 hce hcs hdk
   (refine @unH _ (zU Ajy ?_); (try clear hK K); intro K hK hc)
   exact ⟨_, by omega, _, k + 1, rfl, by omega, rfl, e1, e21, e22, rfl, l14⟩
  ·obtain rfl : k = ds.length := by omega
   have hn0 : (hp.length : Int) ≠ 0 := by omega
   (refine @unH _ (zA Ajy ?_); (try clear hK K); intro K hK hc)
   clear e21 e22 e23 hsD
   refine Axh (fun w a' H' => ∃ e, ∃ k : Nat, w = hp.length - k /\ k <= hp.length /\ a' = act 83 e [] /\ e 1 = .pointer (some ⟨sb, 0, none⟩) /\ e 7 = .int .u8 (oOf (hp.take k) : Nat) /\ e 44 = .slice ha hp.length kc /\ e 45 = .int .i64 hp.length /\ e 46 = .int .i64 (k : Nat) /\ H1.le H') (n := hp.length) ?_ ?_
   ·exact ⟨_, 0, by omega, by omega, rfl, e1, rfl, rfl, rfl, rfl, l12⟩
   clear vs2 l12 e1 H2
   rename_i eold
   clear eold
   rintro w a' H2 ⟨e, k, rfl, hk', rfl, e1, e7, e44, e45, e46, l12⟩
   have vs2 := l12 _ _ vsb
   by_cases hlt : k < hp.length
   ·obtain ⟨b, o, p, c, fr, rfl, hb, hce⟩ := hsH.get (List.getElem?_eq_getElem hlt)
    have hce' : c[o + (k : Int).toNat * 1]? = some (.int .i64 hp[k]) := by simpa using hce
    have hx := hk _ (List.getElem_mem hlt)
    have hb2 := l12 _ _ hb
    have hnm : (oOf (hp.take k)).testBit (hp[k]).toNat = false := by
     rw [Byu _ (fun x hx => (hk x (List.mem_of_mem_take hx)).1) _ hx.1]
     rw [decide_eq_false_iff_not]
     intro hm
     have := List.nodup_iff_pairwise_ne.1 hd
     obtain ⟨i, hi, he⟩ := List.getElem_of_mem hm
     rw [List.length_take] at hi
     rw [List.getElem_take] at he
     exact (List.pairwise_iff_getElem.1 this i k (by omega) hlt (by omega)) he
    have hlt64 : oOf (hp.take k) < 64 := Cva _ 0 (by decide) (fun x hx => by have := hk x (List.mem_of_mem_take hx); omega)
    have hsn : oOf (hp.take (k + 1)) = Akq (oOf (hp.take k)) (hp[k]).toNat := by rw [List.take_add_one, List.getElem?_eq_getElem hlt]; exact Cyw _ _
    obtain ⟨m1, hm1⟩ : ∃ m1, m1 = oOf (hp.take (k + 1)) := ⟨_, rfl⟩
    rw [<- hm1] at hsn
    replace hm1 : Aqo _ := hm1
    generalize oOf (hp.take k) = m at *
    generalize hp[k] = x at *
    clear hb vsb
    replace hsn : Aqo _ := hsn
    replace hnm : Aqo _ := hnm
    (refine @unH _ (zA Ajy ?_); (try clear hK K); intro K hK hc)
    refine (Axc main H2 x 0 (pl - 1)).runs.mono ?_
    rintro _ _ ⟨rfl, hQ⟩
    rw [hQ, show (decide (x < 0) || decide (pl - 1 < x)) = false by simp; omega]
    clear hQ
    (refine @unH _ (zU Ajy ?_); (try clear hK K); intro K hK hc)
    refine (Bx1 main H2 m x hlt64 hx.1 (by omega)).runs.mono ?_
    rintro _ _ ⟨rfl, hQ⟩
    rw [hQ, show m.testBit x.toNat = false from hnm]
    clear hQ
    (refine @unH _ (zU Ajy ?_); (try clear hK K); intro K hK hc)
    refine (Ay0 main H2 m x hlt64 hx.1 (by omega)).runs.mono ?_
    rintro _ _ ⟨rfl, hQ⟩
    rw [hQ, <- show m1 = Akq m x.toNat from hsn]
    clear hQ
    (refine @unH _ (zU Ajy ?_); (try clear hK K); intro K hK hc)
    exact ⟨_, by omega, _, k + 1, rfl, by omega, rfl, e1, by rw [<- show m1 = _ from hm1]; rfl, e44, e45, rfl, l12⟩
   ·obtain rfl : k = hp.length := by omega
    (refine @unH _ (zA Ajy ?_); (try clear hK K); intro K hK hc)
    clear e7 e44 e45 e46 hsH
    refine Axh (fun w a' H' => ∃ e, ∃ k : Nat, w = ns.length - k /\ k <= ns.length /\ a' = act 83 e [] /\ e 1 = .pointer (some ⟨sb, 0, none⟩) /\ e 67 = .slice na ns.length nc /\ e 68 = .int .i64 ns.length /\ e 69 = .int .i64 (k : Nat) /\ H1.le H') (n := ns.length) ?_ ?_
    ·exact ⟨_, 0, by omega, by omega, rfl, e1, rfl, rfl, rfl, l12⟩
    clear vs2 l12 e1 H2
    rename_i eold
    clear eold
    rintro w a' H2 ⟨e, k, rfl, hk', rfl, e1, e67, e68, e69, l12⟩
    have vs2 := l12 _ _ vsb
    by_cases hlt : k < ns.length
    ·obtain ⟨b, o, p, c, fr, rfl, hb, hcs, hce⟩ := hsN.get (List.getElem?_eq_getElem hlt)
     have hdk := nk _ (List.getElem_mem hlt)
     generalize ns[k] = d at *
     have hb2 := l12 _ _ hb
     clear hb vsb hsN
     (refine @unH _ (zA Ajy ?_); (try clear hK K); intro K hK hc)
     intro ab hab
     have nsb := Aqq vs2 hab
     (refine @unH _ (zU Ajy ?_); (try clear hK K); intro K hK hc)
     generalize hG : Hp.set _ ab _ = H3
     have vs3 := Aqf hG vs2 nsb
     have l13 := Hp.le_trans l12 (Aqc hG hab)
     clear vs2 hb2 hab hG
     refine (Bve main H3 pl (.slice _ _ _) (.slice _ _ _) (.slice _ _ _) d _ hdk p1 rfl rfl rfl).runs.mono ?_
     rintro _ H4 ⟨rfl, lH4⟩
     have l14 := Hp.le_trans l13 lH4
     clear lH4 vs3 hce hcs hdk
     (refine @unH _ (zU Ajy ?_); (try clear hK K); intro K hK hc)
     exact ⟨_, by omega, _, k + 1, rfl, by omega, rfl, e1, e67, e68, rfl, l14⟩
    ·obtain rfl : k = ns.length := by omega
     (refine @unH _ (zA Ajy ?_); (try clear hK K); intro K hK hc)
     (refine @unH _ ?_; refine z9 results31 ?_)
     exact ⟨trivial, Hp.le_trans lH1 l12⟩
end Go.Proofs.YtnfnaehonkbknaaGreatDoor
end
section
namespace Go.X
open Go
section
variable {P : Program} {ks : TypeId}
theorem Bzy {H : Hp} {t et : TypeId} (hu : P.underlying t = some (.array 6 et)) {d : IntKind} (he : P.underlying et = some (.int d)) (hs : ∀ w, (sizeOf et).run P w = .ok 1 w) (n : Nat) (x0 x1 x2 x3 x4 x5 y0 y1 y2 y3 y4 y5 : Int) (K : Bool -> Hp -> Prop) (E : Value -> Hp -> Prop) :
  wpS P (Op.equalIn (n + 1 + 1) t (.agg #[.int .i64 x0, .int .i64 x1, .int .i64 x2, .int .i64 x3, .int .i64 x4, .int .i64 x5]) (.agg #[.int .i64 y0, .int .i64 y1, .int .i64 y2, .int .i64 y3, .int .i64 y4, .int .i64 y5])) H K E = K (x0 == y0 && (x1 == y1 && (x2 == y2 && (x3 == y3 && (x4 == y4 && (x5 == y5)))))) H := by
 conv => lhs; unfold Op.equalIn
 simp only [Aqa, Aqh hu, Aqw hs, Std.Legacy.Range.forIn_eq_forIn_range', Std.Legacy.Range.size]
 simp only [Nat.sub_zero, Nat.add_one_sub_one, Nat.div_one, List.range'_succ, List.range'_zero, List.forIn_cons, List.forIn_nil, Aqa, Aqd]
 simp only [Aqk he rfl (v := .int .i64 x0) #[.int .i64 x0, .int .i64 x1, .int .i64 x2, .int .i64 x3, .int .i64 x4, .int .i64 x5] (0 * 1) rfl, Aqk he rfl (v := .int .i64 x1) #[.int .i64 x0, .int .i64 x1, .int .i64 x2, .int .i64 x3, .int .i64 x4, .int .i64 x5] ((0 + 1) * 1) rfl, Aqk he rfl (v := .int .i64 x2) #[.int .i64 x0, .int .i64 x1, .int .i64 x2, .int .i64 x3, .int .i64 x4, .int .i64 x5] ((0 + 1 + 1) * 1) rfl, Aqk he rfl (v := .int .i64 x3) #[.int .i64 x0, .int .i64 x1, .int .i64 x2, .int .i64 x3, .int .i64 x4, .int .i64 x5] ((0 + 1 + 1 + 1) * 1) rfl, Aqk he rfl (v := .int .i64 x4) #[.int .i64 x0, .int .i64 x1, .int .i64 x2, .int .i64 x3, .int .i64 x4, .int .i64 x5] ((0 + 1 + 1 + 1 + 1) * 1) rfl, Aqk he rfl (v := .int .i64 x5) #[.int .i64 x0, .int .i64 x1, .int .i64 x2, .int .i64 x3, .int .i64 x4, .int .i64 x5] ((0 + 1 + 1 + 1 + 1 + 1) * 1) rfl, Aqk he rfl (v := .int .i64 y0) #[.int .i64 y0, .int .i64 y1, .int .i64 y2, .int .i64 y3, .int .i64 y4, .int .i64 y5] (0 * 1) rfl, Aqk he rfl (v := .int .i64 y1) #[.int .i64 y0, .int .i64 y1, .int .i64 y2, .int .i64 y3, .int .i64 y4, .int .i64 y5] ((0 + 1) * 1) rfl, Aqk he rfl (v := .int .i64 y2) #[.int .i64 y0, .int .i64 y1, .int .i64 y2, .int .i64 y3, .int .i64 y4, .int .i64 y5] ((0 + 1 + 1) * 1) rfl, Aqk he rfl (v := .int .i64 y3) #[.int .i64 y0, .int .i64 y1, .int .i64 y2, .int .i64 y3, .int .i64 y4, .int .i64 y5] ((0 + 1 + 1 + 1) * 1) rfl, Aqk he rfl (v := .int .i64 y4) #[.int .i64 y0, .int .i64 y1, .int .i64 y2, .int .i64 y3, .int .i64 y4, .int .i64 y5] ((0 + 1 + 1 + 1 + 1) * 1) rfl, Aqk he rfl (v := .int .i64 y5) #[.int .i64 y0, .int .i64 y1, .int .i64 y2, .int .i64 y3, .int .i64 y4, .int .i64 y5] ((0 + 1 + 1 + 1 + 1 + 1) * 1) rfl, Az9 he]
 generalize (x0 == y0) = q
 cases q
 ·simp only [Bool.not_false, if_true, Aqd, Bool.false_and]
 simp only [Bool.not_true, Bool.false_eq_true, if_false, Aqd, Aqa, Bool.true_and, Aqk he rfl (v := .int .i64 x0) #[.int .i64 x0, .int .i64 x1, .int .i64 x2, .int .i64 x3, .int .i64 x4, .int .i64 x5] (0 * 1) rfl, Aqk he rfl (v := .int .i64 x1) #[.int .i64 x0, .int .i64 x1, .int .i64 x2, .int .i64 x3, .int .i64 x4, .int .i64 x5] ((0 + 1) * 1) rfl, Aqk he rfl (v := .int .i64 x2) #[.int .i64 x0, .int .i64 x1, .int .i64 x2, .int .i64 x3, .int .i64 x4, .int .i64 x5] ((0 + 1 + 1) * 1) rfl, Aqk he rfl (v := .int .i64 x3) #[.int .i64 x0, .int .i64 x1, .int .i64 x2, .int .i64 x3, .int .i64 x4, .int .i64 x5] ((0 + 1 + 1 + 1) * 1) rfl, Aqk he rfl (v := .int .i64 x4) #[.int .i64 x0, .int .i64 x1, .int .i64 x2, .int .i64 x3, .int .i64 x4, .int .i64 x5] ((0 + 1 + 1 + 1 + 1) * 1) rfl, Aqk he rfl (v := .int .i64 x5) #[.int .i64 x0, .int .i64 x1, .int .i64 x2, .int .i64 x3, .int .i64 x4, .int .i64 x5] ((0 + 1 + 1 + 1 + 1 + 1) * 1) rfl, Aqk he rfl (v := .int .i64 y0) #[.int .i64 y0, .int .i64 y1, .int .i64 y2, .int .i64 y3, .int .i64 y4, .int .i64 y5] (0 * 1) rfl, Aqk he rfl (v := .int .i64 y1) #[.int .i64 y0, .int .i64 y1, .int .i64 y2, .int .i64 y3, .int .i64 y4, .int .i64 y5] ((0 + 1) * 1) rfl, Aqk he rfl (v := .int .i64 y2) #[.int .i64 y0, .int .i64 y1, .int .i64 y2, .int .i64 y3, .int .i64 y4, .int .i64 y5] ((0 + 1 + 1) * 1) rfl, Aqk he rfl (v := .int .i64 y3) #[.int .i64 y0, .int .i64 y1, .int .i64 y2, .int .i64 y3, .int .i64 y4, .int .i64 y5] ((0 + 1 + 1 + 1) * 1) rfl, Aqk he rfl (v := .int .i64 y4) #[.int .i64 y0, .int .i64 y1, .int .i64 y2, .int .i64 y3, .int .i64 y4, .int .i64 y5] ((0 + 1 + 1 + 1 + 1) * 1) rfl, Aqk he rfl (v := .int .i64 y5) #[.int .i64 y0, .int .i64 y1, .int .i64 y2, .int .i64 y3, .int .i64 y4, .int .i64 y5] ((0 + 1 + 1 + 1 + 1 + 1) * 1) rfl, Az9 he]
 generalize (x1 == y1) = q
 cases q
 ·simp only [Bool.not_false, if_true, Aqd, Bool.false_and]
 simp only [Bool.not_true, Bool.false_eq_true, if_false, Aqd, Aqa, Bool.true_and, Aqk he rfl (v := .int .i64 x0) #[.int .i64 x0, .int .i64 x1, .int .i64 x2, .int .i64 x3, .int .i64 x4, .int .i64 x5] (0 * 1) rfl, Aqk he rfl (v := .int .i64 x1) #[.int .i64 x0, .int .i64 x1, .int .i64 x2, .int .i64 x3, .int .i64 x4, .int .i64 x5] ((0 + 1) * 1) rfl, Aqk he rfl (v := .int .i64 x2) #[.int .i64 x0, .int .i64 x1, .int .i64 x2, .int .i64 x3, .int .i64 x4, .int .i64 x5] ((0 + 1 + 1) * 1) rfl, Aqk he rfl (v := .int .i64 x3) #[.int .i64 x0, .int .i64 x1, .int .i64 x2, .int .i64 x3, .int .i64 x4, .int .i64 x5] ((0 + 1 + 1 + 1) * 1) rfl, Aqk he rfl (v := .int .i64 x4) #[.int .i64 x0, .int .i64 x1, .int .i64 x2, .int .i64 x3, .int .i64 x4, .int .i64 x5] ((0 + 1 + 1 + 1 + 1) * 1) rfl, Aqk he rfl (v := .int .i64 x5) #[.int .i64 x0, .int .i64 x1, .int .i64 x2, .int .i64 x3, .int .i64 x4, .int .i64 x5] ((0 + 1 + 1 + 1 + 1 + 1) * 1) rfl, Aqk he rfl (v := .int .i64 y0) #[.int .i64 y0, .int .i64 y1, .int .i64 y2, .int .i64 y3, .int .i64 y4, .int .i64 y5] (0 * 1) rfl, Aqk he rfl (v := .int .i64 y1) #[.int .i64 y0, .int .i64 y1, .int .i64 y2, .int .i64 y3, .int .i64 y4, .int .i64 y5] ((0 + 1) * 1) rfl, Aqk he rfl (v := .int .i64 y2) #[.int .i64 y0, .int .i64 y1, .int .i64 y2, .int .i64 y3, .int .i64 y4, .int .i64 y5] ((0 + 1 + 1) * 1) rfl, Aqk he rfl (v := .int .i64 y3) #[.int .i64 y0, .int .i64 y1, .int .i64 y2, .int .i64 y3, .int .i64 y4, .int .i64 y5] ((0 + 1 + 1 + 1) * 1) rfl, Aqk he rfl (v := .int .i64 y4) #[.int .i64 y0, .int .i64 y1, .int .i64 y2, .int .i64 y3, .int .i64 y4, .int .i64 y5] ((0 + 1 + 1 + 1 + 1) * 1) rfl, Aqk he rfl (v := .int .i64 y5) #[.int .i64 y0, .int .i64 y1, .int .i64 y2, .int .i64 y3, .int .i64 y4, .int .i64 y5] ((0 + 1 + 1 + 1 + 1 + 1) * 1) rfl, Az9 he]
 generalize (x2 == y2) = q
 cases q
 ·simp only [Bool.not_false, if_true, Aqd, Bool.false_and]
 simp only [Bool.not_true, Bool.false_eq_true, if_false, Aqd, Aqa, Bool.true_and, Aqk he rfl (v := .int .i64 x0) #[.int .i64 x0, .int .i64 x1, .int .i64 x2, .int .i64 x3, .int .i64 x4, .int .i64 x5] (0 * 1) rfl, Aqk he rfl (v := .int .i64 x1) #[.int .i64 x0, .int .i64 x1, .int .i64 x2, .int .i64 x3, .int .i64 x4, .int .i64 x5] ((0 + 1) * 1) rfl, Aqk he rfl (v := .int .i64 x2) #[.int .i64 x0, .int .i64 x1, .int .i64 x2, .int .i64 x3, .int .i64 x4, .int .i64 x5] ((0 + 1 + 1) * 1) rfl, Aqk he rfl (v := .int .i64 x3) #[.int .i64 x0, .int .i64 x1, .int .i64 x2, .int .i64 x3, .int .i64 x4, .int .i64 x5] ((0 + 1 + 1 + 1) * 1) rfl, Aqk he rfl (v := .int .i64 x4) #[.int .i64 x0, .int .i64 x1, .int .i64 x2, .int .i64 x3, .int .i64 x4, .int .i64 x5] ((0 + 1 + 1 + 1 + 1) * 1) rfl, Aqk he rfl (v := .int .i64 x5) #[.int .i64 x0, .int .i64 x1, .int .i64 x2, .int .i64 x3, .int .i64 x4, .int .i64 x5] ((0 + 1 + 1 + 1 + 1 + 1) * 1) rfl, Aqk he rfl (v := .int .i64 y0) #[.int .i64 y0, .int .i64 y1, .int .i64 y2, .int .i64 y3, .int .i64 y4, .int .i64 y5] (0 * 1) rfl, Aqk he rfl (v := .int .i64 y1) #[.int .i64 y0, .int .i64 y1, .int .i64 y2, .int .i64 y3, .int .i64 y4, .int .i64 y5] ((0 + 1) * 1) rfl, Aqk he rfl (v := .int .i64 y2) #[.int .i64 y0, .int .i64 y1, .int .i64 y2, .int .i64 y3, .int .i64 y4, .int .i64 y5] ((0 + 1 + 1) * 1) rfl, Aqk he rfl (v := .int .i64 y3) #[.int .i64 y0, .int .i64 y1, .int .i64 y2, .int .i64 y3, .int .i64 y4, .int .i64 y5] ((0 + 1 + 1 + 1) * 1) rfl, Aqk he rfl (v := .int .i64 y4) #[.int .i64 y0, .int .i64 y1, .int .i64 y2, .int .i64 y3, .int .i64 y4, .int .i64 y5] ((0 + 1 + 1 + 1 + 1) * 1) rfl, Aqk he rfl (v := .int .i64 y5) #[.int .i64 y0, .int .i64 y1, .int .i64 y2, .int .i64 y3, .int .i64 y4, .int .i64 y5] ((0 + 1 + 1 + 1 + 1 + 1) * 1) rfl, Az9 he]
 generalize (x3 == y3) = q
 cases q
 ·simp only [Bool.not_false, if_true, Aqd, Bool.false_and]
 simp only [Bool.not_true, Bool.false_eq_true, if_false, Aqd, Aqa, Bool.true_and, Aqk he rfl (v := .int .i64 x0) #[.int .i64 x0, .int .i64 x1, .int .i64 x2, .int .i64 x3, .int .i64 x4, .int .i64 x5] (0 * 1) rfl, Aqk he rfl (v := .int .i64 x1) #[.int .i64 x0, .int .i64 x1, .int .i64 x2, .int .i64 x3, .int .i64 x4, .int .i64 x5] ((0 + 1) * 1) rfl, Aqk he rfl (v := .int .i64 x2) #[.int .i64 x0, .int .i64 x1, .int .i64 x2, .int .i64 x3, .int .i64 x4, .int .i64 x5] ((0 + 1 + 1) * 1) rfl, Aqk he rfl (v := .int .i64 x3) #[.int .i64 x0, .int .i64 x1, .int .i64 x2, .int .i64 x3, .int .i64 x4, .int .i64 x5] ((0 + 1 + 1 + 1) * 1) rfl, Aqk he rfl (v := .int .i64 x4) #[.int .i64 x0, .int .i64 x1, .int .i64 x2, .int .i64 x3, .int .i64 x4, .int .i64 x5] ((0 + 1 + 1 + 1 + 1) * 1) rfl, Aqk he rfl (v := .int .i64 x5) #[.int .i64 x0, .int .i64 x1, .int .i64 x2, .int .i64 x3, .int .i64 x4, .int .i64 x5] ((0 + 1 + 1 + 1 + 1 + 1) * 1) rfl, Aqk he rfl (v := .int .i64 y0) #[.int .i64 y0, .int .i64 y1, .int .i64 y2, .int .i64 y3, .int .i64 y4, .int .i64 y5] (0 * 1) rfl, Aqk he rfl (v := .int .i64 y1) #[.int .i64 y0, .int .i64 y1, .int .i64 y2, .int .i64 y3, .int .i64 y4, .int .i64 y5] ((0 + 1) * 1) rfl, Aqk he rfl (v := .int .i64 y2) #[.int .i64 y0, .int .i64 y1, .int .i64 y2, .int .i64 y3, .int .i64 y4, .int .i64 y5] ((0 + 1 + 1) * 1) rfl, Aqk he rfl (v := .int .i64 y3) #[.int .i64 y0, .int .i64 y1, .int .i64 y2, .int .i64 y3, .int .i64 y4, .int .i64 y5] ((0 + 1 + 1 + 1) * 1) rfl, Aqk he rfl (v := .int .i64 y4) #[.int .i64 y0, .int .i64 y1, .int .i64 y2, .int .i64 y3, .int .i64 y4, .int .i64 y5] ((0 + 1 + 1 + 1 + 1) * 1) rfl, Aqk he rfl (v := .int .i64 y5) #[.int .i64 y0, .int .i64 y1, .int .i64 y2, .int .i64 y3, .int .i64 y4, .int .i64 y5] ((0 + 1 + 1 + 1 + 1 + 1) * 1) rfl, Az9 he]
 generalize (x4 == y4) = q
 cases q
 ·simp only [Bool.not_false, if_true, Aqd, Bool.false_and]
 simp only [Bool.not_true, Bool.false_eq_true, if_false, Aqd, Aqa, Bool.true_and, Aqk he rfl (v := .int .i64 x0) #[.int .i64 x0, .int .i64 x1, .int .i64 x2, .int .i64 x3, .int .i64 x4, .int .i64 x5] (0 * 1) rfl, Aqk he rfl (v := .int .i64 x1) #[.int .i64 x0, .int .i64 x1, .int .i64 x2, .int .i64 x3, .int .i64 x4, .int .i64 x5] ((0 + 1) * 1) rfl, Aqk he rfl (v := .int .i64 x2) #[.int .i64 x0, .int .i64 x1, .int .i64 x2, .int .i64 x3, .int .i64 x4, .int .i64 x5] ((0 + 1 + 1) * 1) rfl, Aqk he rfl (v := .int .i64 x3) #[.int .i64 x0, .int .i64 x1, .int .i64 x2, .int .i64 x3, .int .i64 x4, .int .i64 x5] ((0 + 1 + 1 + 1) * 1) rfl, Aqk he rfl (v := .int .i64 x4) #[.int .i64 x0, .int .i64 x1, .int .i64 x2, .int .i64 x3, .int .i64 x4, .int .i64 x5] ((0 + 1 + 1 + 1 + 1) * 1) rfl, Aqk he rfl (v := .int .i64 x5) #[.int .i64 x0, .int .i64 x1, .int .i64 x2, .int .i64 x3, .int .i64 x4, .int .i64 x5] ((0 + 1 + 1 + 1 + 1 + 1) * 1) rfl, Aqk he rfl (v := .int .i64 y0) #[.int .i64 y0, .int .i64 y1, .int .i64 y2, .int .i64 y3, .int .i64 y4, .int .i64 y5] (0 * 1) rfl, Aqk he rfl (v := .int .i64 y1) #[.int .i64 y0, .int .i64 y1, .int .i64 y2, .int .i64 y3, .int .i64 y4, .int .i64 y5] ((0 + 1) * 1) rfl, Aqk he rfl (v := .int .i64 y2) #[.int .i64 y0, .int .i64 y1, .int .i64 y2, .int .i64 y3, .int .i64 y4, .int .i64 y5] ((0 + 1 + 1) * 1) rfl, Aqk he rfl (v := .int .i64 y3) #[.int .i64 y0, .int .i64 y1, .int .i64 y2, .int .i64 y3, .int .i64 y4, .int .i64 y5] ((0 + 1 + 1 + 1) * 1) rfl, Aqk he rfl (v := .int .i64 y4) #[.int .i64 y0, .int .i64 y1, .int .i64 y2, .int .i64 y3, .int .i64 y4, .int .i64 y5] ((0 + 1 + 1 + 1 + 1) * 1) rfl, Aqk he rfl (v := .int .i64 y5) #[.int .i64 y0, .int .i64 y1, .int .i64 y2, .int .i64 y3, .int .i64 y4, .int .i64 y5] ((0 + 1 + 1 + 1 + 1 + 1) * 1) rfl, Az9 he]
 generalize (x5 == y5) = q
 cases q
 ·simp only [Bool.not_false, if_true, Aqd, Bool.false_and]
 ·simp only [Bool.not_true, Bool.false_eq_true, if_false, Aqd, Aqa, Bool.true_and]
theorem Cza {H : Hp} {t et : TypeId} (hu : P.underlying t = some (.array 6 et)) {d : IntKind} (he : P.underlying et = some (.int d)) (hs : ∀ w, (sizeOf et).run P w = .ok 1 w) (em : Bool) (n : Nat) (x0 x1 x2 x3 x4 x5 : Int) (K : Unit -> Hp -> Prop) (E : Value -> Hp -> Prop) :
  wpS P (Instr.checkKey em (n + 1 + 1) t (.agg #[.int .i64 x0, .int .i64 x1, .int .i64 x2, .int .i64 x3, .int .i64 x4, .int .i64 x5])) H K E = K () H := by
 conv => lhs; unfold Instr.checkKey
 simp only [Aqa, Aqh hu, Aqw hs, Std.Legacy.Range.forIn_eq_forIn_range', Std.Legacy.Range.size]
 simp only [Nat.sub_zero, Nat.add_one_sub_one, Nat.div_one, List.range'_succ, List.range'_zero, List.forIn_cons, List.forIn_nil, Aqa, Aqd, Aqw hs, Aqk he rfl (v := .int .i64 x0) #[.int .i64 x0, .int .i64 x1, .int .i64 x2, .int .i64 x3, .int .i64 x4, .int .i64 x5] (0 * 1) rfl, Aqk he rfl (v := .int .i64 x1) #[.int .i64 x0, .int .i64 x1, .int .i64 x2, .int .i64 x3, .int .i64 x4, .int .i64 x5] ((0 + 1) * 1) rfl, Aqk he rfl (v := .int .i64 x2) #[.int .i64 x0, .int .i64 x1, .int .i64 x2, .int .i64 x3, .int .i64 x4, .int .i64 x5] ((0 + 1 + 1) * 1) rfl, Aqk he rfl (v := .int .i64 x3) #[.int .i64 x0, .int .i64 x1, .int .i64 x2, .int .i64 x3, .int .i64 x4, .int .i64 x5] ((0 + 1 + 1 + 1) * 1) rfl, Aqk he rfl (v := .int .i64 x4) #[.int .i64 x0, .int .i64 x1, .int .i64 x2, .int .i64 x3, .int .i64 x4, .int .i64 x5] ((0 + 1 + 1 + 1 + 1) * 1) rfl, Aqk he rfl (v := .int .i64 x5) #[.int .i64 x0, .int .i64 x1, .int .i64 x2, .int .i64 x3, .int .i64 x4, .int .i64 x5] ((0 + 1 + 1 + 1 + 1 + 1) * 1) rfl, Bqh he]
theorem Bx2 (l : List Int) (h : l.length = 6) : ∃ x0 x1 x2 x3 x4 x5, l = [x0, x1, x2, x3, x4, x5] := by
 match l, h with
 | [x0, x1, x2, x3, x4, x5], _ => exact ⟨x0, x1, x2, x3, x4, x5, rfl⟩
def arrV (l : List Int) : Value := .agg (l.map fun x => Value.int .i64 x).toArray
theorem Bk9 {H : Hp} {t et : TypeId} (hu : P.underlying t = some (.array 6 et)) {d : IntKind} (he : P.underlying et = some (.int d)) (hs : ∀ w, (sizeOf et).run P w = .ok 1 w) (l l' : List Int) (hl : l.length = 6) (hl' : l'.length = 6) (K : Value -> Hp -> Prop) (E : Value -> Hp -> Prop) :
  wpS P (binOp .neq t (arrV l) (arrV l')) H K E = K (.bool (decide (l ≠ l'))) H := by
 obtain ⟨x0, x1, x2, x3, x4, x5, rfl⟩ := Bx2 l hl
 obtain ⟨y0, y1, y2, y3, y4, y5, rfl⟩ := Bx2 l' hl'
 have hd : decide ([x0, x1, x2, x3, x4, x5] ≠ [y0, y1, y2, y3, y4, y5]) = !(x0 == y0 && (x1 == y1 && (x2 == y2 && (x3 == y3 && (x4 == y4 && (x5 == y5)))))) := by
  rw [Bool.eq_iff_iff]
  simp
 rw [hd]
 unfold arrV
 simp only [List.map_cons, List.map_nil, binOp]
 rw [Aqa]
 unfold Op.equal Op.maxDepth
 rw [show (10000 : Nat) = 9998 + 1 + 1 from rfl, Bzy hu he hs]
 rfl
structure Dki (P : Program) (ks : TypeId) : Prop where
 ex : ∃ (f1 f2 : Field) (et : TypeId), P.underlying ks = some (.struct #[f1, f2]) /\ f1.name ≠ "_" /\ f2.name ≠ "_" /\ f1.offset = 0 /\ f2.offset = 1 /\ P.underlying f2.type = some (.array 6 et) /\ (∀ w, (sizeOf f2.type).run P w = .ok 6 w) /\
  (∃ d, P.underlying et = some (.int d)) /\ (∀ w, (sizeOf et).run P w = .ok 1 w) /\ (∃ d, P.underlying f1.type = some (.int d))
 held : P.stoodInHeld ks = false
def K7 : Type := { l : List Int // l.length = 7 }
instance : DecidableEq K7 := fun a b => decidable_of_iff (a.1 = b.1) ⟨Subtype.ext, fun h => congrArg _ h⟩
def K7.enc (k : K7) : Value := .agg (k.1.map fun x => Value.int .i64 x).toArray
theorem K7.cells (k : K7) : ∃ a x0 x1 x2 x3 x4 x5, k.1 = [a, x0, x1, x2, x3, x4, x5] := by
 obtain ⟨l, hl⟩ := k
 match l, hl with
 | [a, x0, x1, x2, x3, x4, x5], _ => exact ⟨a, x0, x1, x2, x3, x4, x5, rfl⟩
theorem Dkq (h : Dki P ks) : KeyT P ks K7.enc where
 eq := fun x y H K E => by
  obtain ⟨f1, f2, et, hu, hn1, hn2, ho1, ho2, h1, hs1, ⟨de, he⟩, hse, ⟨d2, h2⟩⟩ := h.ex
  have hh := h.held
  obtain ⟨a, x0, x1, x2, x3, x4, x5, hx⟩ := x.cells
  obtain ⟨b, y0, y1, y2, y3, y4, y5, hy⟩ := y.cells
  have hdec : decide (x = y) = (a == b && (x0 == y0 && (x1 == y1 && (x2 == y2 && (x3 == y3 && (x4 == y4 && (x5 == y5))))))) := by
   rw [Bool.eq_iff_iff]
   simp only [decide_eq_true_eq, Bool.and_eq_true, beq_iff_eq]
   constructor
   ·rintro rfl
    rw [hx] at hy
    simp at hy
    obtain ⟨rfl, rfl, rfl, rfl, rfl, rfl, rfl⟩ := hy
    simp
   ·rintro ⟨rfl, rfl, rfl, rfl, rfl, rfl, rfl⟩
    exact Subtype.ext (hx.trans hy.symm)
  rw [hdec]
  unfold K7.enc
  rw [hx, hy]
  simp only [List.map_cons, List.map_nil]
  unfold Op.equal Op.maxDepth
  rw [show (10000 : Nat) = 9997 + 1 + 1 + 1 from rfl]
  conv => lhs; unfold Op.equalIn
  simp only [Aqa, Aqh hu, Ajl, hh, Bool.false_eq_true, if_false, Aqd, List.forIn_toArray, List.forIn_cons, List.forIn_nil, hn1, hn2, ne_eq, not_false_eq_true, if_true]
  rw [Aqk h2 rfl (v := .int .i64 a) _ _ (by simp [ho1]), Aqk h2 rfl (v := .int .i64 b) _ _ (by simp [ho1]), show (9999 : Nat) = 9998 + 1 from rfl, Az9 h2]
  cases a == b
  ·simp only [Bool.not_false, if_true, Aqd, Bool.false_and]
  ·simp only [Bool.not_true, Bool.false_eq_true, if_false, Aqd, Bool.true_and, Aqa]
   rw [Bq7 h1 rfl hs1, Bq7 h1 rfl hs1, ho2]
   simp only [List.extract_toArray, List.extract_eq_take_drop, List.drop_zero, List.drop_succ_cons, List.take_succ_cons, List.take_zero, Nat.reduceAdd, Nat.reduceSub, Nat.sub_zero]
   rw [show (9999 : Nat) = 9997 + 1 + 1 from rfl, Bzy h1 he hse]
   generalize (x0 == y0 && (x1 == y1 && (x2 == y2 && (x3 == y3 && (x4 == y4 && (x5 == y5)))))) = q
   cases q
   ·simp only [Bool.not_false, if_true, Aqd]
   ·simp only [Bool.not_true, Bool.false_eq_true, if_false, Aqd]
 ck := fun em x H K E => by
  obtain ⟨f1, f2, et, hu, hn1, hn2, ho1, ho2, h1, hs1, ⟨de, he⟩, hse, ⟨d2, h2⟩⟩ := h.ex
  obtain ⟨a, x0, x1, x2, x3, x4, x5, hx⟩ := x.cells
  unfold K7.enc
  rw [hx]
  simp only [List.map_cons, List.map_nil]
  rw [show (10000 : Nat) = 9997 + 1 + 1 + 1 from rfl]
  conv => lhs; unfold Instr.checkKey
  rw [Aqa, Aqh hu]
  simp only [Aqa, Aqd, List.forIn_toArray, List.forIn_cons, List.forIn_nil, hn1, hn2, ne_eq, not_false_eq_true, if_true]
  rw [Aqk h2 rfl (v := .int .i64 a) _ _ (by simp [ho1]), show (9999 : Nat) = 9998 + 1 from rfl, Bqh h2, Bq7 h1 rfl hs1, ho2]
  simp only [List.extract_toArray, List.extract_eq_take_drop, List.drop_zero, List.drop_succ_cons, List.take_succ_cons, List.take_zero, Nat.reduceAdd, Nat.reduceSub, Nat.sub_zero]
  rw [show (9999 : Nat) = 9997 + 1 + 1 from rfl, Cza h1 he hse]
 un := by
  obtain ⟨f1, f2, et, hu, _⟩ := h.ex
  exact ⟨_, hu, fun a b => rfl⟩
 bits := fun x => by
  obtain ⟨a, x0, x1, x2, x3, x4, x5, hx⟩ := x.cells
  unfold K7.enc
  rw [hx, show (10000 : Nat) = 9998 + 1 + 1 from rfl]
  simp [Instr.sameBits]
end
end Go.X
end
section
namespace Go.X
open Go
section
variable {P : Program} {κ : Type} [DecidableEq κ] {enc : κ -> Value} {ks : TypeId}
theorem Bxk (h : KeyT P ks enc) {ok : κ -> Prop} {F : κ -> Value} {clock : Nat} (a : κ) :
  ∀ (es : List MapEntry) (i : Nat), MapG enc ok F clock es -> ∃ r : Option (Nat × Value), (∀ j v, r = some (j, v) -> i <= j /\ v = F a /\ ∃ e, es[j - i]? = some e /\ e.key = enc a) /\
   ∀ (H : Hp) (K : Option (Nat × Value) -> Hp -> Prop) (E : Value -> Hp -> Prop), K r H -> wpS P (Instr.findAsking ks (enc a) es i) H K E
 | [], i, _ => ⟨none, fun j v h => (by cases h), fun H K E hk => hk⟩
 | e :: es, i, hm => by
  obtain ⟨c, _, hke, hve, _⟩ := hm e List.mem_cons_self
  unfold Instr.findAsking
  by_cases hq : a = c
  ·subst hq
   refine ⟨some (i, e.val), fun j v hj => ?_, fun H K E hK => ?_⟩
   ·cases hj
    exact ⟨Nat.le_refl _, hve, e, by simp, hke⟩
   ·rw [Aqa, hke, h.eq]
    simp only [decide_true, if_true, Aqd]
    exact hK
  ·obtain ⟨r, hr, hk⟩ := Bxk h a es (i + 1) (fun e he => hm e (List.mem_cons_of_mem _ he))
   refine ⟨r, fun j v hj => ?_, fun H K E hK => ?_⟩
   ·obtain ⟨h1, h2, e', h3, h4⟩ := hr j v hj
    refine ⟨by omega, h2, e', ?_, h4⟩
    rw [show j - i = (j - (i + 1)) + 1 by omega, List.getElem?_cons_succ]
    exact h3
   ·rw [Aqa, hke, h.eq]
    simp only [hq, decide_false, Bool.false_eq_true, if_false]
    exact hk H K E hK
theorem Dzm {mt vt : TypeId} {z : Value} (hu : P.underlying mt = some (.map ks vt)) (h : KeyT P ks enc) (hz : ∀ w, (zeroValue vt).run P w = .ok z w) {ok : κ -> Prop} {F : κ -> Value} (a : κ)
  {es : Array MapEntry} {clock : Nat} (hm : MapG enc ok F clock es.toList) : ∃ v met, (met = true -> v = F a) /\ (met = false -> v = z) /\ ∀ (mb : Nat) (p : Bool) (H : Hp), H mb = some (p, .map es clock) -> ∀ (K : Value -> Hp -> Prop) (E : Value -> Hp -> Prop),
   K (.tuple #[v, .bool met]) H -> wpS P (Instr.lookup mt (.map (some mb)) (enc a) true) H K E := by
 obtain ⟨d, hud, hd⟩ := h.un
 obtain ⟨r, hr, hk'⟩ := Bxk h a es.toList 0 hm
 have hk2 : ∀ (H : Hp) (K : Option (Nat × Value) -> Hp -> Prop) (E : Value -> Hp -> Prop), K r H -> wpS P (Instr.findKey ks (enc a) es.toList) H K E := fun H K E hK => by
  cases hes : es.toList with
  | nil =>
   rw [hes] at hr hk'
   have hr0 : r = none := by
    cases r with
    | none => rfl
    | some q =>
     obtain ⟨j, v⟩ := q
     obtain ⟨_, _, e, he, _⟩ := hr j v rfl
     simp at he
   subst hr0
   unfold Instr.findKey
   rw [Aqa, Aqh hud]
   exact hK
  | cons e es' =>
   have hmem : e ∈ es.toList := by rw [hes]; exact List.mem_cons_self
   obtain ⟨c, _, hke, hve, _⟩ := hm e hmem
   unfold Instr.findKey
   rw [Aqa, Aqh hud]
   simp only [Instr.findNow, hke, hd]
   rw [<- hes]
   exact hk' H K E hK
 have step : ∀ (mb : Nat) (p : Bool) (H : Hp), H mb = some (p, .map es clock) -> ∀ (K : Value -> Hp -> Prop) (E : Value -> Hp -> Prop), (match r with | some (_, v) => K (.tuple #[v, .bool true]) H | none => K (.tuple #[z, .bool false]) H) -> wpS P (Instr.lookup mt (.map (some mb)) (enc a) true) H K E := fun mb p H hb K E hK => by
  unfold Instr.lookup
  simp only [Aqa, Aqh hu]
  refine ⟨p, _, hb, rfl, rfl, ?_⟩
  simp only [Akg, Aqd, Aqa, h.ck]
  refine hk2 H _ _ ?_
  cases r with
  | none =>
   simp only [Aqa, Aq8 hz, Aqd, if_true]
   exact hK
  | some q =>
   obtain ⟨j, v⟩ := q
   simp only [Aqd, if_true]
   exact hK
 cases r with
 | none => exact ⟨z, false, by simp, fun _ => rfl, fun mb p H hb K E hK => step mb p H hb K E hK⟩
 | some q =>
  obtain ⟨j, v⟩ := q
  exact ⟨v, true, fun _ => (hr j v rfl).2.1, by simp, fun mb p H hb K E hK => step mb p H hb K E hK⟩
end
theorem Aza {H : Hp} {b b' : Nat} {p p' : Bool} {c c' : Array Value} {t t' : TypeId} {f f' : Nat × Nat} (h : H b = some (p, .cells c t f)) (h' : H b' = some (p', .cells c' t' f')) (hn : t ≠ t') : b ≠ b' := fun e => by
 rw [e, h'] at h
 simp only [Option.some.injEq, Prod.mk.injEq, Obj.cells.injEq] at h
 exact hn h.2.2.1.symm
theorem Cq5 {P : Program} {H : Hp} {t : TypeId} (h : P.eqGuardType P.depth t = false) (op : BinOp) (x y : Operand) (p q : Array Value) (K : Unit -> Hp -> Prop) (E : Value -> Hp -> Prop) : wpS P (eqGuard op t x y (.agg p) (.agg q)) H K E = K () H := by
 unfold eqGuard
 cases op <;> first | rfl | (simp only [Aqa, Ajl, h, Bool.not_false, if_true]; first | rfl | (simp [Aqa, Ajl, h, Aqd]; done))
end Go.X
namespace Go.Proofs.YtnfnaehonkbknaaGreatDoor
open Go Go.X Go.Proofs.Tryz
def Bqk (q : Option (Bool × Obj)) (H : Hp) (b : Nat) (c : List Int) (K : Hp -> Prop) : Prop := match q with
 | some (true, .cells d e f) => if f = (0, 0) /\ d.size = c.length /\ c.length ≠ 0 then K (H.set b (.cells (ints c).toArray e (0, 0))) else Akd H b 0 (ints c) K
 | _ => Akd H b 0 (ints c) K
theorem Avf {H : Hp} {b : Nat} {c : List Int} {K : Hp -> Prop} : Akd H b 0 (ints c) K = Bqk (H b) H b c K := by
 rcases hb : H b with _ | ⟨p, ob⟩
 ·rfl
 ·cases p
  ·rfl
  ·cases ob <;> try rfl
   rename_i d e f
   simp only [Bqk]
   split
   ·rename_i hf
    obtain ⟨rfl, h1, h2⟩ := hf
    rw [Aj5 (c := d) (e := e) (by intro h; rw [<- Aq1 c, h] at h2; exact h2 rfl) hb]
    have ho : over d 0 (ints c) = (ints c).toArray := by
     obtain ⟨l⟩ := d
     exact Ayj (by simp at h1; rw [Aq1]; omega)
    rw [ho]
    have h3 : (ints c).all one = true := by rw [List.all_eq_true]; exact Bq5 c
    rw [h3, Aq1, <- h1]
    simp
   ·rfl
theorem Bx7 {H : Hp} {d : Array Value} {e : TypeId} {b : Nat} {c : List Int} {K : Hp -> Prop} : Bqk (some (true, .cells d e (0, 0))) H b c K = if d.size = c.length /\ c.length ≠ 0 then K (H.set b (.cells (ints c).toArray e (0, 0))) else Akd H b 0 (ints c) K := by
 simp [Bqk]
theorem Aj3 {H : Hp} {v0 v1 v2 v3 v4 v5 : Value} {e : TypeId} {b : Nat} {c : List Int} {K : Hp -> Prop} (h : c.length = 6) : Bqk (some (true, .cells #[v0, v1, v2, v3, v4, v5] e (0, 0))) H b c K = K (H.set b (.cells (ints c).toArray e (0, 0))) := by
 rw [Bx7, if_pos (by rw [h]; exact ⟨rfl, by decide⟩)]
theorem Aj4 {H : Hp} {c' : List Int} {e : TypeId} {b : Nat} {c : List Int} {K : Hp -> Prop} (h : c.length = 6) (h' : c'.length = 6) : Bqk (some (true, .cells (ints c').toArray e (0, 0))) H b c K = K (H.set b (.cells (ints c).toArray e (0, 0))) := by
 rw [Bx7, if_pos (by rw [List.size_toArray, Aq1, h, h']; exact ⟨rfl, by decide⟩)]
@[congr] theorem storIK_congr {q q' : Option (Bool × Obj)} {H H' : Hp} {b b' : Nat} {c c' : List Int} {K : Hp -> Prop} (hq : q = q') (hH : H = H') (hb : b = b') (hc : c = c') : Bqk q H b c K = Bqk q' H' b' c' K := by subst hq hH hb hc; rfl
theorem Aja {c : List Int} (h : c.length = 6) : (ints c).toArray.extract 0 6 = (ints c).toArray := by
 rw [List.extract_toArray, List.extract_eq_take_drop, List.drop_zero, List.take_of_length_le (by rw [Aq1]; omega)]
theorem Avq {c : List Int} (h : c.length = 6) {p : Int} (h0 : 0 <= p) (h1 : p < 6) : (ints c)[p.toNat]? = some (.int .i64 (gI c p)) := Bq4 (Ckq h0 (by omega))
theorem K7.key : KeyT Tryz.prog 120 K7.enc := Dkq ⟨⟨_, _, _, underlying120, by decide, by decide, rfl, rfl, underlying91, sizeOf91, ⟨_, underlying3⟩, sizeOf3, ⟨_, underlying3⟩⟩, by kernel_rfl⟩
def wayK (p : Int) (ts : List Int) (h : ts.length = 6) : K7 := ⟨p :: ts, by simp [h]⟩
def Cvs (ds : List Dr) (k : K7) : Value := .agg (ints (Axf ds (k.1.headD 0) (k.1.drop 1))).toArray
def Az5 (ds : List Dr) (mb : Nat) (H : Hp) : Prop := ∃ es clock, H mb = some (true, .map es clock) /\ MapG K7.enc (fun _ => True) (Cvs ds) clock es.toList
theorem Az5.le {ds : List Dr} {mb : Nat} {H H' : Hp} (h : Az5 ds mb H) (hl : H.le H') : Az5 ds mb H' := by
 obtain ⟨es, clock, h1, h2⟩ := h
 exact ⟨es, clock, hl _ _ h1, h2⟩
abbrev hsO (pl : Int) (dv hv nv : Value) (mb : Nat) : Obj := .cells #[.int .i64 pl, dv, hv, nv, .map (some mb)] 147 (0, 0)
theorem Bxy : ∀ (ds : List Dr) (ts c : List Int) (k : Nat) (d : Dr) (t : Int), ds[k]? = some d -> ts[k]? = some t -> Az6 (ds.take (k + 1)) ts c = Akc (Az6 (ds.take k) ts c) d t
 | d' :: ds, t' :: ts, c, 0, d, t, h1, h2 => by
  simp at h1 h2
  subst h1 h2
  simp [Az6]
 | d' :: ds, t' :: ts, c, k + 1, d, t, h1, h2 => by
  simp only [List.take_succ_cons, Az6]
  exact Bxy ds ts _ k d t (by simpa using h1) (by simpa using h2)
 | [], _, _, _, _, _, h1, _ => by simp at h1
 | _ :: _, [], _, _, _, _, _, h2 => by simp at h2
theorem Cqy : ∀ {ds : List Dr} {ts : List Int} {k : Nat} {a b n : Int}, Edg (ds.take k) ts a b n -> Edg ds ts a b n
 | [], ts, k, a, b, n, h => by cases k <;> simp [Edg] at h
 | d :: ds, ts, 0, a, b, n, h => by simp [Edg] at h
 | d :: ds, [], k + 1, a, b, n, h => by simp [Edg] at h
 | d :: ds, t :: ts, k + 1, a, b, n, h => by
  rcases h with h | h
  ·exact .inl h
  ·exact .inr (Cqy h)
theorem Ajz.le99 {E : Int -> Int -> Int -> Prop} {pl p : Int} {c : List Int} (h : Ajz E pl p c) {q : Int} (h0 : 0 <= q) (h1 : q < 6) : 0 <= gI c q /\ gI c q <= 99 := by
 have := h.pos q h0 h1
 rcases h.att q h0 h1 with h2 | h2 <;> omega
theorem Bz1 : (Tryz.prog).eqGuardType (Tryz.prog).depth 117 = false := by kernel_rfl
theorem Cxm {H : Hp} (l l' : List Int) (hl : l.length = 6) (hl' : l'.length = 6) (K : Value -> Hp -> Prop) (E : Value -> Hp -> Prop) : wpS Tryz.prog (binOp .neq 117 (.agg (ints l).toArray) (.agg (ints l').toArray)) H K E = K (.bool (decide (l ≠ l'))) H :=
 Bk9 underlying117 underlying3 sizeOf3 l l' hl hl' K E
end Go.Proofs.YtnfnaehonkbknaaGreatDoor
end
section
namespace Go.X
open Go
def sdC : Code -> Code
 | .seq _ y => y
 | c => c
def scC : Code -> Code
 | .scope c => c
 | c => c
theorem Dj5 {c : Code} {I : Nat -> Act -> Hp -> Prop} {Q : Exit -> Act -> Hp -> Prop} {l : Nat} {a : Act} {H : Hp} (h : (findLabel c l).isSome = true) : scp c I Q (.goto l) a H = I l a H := by
 simp [scp, h]
theorem Bv2 {c : Code} {I I' : Nat -> Act -> Hp -> Prop} {Q Q' : Exit -> Act -> Hp -> Prop} (hI : ∀ l a H, I l a H -> I' l a H) (hQ : ∀ e a H, Q e a H -> Q' e a H) : ∀ {e : Exit} {a : Act} {H : Hp}, scp c I Q e a H -> scp c I' Q' e a H
 | .normal, _, _, h => hQ _ _ _ h
 | .exit _, _, _, h => hQ _ _ _ h
 | .ret, _, _, h => hQ _ _ _ h
 | .panic _, _, _, h => hQ _ _ _ h
 | .outgrown, _, _, h => h
 | .goto l, a, H, h => by
  simp only [scp] at h ⊢
  split
  ·rename_i hs
   rw [if_pos hs] at h
   exact hI _ _ _ h
  ·rename_i hs
   rw [if_neg hs] at h
   exact hQ _ _ _ h
end Go.X
namespace Go.Proofs.YtnfnaehonkbknaaGreatDoor
open Go Go.X Go.Proofs.Tryz
def Azp := aN @Dwx (aN @Dvm (aN @Dv8 (aN @Dwg (aN @Dwp (aN @Dwf (aN @Dvc (aN @Dyi (aN @Dvh (aN @Dwc (aN @Dvl (aN @Dvo (aN @Dwa (aN @Dye (aN @Dw9 (aN @Dwm (aN @Dw5 (aN @Dwu (aN @Dvv (aN @Dvw (aN @Dvi (aN @Dvg (aN @Ax1 @Bw2))))))))))))))))))))))
theorem Dkh {p q : Prop} (g : q) (h : Hid q -> p := by
 intro g
 repeat' (first
 | (refine Axv rfl ?_; intro Kz hKz; simp -implicitDefEqProofs (disch := first | omega | (simp only [qd] <;> omega)) only [xq, ↓xp, qc, Nat.reduceAdd, List.range, List.range.loop, fine, Nat.reduceEqDiff, ↓reduceIte, yielded, reduceCtorEq, Nat.reduceLT, Nat.reduceMul, Nat.reduceSub, one, Nat.reduceLeDiff, Aqj, Azp, aq, ↓ap, qe0, qe1, qe2, *, -g, -hKz, Cq5 Bz1]; try (refine hKz _ _ ?_; clear hKz Kz))
 | (refine Az0 rfl ?_; intro Kz hKz; simp -implicitDefEqProofs (disch := first | omega | (simp only [qd] <;> omega)) only [xq, ↓xp, qc, Nat.reduceAdd, List.range, List.range.loop, fine, Nat.reduceEqDiff, ↓reduceIte, yielded, reduceCtorEq, Nat.reduceLT, Nat.reduceMul, Nat.reduceSub, one, Nat.reduceLeDiff, Aqj, Azp, aq, ↓ap, qe0, qe1, qe2, *, -g, -hKz, Cq5 Bz1]; try (refine hKz _ _ ?_; clear hKz Kz; (try simp only [nq, ↓reduceIte, Nat.reduceEqDiff])))
 | (refine Ajc ?_; (try simp only [nq, ↓reduceIte, Nat.reduceEqDiff]))
 | (refine Azu ?_; (try simp only [nq, ↓reduceIte, Nat.reduceEqDiff]))
 | (refine Ajo ?_; (try simp only [nq, ↓reduceIte, Nat.reduceEqDiff]))
 | (refine Ajp ?_; (try simp only [nq, ↓reduceIte, Nat.reduceEqDiff]))
 | (refine Azz (by simp only [Aq6, Axg, Nat.reduceEqDiff, Nat.reduceLT, ↓reduceIte, *, -g]; rfl) ?_ ?_ <;> (intro hcz; first | (exfalso; simp -implicitDefEqProofs (disch := omega) only [*, -g, bq, reduceCtorEq] at hcz; done) | (simp only [dq, qe3, qe4, qe5, qe6] at hcz) | skip))
 | (refine Az7 ?_)
 | (refine Azt ?_)
 | (refine Axy ?_))
 refine unT ?_; (try (revert hcz; refine unC ?_)); (repeat (revert hcz; refine unD ?_)); first | revert Kz | refine unU ?_
 exact Hid.out g) : Hid p := ⟨h ⟨g⟩⟩
structure SpH (H0 : Hp) (hb wb rb nb mb : Nat) (pl : Int) (da : Option Addr) (dc : Nat) (hv nv : Value) (p : Int) (ts : List Int) (ds : List Dr) : Prop where
 vh : ∃ q, H0 hb = some (q, hsO pl (.slice da ds.length dc) hv nv mb)
 vw : H0 wb = some (true, .cells ((.int .i64 p) :: ints ts).toArray 120 (0, 0))
 vr : H0 rb = some (true, .cells #[.int .i64 0, .int .i64 0, .int .i64 0, .int .i64 0, .int .i64 0, .int .i64 0] 117 (0, 0))
 kn : Az5 ds mb H0
 dd : SlD H0 (.slice da ds.length dc) ds
 vn0 : ∃ c0, H0 nb = some (true, .cells c0 117 (0, 0))
 nh : hb ≠ nb
 nw : wb ≠ nb
 nr : rb ≠ nb
 nm : mb ≠ nb
def SpI (H0 : Hp) (hb wb rb nb mb : Nat) (pl : Int) (p : Int) (ts : List Int) (ds : List Dr) (l n : Nat) (a : Act) (H' : Hp) : Prop :=
 ∃ e c, a = act 92 e [] /\ e 0 = .pointer (some ⟨hb, 0, none⟩) /\ e 3 = .pointer (some ⟨wb, 0, none⟩) /\ e 4 = .pointer (some ⟨rb, 0, none⟩) /\ e 7 = .pointer (some ⟨nb, 0, none⟩) /\
  H' nb = some (true, .cells (ints c).toArray 117 (0, 0)) /\ Lex (some nb) H0 H' /\ Ave ds ts n c = Axf ds p ts /\ Ajz (Edg ds ts) pl p c /\ sum6 c < n
theorem Bx4 (main : Md) (H0 : Hp) (hb wb rb nb mb : Nat) (pl : Int) (da : Option Addr) (dc : Nat) (hv nv : Value) (p : Int) (ts : List Int) (ds : List Dr) (hH : SpH H0 hb wb rb nb mb pl da dc hv nv p ts ds)
  (hp : pl <= 6) (h0 : 0 <= p) (h1 : p < pl) (hd : Bxd pl ds) (hl6 : ds.length <= 6) (hts : ts.length = 6) (ht : TsOk ds ts) (R : Ending -> Hp -> Prop)
  (hR : Aqo (∀ H', (∀ b x, b ≠ mb -> b ≠ nb -> b ≠ rb -> H0 b = some x -> H' b = some x) -> Az5 ds mb H' -> R (.returned (.agg (ints (Axf ds p ts)).toArray)) H'))
  (n : Nat) (a : Act) (H' : Hp) (hI : SpI H0 hb wb rb nb mb pl p ts ds 0 n a H') :
  wpX Tryz.prog main none (sdC (sdC (sdC (sdC (sdC (scC (sdC ((Tryz.f68).body.getD .skip)))))))) (scp (scC (sdC ((Tryz.f68).body.getD .skip))) (fun l a H => ∃ n', n' < n /\ SpI H0 hb wb rb nb mb pl p ts ds l n' a H) (Bva Tryz.prog main Tryz.f68 R)) a H' := by
 obtain ⟨e, c, rfl, e0, e3, e4, e7, vn, lx, hs, ok, hsum⟩ := hI
 show wpX _ _ _ (.seq _ _) _ _ _
 have hcl := ok.len
 have hil : (ints c).length = 6 := by rw [Aq1]; exact hcl
 have hex := Aja hcl
 have htk : (ints c).take 6 = ints c := List.take_of_length_le (by omega)
 obtain ⟨q0, vh0⟩ := hH.vh
 have vh := lx.keeps vh0 hH.nh
 simp only [hsO] at vh
 (refine @unH _ (zA Azp ?_); (try clear hK K); intro K hK hc)
 intro xb hxb
 have nxn := Aqq vn hxb
 have h0x := lx.gone hxb
 have nxh := Aqq vh hxb
 (refine @unH _ (zU (aN Azp (aN @Avf (aN @Aj3 @Aj4))) ?_); (try clear hK K); intro K hK hc)
 generalize hG : Hp.set H' xb _ = H2
 have vx := Aqb hG
 have vn2 := Aqf hG vn nxn
 have lx2 := lx.le (Aqc hG hxb)
 have nxw := Aqq (lx.keeps hH.vw hH.nw) hxb
 have nxr := Aqq (lx.keeps hH.vr hH.nr) hxb
 obtain ⟨es, clock, vm0, hmap⟩ := hH.kn
 have nxm := Aqq (lx.keeps vm0 hH.nm) hxb
 have vh2 := Aqf hG vh nxh
 have vw2 := Aqf hG (lx.keeps hH.vw hH.nw) nxw
 have vr2 := Aqf hG (lx.keeps hH.vr hH.nr) nxr
 have vm2 := Aqf hG (lx.keeps vm0 hH.nm) nxm
 obtain ⟨c0, vn0⟩ := hH.vn0
 have dd2 : SlD H2 (.slice da ds.length dc) ds := SlD.move hH.dd (fun x p c fr hx => by
  have h1 := lx.keeps hx (fun e => by rw [e, vn0] at hx; cases hx)
  exact ⟨p, Aqf hG h1 (Aqq h1 hxb)⟩)
 clear hG vm0 vn0 c0
 refine Axh (fun w a' H' => ∃ e c', ∃ k : Nat, w = ds.length - k /\ k <= ds.length /\ a' = act 92 e [] /\ e 0 = .pointer (some ⟨hb, 0, none⟩) /\ e 3 = .pointer (some ⟨wb, 0, none⟩) /\ e 4 = .pointer (some ⟨rb, 0, none⟩) /\ e 7 = .pointer (some ⟨nb, 0, none⟩) /\ e 9 = .pointer (some ⟨xb, 0, none⟩) /\
  e 37 = .slice da ds.length dc /\ e 38 = .int .i64 ds.length /\ e 39 = .int .i64 (k : Nat) /\ H' xb = some (true, .cells (ints c').toArray 117 (0, 0)) /\ Lex (some xb) H2 H' /\ c' = Az6 (ds.take k) ts c) (n := ds.length) ?_ ?_
 ·exact ⟨_, c, 0, by omega, by omega, rfl, e0, e3, e4, e7, rfl, rfl, rfl, rfl, vx, Lex.refl, by simp [Az6]⟩
 ·clear vh vn lx e0 e3 e4 e7 hxb hex htk
  rintro w a' H3 ⟨e, c', k, rfl, hk, rfl, e0, e3, e4, e7, e9, e37, e38, e39, vx3, lxx, hc'⟩
  by_cases hlt : k < ds.length
  ·obtain ⟨b, o, p', cd, fr, rfl, hb, hcs, hce⟩ := dd2.get (List.getElem?_eq_getElem hlt)
   have hdk := hd _ (List.getElem_mem hlt)
   have hsn := Bxy ds ts c k _ _ (List.getElem?_eq_getElem hlt) (List.getElem?_eq_getElem (show k < ts.length by omega))
   have htk : (Value.int .i64 p :: ints ts)[1 + k]? = some (.int .i64 (ts[k]'(by omega))) := by rw [Nat.add_comm, List.getElem?_cons_succ]; exact Bq4 (List.getElem?_eq_getElem _)
   have ok' : Ajz (Edg ds ts) pl p c' := by
    rw [hc']
    exact (Ajz.all hp h0 (by omega) (fun _ _ _ h => h.symm) (fun _ _ _ h => (ht _ _ _ h).1) (ds.take k) ts (fun x hx => hd x (List.mem_of_mem_take hx)) (fun _ _ _ h => Cqy h) ok).1
   obtain ⟨t1, t4⟩ := ht _ _ _ (Edg.of (List.getElem?_eq_getElem hlt) (List.getElem?_eq_getElem (show k < ts.length by omega)))
   generalize ds[k] = d at *
   generalize ts[k]'(by omega) = tk at *
   obtain ⟨a0, a1, b0, b1, dne, m0, m1, m2⟩ := hdk
   have hcl' : c'.length = 6 := by rw [hc', Awb]; exact hcl
   obtain ⟨qa0, qa9⟩ := ok'.le99 a0 (by omega)
   obtain ⟨qb0, qb9⟩ := ok'.le99 b0 (by omega)
   clear ok'
   have hga := Avq hcl' a0 (by omega)
   have hgb := Avq hcl' b0 (by omega)
   have hb3 := lxx.keeps hb (fun e => by rw [e, vx] at hb; cases hb)
   have vw3 := lxx.keeps vw2 nxw
   rw [<- hc'] at hsn
   replace hsn : Aqo _ := hsn
   replace hc' : Aqo _ := hc'
   replace hcl' : Aqo _ := hcl'
   clear hb vx vm2 vr2 vh2 vn2 hmap lx2
   (refine @unH _ (zA Azp ?_); (try clear hK K); intro K hK hc)
   intro ab hab
   have nxa := Aqq vx3 hab
   have nwa := Aqq vw3 hab
   (refine @unH _ (zU Azp ?_); (try clear hK K); intro K hK hc)
   generalize hG : Hp.set H3 ab _ = H4
   have va := Aqb hG
   have vx4 := Aqf hG vx3 nxa
   have vw4 := Aqf hG vw3 nwa
   have lx4 := lxx.le (Aqc hG hab)
   clear hG vx3 vw3 lxx hb3
   refine Azl (fun HX => H4.le HX) [18] (.take 0 (.take 1 (.take 2 (.take 3 (.take 4 (.take 5 (.take 6 (.take 7 (.take 8 (.take 9 (.take 10 (.take 11 (.take 12 (.take 13 (.take 14 (.one 15 (.one 16 (.take 17 (.one 18 .nil))))))))))))))))))) (by kernel_rfl) (by kernel_rfl) (by decide) (by kernel_rfl) ?_; intro K hK
   have hle4 : H4.le H4 := Hp.le_refl _
   (iterate 15 (apply Aq5 rfl rfl rfl ‹_›; (focus (intro HX hHX; simp -implicitDefEqProofs (disch := first | omega | (simp only [qd] <;> omega)) only [xq, ↓xp, qc, Nat.reduceAdd, List.range, List.range.loop, fine, Nat.reduceEqDiff, ↓reduceIte, yielded, reduceCtorEq, Nat.reduceLT, Nat.reduceMul, Nat.reduceSub, one, Nat.reduceLeDiff, Aqj, Azp, aq, ↓ap, qe0, qe1, qe2, *, -hK, Aq3, hHX _ _ va, hHX _ _ vx4, hHX _ _ vw4] <;> (first | exact rfl | exact ⟨rfl, rfl⟩ | exact ⟨rfl, trivial⟩))); simp -implicitDefEqProofs (disch := first | omega | (simp only [qd] <;> omega)) only [Aq0, Aqp]))
   refine Aqt ?_
   (refine @unH _ ?_; refine zX Azp ?_)
   (intro g2 hg2; generalize hG : Hp.set _ g2 _ = H5; have lH5 := Aqc hG hg2; have vg2 := Aqb hG; clear hG)
   have vx5 := lH5 _ _ vx4
   have lx5 := lx4.le lH5
   refine ⟨.inr (fun _ => by first | exact lH5 | trivial), Aqt ?_⟩
   (refine @unH _ ?_; refine zX Azp ?_)
   refine (Awq main H5 _ _ g2 true _ vg2).runs.mono ?_
   rintro _ _ ⟨rfl, hQ⟩
   rw [hQ]
   clear hQ
   (refine @unH _ ?_; refine zX Azp ?_)
   refine ⟨.inr (fun _ => by first | exact lH5 | trivial), ?_⟩
   (apply Aq5 rfl rfl rfl ‹_›; (focus (intro HX hHX; simp -implicitDefEqProofs (disch := first | omega | (simp only [qd] <;> omega)) only [xq, ↓xp, qc, Nat.reduceAdd, List.range, List.range.loop, fine, Nat.reduceEqDiff, ↓reduceIte, yielded, reduceCtorEq, Nat.reduceLT, Nat.reduceMul, Nat.reduceSub, one, Nat.reduceLeDiff, Aqj, Azp, aq, ↓ap, qe0, qe1, qe2, *, -hK, Aq3, hHX _ _ va, hHX _ _ vx4, hHX _ _ vw4] <;> (first | exact rfl | exact ⟨rfl, rfl⟩ | exact ⟨rfl, trivial⟩))); simp -implicitDefEqProofs (disch := first | omega | (simp only [qd] <;> omega)) only [Aq0, Aqp])
   refine Aqt ?_
   (refine @unH _ ?_; refine zX (aN Azp @Akx) ?_)
   refine ⟨by rw [Aq1, show c'.length = 6 from hcl']; omega, .inl (by decide), Axk (hK _ _ ?_)⟩
   clear hK K hle4
   (try refine @unH _ (zQ ?_))
   have va5 := lH5 _ _ va
   have vw5 := lH5 _ _ vw4
   have nax : ab ≠ xb := Ne.symm nxa
   have nwx : wb ≠ xb := nxw
   clear va vw4 vx4 lx4 lH5 hg2 vg2
   generalize hC : c'.set d.a.toNat (min (gI c' d.a) (gI c' d.b + tk)) = c2 at *
   generalize hG : Hp.set H5 xb _ = H6
   have va := Aqf hG va5 nax
   have vw4 := Aqf hG vw5 nwx
   have vx4 := Aqb hG
   have lx4 : Lex (some xb) H2 H6 := by rw [<- hG]; exact lx5.set
   have hga2 : gI c2 d.a = min (gI c' d.a) (gI c' d.b + tk) := by rw [<- hC, Bxn a0 (by rw [show c'.length = 6 from hcl']; omega) a0, if_pos rfl]
   have hgb2 : gI c2 d.b = gI c' d.b := by rw [<- hC, Bxn a0 (by rw [show c'.length = 6 from hcl']; omega) b0, if_neg dne]
   have hcl2 : Aqo (c2.length = 6) := show c2.length = 6 by rw [<- hC, List.length_set]; exact hcl'
   have hga' := Avq (show c2.length = 6 from hcl2) a0 (by omega)
   have hgb' := Avq (show c2.length = 6 from hcl2) b0 (by omega)
   have qa2 : 0 <= gI c2 d.a /\ gI c2 d.a <= 99 := by omega
   obtain ⟨qa20, qa29⟩ := qa2
   have hfin : Aqo (Akc c' d tk = c2.set d.b.toNat (min (gI c2 d.b) (gI c2 d.a + tk))) := show Akc c' d tk = _ by unfold Akc; rw [hC]
   replace hga2 : Aqo _ := hga2
   replace hgb2 : Aqo _ := hgb2
   clear hG hC va5 vw5 lx5 vx5 hga hgb
   refine Azl (fun HX => H6.le HX) [18] (.take 0 (.take 1 (.take 2 (.take 3 (.take 4 (.take 5 (.take 6 (.take 7 (.take 8 (.take 9 (.take 10 (.take 11 (.take 12 (.take 13 (.take 14 (.one 15 (.one 16 (.take 17 (.one 18 .nil))))))))))))))))))) (by kernel_rfl) (by kernel_rfl) (by decide) (by kernel_rfl) ?_; intro K hK
   have hle4 : H6.le H6 := Hp.le_refl _
   (iterate 15 (apply Aq5 rfl rfl rfl ‹_›; (focus (intro HX hHX; simp -implicitDefEqProofs (disch := first | omega | (simp only [qd] <;> omega)) only [xq, ↓xp, qc, Nat.reduceAdd, List.range, List.range.loop, fine, Nat.reduceEqDiff, ↓reduceIte, yielded, reduceCtorEq, Nat.reduceLT, Nat.reduceMul, Nat.reduceSub, one, Nat.reduceLeDiff, Aqj, Azp, aq, ↓ap, qe0, qe1, qe2, *, -hK, Aq3, hHX _ _ va, hHX _ _ vx4, hHX _ _ vw4] <;> (first | exact rfl | exact ⟨rfl, rfl⟩ | exact ⟨rfl, trivial⟩))); simp -implicitDefEqProofs (disch := first | omega | (simp only [qd] <;> omega)) only [Aq0, Aqp]))
   refine Aqt ?_
   (refine @unH _ ?_; refine zX Azp ?_)
   (intro g2 hg2; generalize hG : Hp.set _ g2 _ = H7; have lH7 := Aqc hG hg2; have vg2 := Aqb hG; clear hG)
   have vx5 := lH7 _ _ vx4
   have lx5 := lx4.le lH7
   refine ⟨.inr (fun _ => by first | exact lH7 | trivial), Aqt ?_⟩
   (refine @unH _ ?_; refine zX Azp ?_)
   refine (Awq main H7 _ _ g2 true _ vg2).runs.mono ?_
   rintro _ _ ⟨rfl, hQ⟩
   rw [hQ]
   clear hQ
   (refine @unH _ ?_; refine zX Azp ?_)
   refine ⟨.inr (fun _ => by first | exact lH7 | trivial), ?_⟩
   (apply Aq5 rfl rfl rfl ‹_›; (focus (intro HX hHX; simp -implicitDefEqProofs (disch := first | omega | (simp only [qd] <;> omega)) only [xq, ↓xp, qc, Nat.reduceAdd, List.range, List.range.loop, fine, Nat.reduceEqDiff, ↓reduceIte, yielded, reduceCtorEq, Nat.reduceLT, Nat.reduceMul, Nat.reduceSub, one, Nat.reduceLeDiff, Aqj, Azp, aq, ↓ap, qe0, qe1, qe2, *, -hK, Aq3, hHX _ _ va, hHX _ _ vx4, hHX _ _ vw4] <;> (first | exact rfl | exact ⟨rfl, rfl⟩ | exact ⟨rfl, trivial⟩))); simp -implicitDefEqProofs (disch := first | omega | (simp only [qd] <;> omega)) only [Aq0, Aqp])
   refine Aqt ?_
   (refine @unH _ ?_; refine zX (aN Azp @Akx) ?_)
   refine ⟨by rw [Aq1, show c2.length = 6 from hcl2]; omega, .inl (by decide), Axk (hK _ _ ?_)⟩
   clear hK K hle4
   (try refine @unH _ (zQ ?_))
   generalize hC : c2.set d.b.toNat (min (gI c2 d.b) (gI c2 d.a + tk)) = c3 at *
   generalize hG : Hp.set H7 xb _ = H8
   have vx8 := Aqb hG
   have lx8 : Lex (some xb) H2 H8 := by rw [<- hG]; exact lx5.set
   clear hG hC
   (refine @unH _ (zA Azp ?_); (try clear hK K); intro K hK hc)
   exact ⟨_, by omega, _, c3, k + 1, rfl, by omega, rfl, e0, e3, e4, e7, e9, e37, e38, rfl, vx8, lx8, (show Akc c' d tk = c3 from hfin).symm.trans (show Az6 (ds.take (k + 1)) ts c = _ from hsn).symm⟩
  ·obtain rfl : k = ds.length := by omega
   rw [List.take_length] at hc'
   have hcl' : c'.length = 6 := by rw [hc', Awb]; exact hcl
   have hil' : (ints c').length = 6 := by rw [Aq1]; exact hcl'
   have hex' := Aja hcl'
   have hex := Aja hcl
   obtain ⟨ok', hle'⟩ : Ajz (Edg ds ts) pl p c' /\ _ := by
    rw [hc']
    exact Ajz.all hp h0 (by omega) (fun _ _ _ h => h.symm) (fun _ _ _ h => (ht _ _ _ h).1) ds ts hd (fun _ _ _ h => h) ok
   have vn3 := lxx.keeps vn2 nxn
   replace hc' : Aqo _ := hc'
   obtain ⟨m, rfl⟩ : ∃ m, n = m + 1 := ⟨n - 1, by
    have := ok.pos 0 (by omega) (by omega)
    have := ok.pos 1 (by omega) (by omega)
    have := ok.pos 2 (by omega) (by omega)
    have := ok.pos 3 (by omega) (by omega)
    have := ok.pos 4 (by omega) (by omega)
    have := ok.pos 5 (by omega) (by omega)
    unfold sum6 at hsum
    omega⟩
   rw [Ave, <- show c' = Az6 ds ts c from hc'] at hs
   have vm3 := lxx.keeps vm2 nxm
   have lx3 : Lex (some nb) H0 H3 := fun x v hx => by
    obtain ⟨v', h1, h2⟩ := lx2 x v hx
    exact ⟨v', lxx.keeps h1 (fun e => by rw [e, h0x] at hx; cases hx), h2⟩
   have vh3 := lxx.keeps vh2 nxh
   have vw3 := lxx.keeps vw2 nxw
   have vr3 := lxx.keeps vr2 nxr
   by_cases heq : c' = c
   ·have hne : ∀ (K : Value -> Hp -> Prop) (E : Value -> Hp -> Prop), wpS Tryz.prog (binOp .neq 117 (.agg (ints c').toArray) (.agg (ints c).toArray)) H3 K E = K (.bool false) H3 := fun K E => by
     rw [Cxm c' c hcl' hcl, heq]; simp
    rw [if_pos heq] at hs
    replace heq : Aqo _ := heq
    replace hs : Aqo _ := hs
    (refine @unH _ (Dkh ?_); (try clear hK K); intro K hK hc)
    clear hne vx3 hex' hil' hcl' ok' hle' vn2 vw2 vr2 vm2 vh2 e9 e37 e38 e39
    have hw7 : (Value.int .i64 p :: ints ts).toArray.extract 0 7 = (Value.int .i64 p :: ints ts).toArray := by
     rw [List.extract_toArray, List.extract_eq_take_drop, List.drop_zero, List.take_of_length_le (by simp [Aq1, hts])]
    have hw6 : (Value.int .i64 p :: ints ts).length = 7 := by simp [Aq1, hts]
    (refine Akn 6 [(true, 0), (true, 1), (true, 2), (true, 3), (true, 4), (true, 5), (false, 6)] (by kernel_rfl) (by kernel_rfl) (by simp) (by kernel_rfl) ?_; intro K hK; (iterate 6 (refine @unH _ ?_; refine z3 Azp ?_)); refine Bvx ?_; (refine @unH _ ?_; refine zX Azp ?_); try (refine hK _ _ ?_; clear hK K; (try refine @unH _ (zQ ?_))))
    obtain rfl : c = Axf ds p ts := hs
    refine Dzy (P := Tryz.prog) underlying145 K7.key (F := Cvs ds) (wayK p ts hts) trivial vm3 hmap _ _ (fun es' clock' hm' => ?_)
    have nnm : nb ≠ mb := Ne.symm hH.nm
    have nrm : rb ≠ mb := fun e => by rw [e, vm3] at vr3; cases vr3
    have nrn := hH.nr
    (refine @unH _ (zU (aN Azp (aN @Avf (aN @Aj3 @Aj4))) ?_); (try clear hK K); intro K hK hc)
    (refine Axt ?_; (try simp only [nq, ↓reduceIte, Nat.reduceEqDiff]); rw [Aq7, Ax2 results68 (by decide) (b := rb) (o := 0) ?hcell underlying117 rfl sizeOf117]; (case hcell => exact e4); simp -implicitDefEqProofs (disch := first | omega | (simp only [qd] <;> omega)) only [xq, ↓xp, qc, Nat.reduceAdd, List.range, List.range.loop, fine, Nat.reduceEqDiff, ↓reduceIte, yielded, reduceCtorEq, Nat.reduceLT, Nat.reduceMul, Nat.reduceSub, one, Nat.reduceLeDiff, Aqj, Azp, hil, hex, Axj])
    refine (show ∀ H', (∀ b x, b ≠ mb -> b ≠ nb -> b ≠ rb -> H0 b = some x -> H' b = some x) -> Az5 ds mb H' -> R (.returned (.agg (ints (Axf ds p ts)).toArray)) H' from hR) _ (fun b x h1 h2 h3 hx => ?_) ⟨es', clock', ?_, hm'⟩
    ·rw [Aqv h3, Aqv h1]
     exact lx3.keeps hx h2
    ·rw [Aqv (Ne.symm nrm), Axp]
   ·have hne : ∀ (K : Value -> Hp -> Prop) (E : Value -> Hp -> Prop), wpS Tryz.prog (binOp .neq 117 (.agg (ints c').toArray) (.agg (ints c).toArray)) H3 K E = K (.bool true) H3 := fun K E => by
     rw [Cxm c' c hcl' hcl]; simp [heq]
    rw [if_neg heq] at hs
    have hlt' := Cvx hcl hcl' (by rw [show c' = _ from hc']; exact hle') heq
    replace heq : Aqo _ := heq
    replace hs : Aqo _ := hs
    (refine @unH _ (Dkh ?_); (try clear hK K); intro K hK hc)
    (refine @unH _ (zU (aN Azp (aN @Avf (aN @Aj3 @Aj4))) ?_); (try clear hK K); intro K hK hc)
    rw [Dj5 (by rfl)]
    refine ⟨m, by omega, _, c', rfl, e0, e3, e4, e7, Axp, ?_, hs, ok', by omega⟩
    exact lx3.set
end Go.Proofs.YtnfnaehonkbknaaGreatDoor
end
