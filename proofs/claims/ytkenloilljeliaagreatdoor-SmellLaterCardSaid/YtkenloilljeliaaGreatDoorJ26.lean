/- Texts LSLater PSmellLater SSmellLater. -/
import Derived.Test.YtkenloilljeliaaGreatDoorJ24
import Derived.Test.YtkenloilljeliaaGreatDoorJ25
import Derived.Test.YtkenloilljeliaaGreatDoorAFactA
import Derived.Test.YtkenloilljeliaaGreatDoorAFactSB
import Derived.Test.YtkenloilljeliaaGreatDoorAFactSC
set_option linter.defProp false
set_option linter.unusedSimpArgs false
set_option linter.unusedVariables false
set_option maxRecDepth 100000
set_option maxHeartbeats 2000000
section
namespace Go.Proofs.YtkenloilljeliaaGreatDoor
open Go Go.X
def y5_164 := And.intro @callF10 (And.intro @callF9 (And.intro (fun H => Aqv (H := H) (P := Tryz.prog) (h := Tryz.zeroValue26)) (And.intro (fun H => Aqr (H := H) Tryz.sizeOf26) (And.intro (fun H => Aqd (H := H) Tryz.underlying26 (i := 3) rfl (off := 3) rfl Tryz.sizeOf24) (And.intro (fun H => Aqf (H := H) Tryz.underlying24 rfl) (And.intro (fun H => Aq6 (H := H) Tryz.underlying24) (And.intro (fun H => Aqd (H := H) Tryz.underlying26 (i := 2) rfl (off := 2) rfl Tryz.sizeOf22) (And.intro (fun H => Aqf (H := H) Tryz.underlying22 rfl) (And.intro (fun H => Aqu (H := H) Tryz.underlying22 Tryz.sizeOf3) (And.intro (fun H => Aqf (H := H) Tryz.underlying3 rfl) (And.intro @Bq6 (And.intro @Bvu (And.intro @Cvo (And.intro (fun H => Awg (H := H) Tryz.underlying24 Tryz.sizeOf53 Tryz.zeroValue53 rfl (by decide) (by decide)) (And.intro (fun H => Azu (H := H) Tryz.sizeOf24) (And.intro (fun H => Aqu (H := H) Tryz.underlying24 Tryz.sizeOf53) (And.intro (fun H => Aqd (H := H) Tryz.underlying53 (i := 1) rfl (off := 1) rfl Tryz.sizeOf3) (And.intro (fun H => Aqp (H := H) Tryz.underlying26 rfl Tryz.sizeOf26) (And.intro @callF23 (And.intro (fun H => Axc (H := H) Tryz.sizeOf3) (And.intro @Djc (And.intro @callF24 (And.intro (fun H => Aq6 (H := H) Tryz.underlying22) (And.intro @callF25 @callF16))))))))))))))))))))))))
theorem SlG.otherR {e e' : TypeId} {sz sz' : Nat} {H H' : Hp} {v v' : Value} {rows rows' : List (List Value)} (h : RowG e sz H v rows) (h' : SlG e' sz' H v' rows') (he : e ≠ e') (hk : ∀ x u, H x = some u -> rowB v ≠ some x -> H' x = some u) : SlG e' sz' H' v' rows' := h'.move fun x p c fr hx => ⟨p, hk x _ hx fun hv => by
 obtain ⟨c', hc⟩ := h.cell hv
 rw [hx] at hc
 simp only [Option.some.injEq, Prod.mk.injEq, Obj.cells.injEq] at hc
 exact he hc.2.2.1.symm⟩
theorem SlI.otherR {e : TypeId} {sz : Nat} {H H' : Hp} {v v' : Value} {rows : List (List Value)} {xs : List Int} (h : RowG e sz H v rows) (h' : SlI H v' xs) (he : e ≠ 3) (hk : ∀ x u, H x = some u -> rowB v ≠ some x -> H' x = some u) : SlI H' v' xs := h'.move fun x p c fr hx => hk x _ hx fun hv => by
 obtain ⟨c', hc⟩ := h.cell hv
 rw [hx] at hc
 simp only [Option.some.injEq, Prod.mk.injEq, Obj.cells.injEq] at hc
 exact he hc.2.2.1.symm
theorem lslater_spec (H : Hp) (sa : Option Addr) (sl sc : Nat) (hs : ∀ i : Nat, i < sl -> ∃ sb so c e fr x, sa = some ⟨sb, so, none⟩ /\ H sb = some (false, .cells c e fr) /\ c[so + i]? = some (.int .i64 x)) :
  FnX Tryz.prog (.wg Tryz.prog) 5 #[.slice sa sl sc] H fun e _ => e = .returned (.bool true) := by
 refine Aqm Tryz.func5 rfl Tryz.ntmps5 (by simp) ?_
 (refine @unH _ (zA y5_164 ?_); (repeat refine inC fun hc => ?_); try refine inK fun K hK => ?_)
 refine (newTin_spec _ H sa sl sc hs 240 (by omega)).runs.mono ?_
 rintro _ H1 ⟨tb, rfl, l1, hT⟩
 ((try refine @unH _ (zX y5_164 ?_)); (try (refine hK _ _ ?_; clear hK K; try refine @unH _ (zQ ?_))); refine @unH _ (zA y5_164 ?_); (repeat refine inC fun hc => ?_); try refine inK fun K hK => ?_)
 refine (smellOf_spec _ H1 tb 180 3 true (by omega) (by omega) hT).runs.mono ?_
 rintro _ H2 ⟨s, dv, hv, nv, cv, i, hr, ts, rfl, hs2, ok, hp5, hdl, hnl, hil, hr12, htk, hcv, htr, lex2, hT2, hrw⟩
 clear hT hs l1 lex2
 obtain ⟨da, dc, ha, kc, na, nc, rfl, rfl, rfl, l1, l2, l3⟩ := hs2.forms
 have htr := htr rfl
 ((try refine @unH _ (zX y5_164 ?_)); (try (refine hK _ _ ?_; clear hK K; try refine @unH _ (zQ ?_))); refine @unH _ (zA y5_164 ?_); (repeat refine inC fun hc => ?_); try refine inK fun K hK => ?_)
 (intro sb hsb; generalize hG : Hp.set _ sb _ = H3; have lH3 := Aqc hG hsb; have vsb := Aqb hG; clear hG)
 have hs3 := hs2.le lH3
 have hT3 := hT2.le lH3
 have hsn := hT2.ne hsb
 have hh1 := ok.h1
 have hd1 := ok.dl
 have hrw3 := hrw.keep fun x u _ hu => lH3 _ _ hu
 have hr12' : ((hr : Nat) : Int) <= 12 := by omega
 have hnl4 : ((s.noses.length : Nat) : Int) < 4 := by omega
 obtain ⟨hb, ho, hcap, hp, hc0, hfr, hvf, hcl, hhb, hcell⟩ := hs3.hh.cons (fun e => by have := ok.h0; rw [e] at this; exact absurd this (by simp))
 cases hvf
 have hkh : s.hampers[i]? = some (s.hampers.getD i 0) := by
  rw [List.getD, List.getElem?_eq_getElem hil]
  rfl
 have hci := hcell _ _ hkh
 have hhk := ok.hk _ (List.mem_of_getElem? hkh)
 have hil' : ((i : Nat) : Int) < s.hampers.length := by omega
 clear hs2 lH3 hsb hT2 hcv hdl hrw hcell hkh
 generalize hP : s.hampers.getD i 0 = hp0 at hci hhk
 replace hP : Aqk _ := hP
 replace hrw3 : Aqk _ := hrw3
 replace htr : Aqk _ := htr
 ((try refine @unH _ (zX y5_164 ?_)); (try (refine hK _ _ ?_; clear hK K; try refine @unH _ (zQ ?_))); refine @unH _ (zA y5_164 ?_); (repeat refine inC fun hc => ?_); try refine inK fun K hK => ?_)
 refine Bk5 (fun e => e 3 = .pointer (some ⟨tb, 0, none⟩) /\ e 4 = .pointer (some ⟨sb, 0, none⟩) /\ e 5 = .int .i64 (i : Nat) /\ e 6 = .int .i64 (hr : Nat)) ⟨rfl, rfl, rfl, rfl⟩ ?_
 rintro e ⟨e3, e4, e5, e6⟩
 refine Axn (fun HX => HX sb = some (true, smO s.places (.slice da s.doors.length dc) (.slice (some ⟨hb, ho, none⟩) s.hampers.length kc) (.slice na s.noses.length nc)) /\ HX hb = some (hp, .cells hc0 3 hfr)) [13, 15] (.free 0 (.take 1 (.free 2 (.take 3 (.free 4 (.free 5 (.take 6 (.free 7 (.free 8 (.one 9 (.free 10 (.one 11 (.one 12 (.one 13 (.free 14 (.one 15 .nil)))))))))))))))) (by kernel_rfl) (by kernel_rfl) (by decide) (by kernel_rfl) ?_; intro K hK
 refine Ax9 fun ops hOz => ?_
 have hSS := And.intro vsb hhb
 (refine @unH _ ?_; refine zF y5_164 ?_)
 (refine @unH _ ?_; refine zK (And.intro y5_164 @exists_eq_left'.{1}) ?_)
 (refine @unH _ ?_; refine zF y5_164 ?_)
 (refine @unH _ ?_; refine zK (And.intro y5_164 @exists_eq_left'.{1}) ?_)
 (iterate 2 (refine @unH _ ?_; refine zF y5_164 ?_))
 (refine @unH _ ?_; refine zK (And.intro y5_164 @exists_eq_left'.{1}) ?_)
 (iterate 2 (refine @unH _ ?_; refine zF y5_164 ?_))
 clear hSS
 have hbn := hT3.off hhb (by decide)
 (refine @unH _ ?_; refine zM y5_164 ?_)
 refine (Bj6 _ H3 tb 179 12 (by omega) hT3).runs.mono ?_
 rintro _ H4 ⟨u, u0, u12, rfl, x4, hT4⟩
 obtain ⟨m, hm, m0, m12⟩ : ∃ m : Int, (if ((hr : Nat) : Int) < u then u else ((hr : Nat) : Int)) = m /\ ((hr : Nat) : Int) <= m /\ m <= 12 := ⟨_, rfl, by split <;> omega, by split <;> omega⟩
 have vsb4 := x4.keeps vsb hsn
 have hhb4 := x4.keeps hhb hbn
 have hrw4 := RowG.lexT (show RowG _ _ H3 _ _ from hrw3) hT3 (by decide) x4
 have hs4 := hs3.lexT hT3 x4
 simp -implicitDefEqProofs (disch := omega) only [Azw, Aq3, Aqn]
 refine ⟨.inr fun _ => ⟨vsb4, hhb4⟩, ?_⟩
 replace hrw4 : Aqk _ := hrw4
 clear vsb hhb hrw3 hs3 hT3 x4 u12
 (refine @unH _ ?_; refine zF y5_164 ?_)
 clear hm
 (refine @unH _ ?_; refine zM y5_164 ?_)
 refine (Ayc _ H4 hp0 m true).runs.mono ?_
 rintro _ H5 ⟨rfl, l5⟩
 simp -implicitDefEqProofs (disch := omega) only [Azw, Aq3, Aqn]
 refine ⟨.inr fun _ => ⟨l5 _ _ vsb4, l5 _ _ hhb4⟩, ?_⟩
 have vsb5 := l5 _ _ vsb4
 have hhb5 := l5 _ _ hhb4
 (refine @unH _ ?_; refine zM y5_164 ?_)
 intro g hg
 generalize hG : Hp.set H5 g _ = H6
 have l6 := Aqc hG hg
 have vg6 := Aqb hG
 clear hG
 refine ⟨.inr fun _ => ⟨by rw [if_neg (Aqq vsb5 hg)], by rw [if_neg (Aqq hhb5 hg)]⟩, ?_⟩
 have l46 := Hp.le_trans l5 l6
 have vsb6 := l6 _ _ vsb5
 have hrw6 := RowG.le (show RowG _ _ H4 _ _ from hrw4) l46
 have hs6 := hs4.le l46
 have hT6 := hT4.le l46
 have hrg : rowB (.slice na s.noses.length nc) ≠ some g := fun h => by
  obtain ⟨c, hc⟩ := (show RowG _ _ H4 _ _ from hrw4).cell h
  have := l5 _ _ hc
  rw [hg] at this
  cases this
 clear l5 l6 l46 vsb4 hhb4 vsb5 hhb5 hrw4 hs4 hT4 hg
 replace hrw6 : Aqk _ := hrw6
 (refine @unH _ ?_; refine zM y5_164 ?_)
 have hrw6' : RowG 53 3 H6 (.slice na s.noses.length nc) (s.noses.map Bj4) := hrw6
 refine append_RowGs (by decide) Tryz.underlying24 Tryz.sizeOf53 Tryz.zeroValue53 rfl Tryz.typeInfo53 (by decide) (by decide) hrw6' (slG_one (ws := Bj4 ⟨hp0, m, true⟩) rfl vg6) (fun _ x o hx h => hrg (by cases hx; exact h)) (SlN.one (ns := [⟨hp0, m, true⟩])) (by simp only [List.length_cons, List.length_nil, List.length_map]; omega) _ _ _ _ (fun v8 H7 r7 k7 n7 => ?_)
 have vsb7 := k7 _ _ vsb6 (fun h => hrw6'.bound h vsb6 (fun c hc => by simp only [Obj.cells.injEq] at hc; exact absurd hc.2.1 (by decide)) rfl)
 have hd7 : SlD H7 (.slice da s.doors.length dc) s.doors := SlG.otherR hrw6' hs6.dd (by decide) k7
 have hh7 := SlI.otherR hrw6' hs6.hh (by decide) k7
 have hT7 := hT6.row hrw6' (by decide) k7
 have r7' : SlG 53 3 H7 v8 ((withS s ⟨hp0, m, true⟩).noses.map Bj4) := by
  have h := r7.slG (by decide)
  show SlG _ _ _ _ ((s.noses ++ [_]).map Bj4)
  rw [List.map_append]
  exact h
 obtain ⟨va, vn, vc, rfl⟩ := r7'.isSlice
 clear hrw6 hrw6' hs6 hT6 vsb6 vg6 hrg k7 n7 r7
 replace hd7 : Aqk _ := hd7
 replace hh7 : Aqk _ := hh7
 replace r7' : Aqk _ := r7'
 (refine @unH _ ?_; refine zX y5_164 ?_)
 refine ⟨.inl (by decide), ?_⟩
 (refine @unH _ ?_; refine zF y5_164 ?_)
 (refine @unH _ ?_; refine zM y5_164 ?_)
 refine ⟨.inl (by decide), ?_⟩
 (refine Ajg (hK _ _ ?_); clear hK K; (try simp only [nq, ↓reduceIte, Nat.reduceEqDiff]))
 clear hOz
 generalize hG : Hp.set H7 sb _ = H8
 have vsb8 := Aqb hG
 have hs8 : SmIn H8 (.slice da s.doors.length dc) (.slice (some ⟨hb, ho, none⟩) s.hampers.length kc) (.slice va vn vc) (withS s ⟨hp0, m, true⟩) := ⟨hG ▸ SlG.put hd7 vsb7 (by decide) _, hG ▸ SlI.put hh7 vsb7 (by decide) _, hG ▸ SlG.put r7' vsb7 (by decide) _⟩
 have hT8 : TinI H8 tb 179 := hG ▸ hT7.own vsb7 (Ne.symm hsn)
 have htr1 : Tr (withS s ⟨hp0, m, true⟩) i hr ts := tr_withS.2 ⟨htr, by
  have hP' : s.hampers.getD i 0 = hp0 := hP
  have h1 : Bw1 s i hr ts hp0 = hr := by
   rw [Bqk hhk.1 hhk.2, hP', show gI (Aq4 s.doors hp0 (pad6 ts)) hp0 = 0 from ds_self ok htk hhk.1 hhk.2]
   simp [Bjz]
  simp only [h1]
  exact (decide_eq_true m0).symm⟩
 have ok1 := withS_ok ok (n := ⟨hp0, m, true⟩) ⟨hhk.1, hhk.2, by simp only; omega, m12⟩ (by omega)
 have hex1 : ∃ n ∈ (withS s ⟨hp0, m, true⟩).noses, n.sm = true := ⟨_, List.mem_append_right _ (List.mem_singleton.2 rfl), rfl⟩
 have hsp : (withS s ⟨hp0, m, true⟩).places = s.places := rfl
 have hvn : vn = (withS s ⟨hp0, m, true⟩).noses.length := by have := SlN.len hs8.nn; exact this.1
 clear hG vsb7 hd7 hh7 r7' hT7 htr hhk hci hcl htk
 generalize hS1 : withS s ⟨hp0, m, true⟩ = s1 at *
 have hdl1 : s1.doors = s.doors := by rw [<- hS1]; rfl
 have hhl1 : s1.hampers = s.hampers := by rw [<- hS1]; rfl
 clear hS1 hP
 rw [<- hsp] at vsb8
 rw [<- hdl1] at hs8 vsb8
 rw [<- hhl1] at hs8 vsb8
 subst hvn
 have hsp5 : s1.places <= 5 := by rw [hsp]; exact hp5
 clear ok hp5 hnl hil hr12 hd1 hh1 hsp hdl1 hhl1 hil' hr12' hnl4 m0 m12
 replace hex1 : Aqk _ := hex1
 replace htr1 : Aqk _ := htr1
 refine Bk5 (fun e => e 3 = .pointer (some ⟨tb, 0, none⟩) /\ e 4 = .pointer (some ⟨sb, 0, none⟩)) ⟨e3, e4⟩ ?_
 clear e3 e4 e5 e6 e
 rintro e ⟨e3, e4⟩
 have hn4 := ok1.nl
 have hd6 := ok1.dl
 have hh3 := ok1.h1
 generalize hda : s1.doors.length = dn at *
 generalize hha : s1.hampers.length = hn at *
 replace hda : Aqk _ := hda
 replace hha : Aqk _ := hha
 (refine @unH _ (zA y5_164 ?_); (repeat refine inC fun hc => ?_); try refine inK fun K hK => ?_)
 refine Axe (fun w a' H' => ∃ e, ∃ j : Nat, ∃ q : Int, w = s1.noses.length - j /\ j <= s1.noses.length /\ a' = act 152 e [] /\ e 3 = .pointer (some ⟨tb, 0, none⟩) /\ e 4 = .pointer (some ⟨sb, 0, none⟩) /\ e 8 = .int .i64 q /\ e 9 = .int .i64 (j : Nat) /\ 0 <= q /\ q <= 12 /\ Aqk (∀ (k : Nat) (x : Ns), k < j -> s1.noses[k]? = some x -> x.hr <= q) /\ H' = H8) (n := s1.noses.length) ?_ ?_
 ·exact ⟨_, 0, 0, by omega, by omega, rfl, e3, e4, rfl, rfl, by omega, by omega, fun k x hk _ => by omega, rfl⟩
 clear e3 e4 e
 rintro w a' H' ⟨e, j, q, rfl, hj, rfl, e3, e4, e8, e9, q0, q12, hq, hHQ⟩
 rw [hHQ]
 clear hHQ H'
 by_cases hlj : j < s1.noses.length
 ·have hlj' : (j : Int) < s1.noses.length := by omega
  have hkd := List.getElem?_eq_getElem hlj
  obtain ⟨db, dof, dp, dcl, dfr, hdae, hdb, hdsz, -, hdext⟩ := SlG.get hs8.nn (i := j) (r := Bj4 s1.noses[j]) (by rw [List.getElem?_map, hkd]; rfl)
  have hc1 := Bzb (k := 1) hdext hdsz rfl
  have hnk := ok1.nk _ (List.mem_of_getElem? hkd)
  subst hdae
  obtain ⟨q', hq', hqq⟩ : ∃ q' : Int, (if q < s1.noses[j].hr then s1.noses[j].hr else q) = q' /\ q <= q' /\ s1.noses[j].hr <= q' /\ q' <= 12 := ⟨_, rfl, by have := hnk.h1; split <;> omega⟩
  replace hkd : Aqk _ := hkd
  have hend : ∀ (k : Nat) (x : Ns), k < j + 1 -> s1.noses[k]? = some x -> x.hr <= q' := fun k x hk hx => by
   by_cases hkj : k = j
   ·subst hkj
    rw [show s1.noses[k]? = _ from hkd] at hx
    cases hx
    exact hqq.2.1
   ·exact Int.le_trans ((show ∀ (k : Nat) (x : Ns), _ from hq) k x (by omega) hx) hqq.1
  replace hend : Aqk _ := hend
  generalize s1.noses[j].hr = y at *
  clear hdext hnk
  (refine @unH _ (zA y5_164 ?_); (repeat refine inC fun hc => ?_); try refine inK fun K hK => ?_)
  exact ⟨s1.noses.length - (j + 1), by omega, _, j + 1, q', rfl, by omega, rfl, e3, e4, rfl, rfl, by omega, by omega, hend, trivial⟩
 have hlj' : ¬ (j : Int) < s1.noses.length := by omega
 obtain rfl : j = s1.noses.length := by omega
 have hlast : ∀ x ∈ s1.noses, x.hr <= q := fun x hx => by
  obtain ⟨k, hk⟩ := List.getElem?_of_mem hx
  exact (show ∀ (k : Nat) (x : Ns), _ from hq) k x (List.getElem?_eq_some_iff.1 hk).1 hk
 replace hlast : Aqk _ := hlast
 clear hq hlj hj
 have hKs := keepSmell_spec (.wg Tryz.prog) H8 s1 (.slice da dn dc) (.slice (some ⟨hb, ho, none⟩) hn kc) _ hs8 (by have h : s1.doors.length = dn := hda; omega) (by have h : s1.hampers.length = hn := hha; omega) (by omega)
 replace hKs : Aqk _ := hKs
 (refine @unH _ (zA y5_164 ?_); (repeat refine inC fun hc => ?_); try refine inK fun K hK => ?_)
 refine (show FnX _ _ _ _ _ _ from hKs).runs.mono ?_
 clear hKs
 rintro _ H9 ⟨xd, xh, xn, rfl, hx9, l89⟩
 have hda' : s1.doors.length = dn := hda
 have hha' : s1.hampers.length = hn := hha
 obtain ⟨xa, xc, ya, yc, za, zc, rfl, rfl, rfl, -, -, -⟩ := hx9.smIn.forms
 rw [hda', hha'] at *
 have vsb9 := l89 _ _ vsb8
 have hT9 := hT8.le l89
 have hm0 : (12 : Int) - q < 36028797018963967 := by omega
 replace hx9 : Aqk _ := hx9
 clear hlj' e9
 ((try refine @unH _ (zX y5_164 ?_)); (try (refine hK _ _ ?_; clear hK K; try refine @unH _ (zQ ?_))); refine @unH _ (zA y5_164 ?_); (repeat refine inC fun hc => ?_); try refine inK fun K hK => ?_)
 refine (Bj6 _ H9 tb 178 (12 - q) hm0 hT9).runs.mono ?_
 rintro _ H10 ⟨more, more0, more12, rfl, x10, hT10⟩
 have hmq : more + q <= 12 := by omega
 have hx10 := SmRow.lexT (show SmRow H8 H9 _ _ _ s1 from hx9) hT9 x10
 have x810 := (Lex.of l89).trans x10
 have vsb10 := x10.keeps vsb9 hsn
 clear hx9 hT9 x10 l89 vsb9 more12 hm0
 replace hx10 : Aqk _ := hx10
 ((try refine @unH _ (zX y5_164 ?_)); (try (refine hK _ _ ?_; clear hK K; try refine @unH _ (zQ ?_))); refine @unH _ (zA y5_164 ?_); (repeat refine inC fun hc => ?_); try refine inK fun K hK => ?_)
 (intro xb hxb; generalize hG : Hp.set _ xb _ = H11; have lH11 := Aqc hG hxb; have vxb := Aqb hG; clear hG)
 have hx11 := SmRow.le (show SmRow H8 H10 _ _ _ s1 from hx10) lH11
 have x811 := x810.trans (Lex.of lH11)
 have hnn := hx11.nw
 have hxt := hT10.ne hxb
 have hi0 : Lex (some tb) H8 H11 /\ H11 xb = some (true, smO s1.places (.slice xa dn xc) (.slice ya hn yc) (.slice za s1.noses.length zc)) /\ RowG 60 4 H11 (.slice xa dn xc) (s1.doors.map Bj0) /\ RowG 3 1 H11 (.slice ya hn yc) (int1 s1.hampers) /\ RowG 53 3 H11 (.slice za s1.noses.length zc) (mixT Bj4 (fun x => Bj4 (lateN more x)) s1.noses 0) := ⟨x811, vxb, hx11.dd, hx11.hh, by rw [mixT_0]; exact hx11.nn⟩
 clear hx10 hx11 x810 x811 lH11 hT10 vxb vsb10 hxb
 replace hi0 : Aqk _ := hi0
 replace hnn : Aqk _ := hnn
 refine hK _ _ ?_
 clear hK K
 (try refine @unH _ (zQ ?_))
 refine Bk5 (fun e => e 4 = .pointer (some ⟨sb, 0, none⟩) /\ e 10 = .pointer (some ⟨xb, 0, none⟩) /\ e 11 = .int .i64 more) ⟨e4, rfl, rfl⟩ ?_
 clear e3 e4 e8 e
 rintro e ⟨e4, e10, e11⟩
 (refine @unH _ (zA y5_164 ?_); (repeat refine inC fun hc => ?_); try refine inK fun K hK => ?_)
 refine Axe (fun w a' H' => ∃ e, ∃ j : Nat, w = s1.noses.length - j /\ j <= s1.noses.length /\ a' = act 152 e [] /\ e 4 = .pointer (some ⟨sb, 0, none⟩) /\ e 10 = .pointer (some ⟨xb, 0, none⟩) /\ e 11 = .int .i64 more /\ e 12 = .int .i64 (j : Nat) /\ Lex (some tb) H8 H' /\ H' xb = some (true, smO s1.places (.slice xa dn xc) (.slice ya hn yc) (.slice za s1.noses.length zc)) /\ RowG 60 4 H' (.slice xa dn xc) (s1.doors.map Bj0) /\ RowG 3 1 H' (.slice ya hn yc) (int1 s1.hampers) /\ RowG 53 3 H' (.slice za s1.noses.length zc) (mixT Bj4 (fun x => Bj4 (lateN more x)) s1.noses j)) (n := s1.noses.length) ?_ ?_
 ·exact ⟨_, 0, by omega, by omega, rfl, e4, e10, e11, rfl, hi0⟩
 clear e4 e10 e11 e hi0
 rintro w a' H12 ⟨e, j, rfl, hj, rfl, e4, e10, e11, e12, x12, vxb12, hD, hH, hN⟩
 have vsb12 := x12.keeps vsb8 hsn
 by_cases hlj : j < s1.noses.length
 ·have hlj' : (j : Int) < s1.noses.length := by omega
  have hkd := List.getElem?_eq_getElem hlj
  obtain ⟨xdb, xcl, xdc, hxe, hxdb, hxdc, hxsz⟩ := hN.ex (i := j) (by rw [mixT_len]; exact hlj)
  rw [mixT_len] at hxe hxdc
  have hx8 : H8 xdb = none := (show ∀ x, _ from hnn) xdb (by rw [hxe]; rfl)
  cases hxe
  obtain ⟨db, dof, dp, dcl, dfr, hdae, hdb8, hdsz, -, hdext⟩ := SlG.get hs8.nn (i := j) (r := Bj4 s1.noses[j]) (by rw [List.getElem?_map, hkd]; rfl)
  have hrow := mixT_get Bj4 (fun x => Bj4 (lateN more x)) hkd
  have hset := mixT_set Bj4 (fun x => Bj4 (lateN more x)) hkd
  have hc1 := Bzb (k := 1) hdext hdsz rfl
  have hnk := ok1.nk _ (List.mem_of_getElem? hkd)
  have hnh := hnk.h0
  have hnh1 := hnk.h1
  have hdb2 := x12.keeps hdb8 (hT8.off hdb8 (by decide))
  have nds : xdb ≠ sb := fun e => by rw [e, vsb12] at hxdb; cases hxdb
  have ndx : xdb ≠ xb := fun e => by rw [e, vxb12] at hxdb; cases hxdb
  have ndd : xdb ≠ db := fun e => by rw [e, hdb8] at hx8; cases hx8
  subst hdae
  clear hkd hdb8 hdext hnk
  generalize s1.noses[j] = d at *
  replace hrow : Aqk _ := hrow
  replace hset : Aqk _ := hset
  replace hD : Aqk _ := hD
  replace hH : Aqk _ := hH
  replace hN : Aqk _ := hN
  (refine @unH _ (zA y5_164 ?_); (repeat refine inC fun hc => ?_); try refine inK fun K hK => ?_)
  refine Axn (fun HX => HX sb = some (true, smO s1.places (.slice da dn dc) (.slice (some ⟨hb, ho, none⟩) hn kc) (.slice (some ⟨db, dof, none⟩) s1.noses.length vc)) /\ HX xb = some (true, smO s1.places (.slice xa dn xc) (.slice ya hn yc) (.slice (some ⟨xdb, 0, none⟩) s1.noses.length zc)) /\ HX db = some (dp, .cells dcl 53 dfr)) [13] (.free 0 (.take 1 (.free 2 (.free 3 (.take 4 (.free 5 (.free 6 (.free 7 (.take 8 (.free 9 (.free 10 (.free 11 (.free 12 (.one 13 .nil)))))))))))))) (by kernel_rfl) (by kernel_rfl) (by decide) (by kernel_rfl) ?_; intro K hK
  refine Ax9 fun ops hOz => ?_
  have hSS := And.intro vsb12 (And.intro vxb12 hdb2)
  (refine @unH _ ?_; refine zF y5_164 ?_)
  (refine @unH _ ?_; refine zK (And.intro y5_164 @exists_eq_left'.{1}) ?_)
  (iterate 2 (refine @unH _ ?_; refine zF y5_164 ?_))
  (refine @unH _ ?_; refine zK (And.intro y5_164 @exists_eq_left'.{1}) ?_)
  (iterate 3 (refine @unH _ ?_; refine zF y5_164 ?_))
  (refine @unH _ ?_; refine zK (And.intro y5_164 @exists_eq_left'.{1}) ?_)
  (iterate 4 (refine @unH _ ?_; refine zF y5_164 ?_))
  clear hSS
  (refine @unH _ ?_; refine zM y5_164 ?_)
  refine ⟨.inl (by decide), ?_⟩
  (refine Ajg (hK _ _ ?_); clear hK K; (try simp only [nq, ↓reduceIte, Nat.reduceEqDiff]))
  (refine @unH _ (zA y5_164 ?_); (repeat refine inC fun hc => ?_); try refine inK fun K hK => ?_)
  have r2 := RowG.put1 (by decide) (show RowG _ _ H12 _ _ from hN) hxdb hrow (k := 1) (by decide) (.int .i64 (d.hr + more))
  rw [show (Bj4 d).set 1 (.int .i64 (d.hr + more)) = Bj4 (lateN more d) from rfl, show List.set _ j _ = _ from hset] at r2
  generalize hG : Hp.set H12 xdb _ = H13 at r2 ⊢
  exact ⟨s1.noses.length - (j + 1), by omega, _, j + 1, rfl, by omega, rfl, e4, e10, e11, rfl, hG ▸ x12.own hx8, by rw [<- hG, Aqw (Ne.symm ndx)]; exact vxb12, hG ▸ RowG.put (show RowG _ _ H12 _ _ from hD) hxdb (by decide) _, hG ▸ RowG.put (show RowG _ _ H12 _ _ from hH) hxdb (by decide) _, r2⟩
 have hlj' : ¬ (j : Int) < s1.noses.length := by omega
 obtain rfl : j = s1.noses.length := by omega
 have hlast' : ∀ x ∈ s1.noses, x.hr + more <= 12 := fun x hx => by
  have := (show ∀ x ∈ s1.noses, x.hr <= q from hlast) x hx
  omega
 have okx := lateS_ok ok1 more0 hlast'
 have hcnt := late_count ok1 more0 hlast' hex1
 have htr1' : Tr s1 i hr ts := htr1
 have hns : Aza s1 ≠ 0 := (Cz1 ok1).2 ⟨_, _, _, htr1'⟩
 have hnx : Aza (lateS s1 more) ≠ 0 := by omega
 have hs12 := hs8.lexT hT8 x12
 have hx12 : SmIn H12 (.slice xa dn xc) (.slice ya hn yc) (.slice za s1.noses.length zc) (lateS s1 more) := ⟨hD.slG (by decide), SlG.ints1 (hH.slG (by decide)), by
  have h := hN.slG (by decide)
  rw [mixT_end _ _ _ (Nat.le_refl _)] at h
  show SlG _ _ _ _ ((s1.noses.map (lateN more)).map Bj4)
  rw [List.map_map]
  exact h⟩
 have hsub : ∀ x, x ∈ Ayz (Cj4 (susp s1)) -> x ∈ Ayz (Cj4 (susp (lateS s1 more))) := fun x hx => by
  obtain ⟨h0, b, ts', ht⟩ := (suspects_mem ok1).1 hx
  exact (suspects_mem okx).2 ⟨h0, _, _, late_tr ok1 more0 hlast' hex1 ht⟩
 have hl1 : (Ayz (Cj4 (susp s1))).length <= 6 := Cki _ _
 have hl2 : (Ayz (Cj4 (susp (lateS s1 more)))).length <= 6 := Cki _ _
 have hC1 := Cxh H12 s1 _ _ _ hs12 ok1
 have hC2 := fun H (l : H12.le H) => Cxh H (lateS s1 more) _ _ _ (hx12.le l) okx
 have hS1 := fun H (l : H12.le H) => sSuspects_spec H s1 _ _ _ (hs12.le l) ok1
 have hS2 := fun H (l : H12.le H) => sSuspects_spec H (lateS s1 more) _ _ _ (hx12.le l) okx
 simp only [if_neg hns] at hS1
 simp only [if_neg hnx] at hS2
 have k1 : ¬ ((Aza s1 : Nat) : Int) < 1 := by omega
 have k2 : ¬ ((Aza (lateS s1 more) : Nat) : Int) < (Aza s1 : Nat) := by omega
 have hxp : (lateS s1 more).places = s1.places := rfl
 clear hlast hlast' okx hcnt htr1 htr1' hns hnx hs12 hx12 hD hH hN hnn hex1 ok1 hs8 hT8 x12 hj hlj vsb8 hsn hxt hda hha hda' hha'
 generalize Aza s1 = n1 at *
 generalize Ayz (Cj4 (susp s1)) = L1 at *
 generalize lateS s1 more = x at *
 rw [hxp] at hC2
 simp only [hxp] at hS2
 generalize Aza x = nx at *
 generalize Ayz (Cj4 (susp x)) = L2 at *
 clear hxp
 replace hC1 : Aqk _ := hC1
 replace hC2 : Aqk _ := hC2
 replace hS1 : Aqk _ := hS1
 replace hS2 : Aqk _ := hS2
 replace hsub : Aqk _ := hsub
 replace hl1 : Aqk _ := hl1
 replace hl2 : Aqk _ := hl2
 (refine @unH _ (zA y5_164 ?_); (repeat refine inC fun hc => ?_); try refine inK fun K hK => ?_)
 clear hlj'
 refine (show FnX _ _ _ _ _ _ from hC1).runs.mono ?_
 rintro _ H13 ⟨rfl, l13⟩
 have vxb13 := l13 _ _ vxb12
 ((try refine @unH _ (zX y5_164 ?_)); (try (refine hK _ _ ?_; clear hK K; try refine @unH _ (zQ ?_))); refine @unH _ (zA y5_164 ?_); (repeat refine inC fun hc => ?_); try refine inK fun K hK => ?_)
 refine ((show ∀ H, _ -> _ from hC2) H13 l13).runs.mono ?_
 rintro _ H14 ⟨rfl, l14⟩
 have l14' := Hp.le_trans l13 l14
 have vsb14 := l14' _ _ vsb12
 clear hC1 hC2 l13 l14 vxb13
 ((try refine @unH _ (zX y5_164 ?_)); (try (refine hK _ _ ?_; clear hK K; try refine @unH _ (zQ ?_))); refine @unH _ (zA y5_164 ?_); (repeat refine inC fun hc => ?_); try refine inK fun K hK => ?_)
 refine ((show ∀ H, _ -> _ from hS1) H14 l14').runs.mono ?_
 rintro _ H15 ⟨v1, rfl, hv1, l15⟩
 have l15' := Hp.le_trans l14' l15
 have vxb15 := l15' _ _ vxb12
 obtain ⟨a1, c1, rfl, _⟩ : ∃ a1 c1, v1 = .slice a1 L1.length c1 /\ True := by
  obtain ⟨a1, c1, h, _⟩ := hv1
  exact ⟨a1, c1, h, trivial⟩
 replace hv1 : Aqk _ := hv1
 clear hS1 l14' l15 vsb14
 ((try refine @unH _ (zX y5_164 ?_)); (try (refine hK _ _ ?_; clear hK K; try refine @unH _ (zQ ?_))); refine @unH _ (zA y5_164 ?_); (repeat refine inC fun hc => ?_); try refine inK fun K hK => ?_)
 refine ((show ∀ H, _ -> _ from hS2) H15 l15').runs.mono ?_
 rintro _ H16 ⟨v2, rfl, hv2, l16⟩
 have hv1' : SlI H16 (.slice a1 L1.length c1) L1 := SlI.le (show SlI H15 _ L1 from hv1) l16
 have hl2' : L2.length <= 6 := hl2
 have hAt := fun n => atI_spec (.wg Tryz.prog) H16 v2 L2 n hv2 (by omega)
 clear hS2 l15' vxb15 hv1 hl2' hv2 l16 hl2
 replace hAt : Aqk _ := hAt
 replace hv1' : Aqk _ := hv1'
 ((try refine @unH _ (zX y5_164 ?_)); (try (refine hK _ _ ?_; clear hK K; try refine @unH _ (zQ ?_))); refine @unH _ (zS y5_164 ?_); (repeat refine inC fun hc => ?_); try refine inK fun K hK => ?_)
 refine Bk5 (fun e => e 13 = .int .i64 (n1 : Nat) /\ e 14 = .int .i64 0 /\ e 15 = .int .i64 (nx : Nat) /\ e 16 = .int .i64 0 /\ e 17 = .slice a1 L1.length c1 /\ e 19 = v2 /\ e 18 = .int .i64 0 /\ e 20 = .int .i64 0) ⟨rfl, rfl, rfl, rfl, rfl, rfl, rfl, rfl⟩ ?_
 clear e4 e10 e11 e12 e
 rintro e ⟨e13, e14, e15, e16, e17, e19, e18, e20⟩
 refine Axq (Axq (wpX_rz 23 (by rfl) ?_))
 intro K hK ops hOz
 (iterate 23 (refine @unH _ ?_; refine zR y5_164 ?_))
 (refine RZ_nil ?_; refine hK _ _ ?_; clear hK K; (try simp only [nq, ↓reduceIte, Nat.reduceEqDiff]))
 clear hOz
 refine Bk5 (fun e => e 17 = .slice a1 L1.length c1 /\ e 19 = v2 /\ e 137 = .bool false) ⟨e17, e19, rfl⟩ ?_
 clear e13 e14 e15 e16 e17 e18 e19 e20 e
 rintro e ⟨e17, e19, e137⟩
 (refine @unH _ (zA y5_164 ?_); (repeat refine inC fun hc => ?_); try refine inK fun K hK => ?_)
 refine Axe (fun w a' H' => ∃ e, ∃ p : Nat, w = L1.length - p /\ p <= L1.length /\ a' = act 152 e [] /\ e 17 = .slice a1 L1.length c1 /\ e 19 = v2 /\ e 21 = .int .i64 (p : Nat) /\ H' = H16) (n := L1.length) ?_ ?_
 ·exact ⟨_, 0, by omega, by omega, rfl, e17, e19, rfl, rfl⟩
 clear e17 e19 e137 e
 rintro w a' H' ⟨e, p, rfl, hp, rfl, e17, e19, e21, hHQ⟩
 rw [hHQ]
 clear hHQ H'
 by_cases hlt : p < L1.length
 ·have hlt' : (p : Int) < L1.length := by omega
  have hp6 : p < 6 := by have h : L1.length <= 6 := hl1; omega
  have hkd := List.getElem?_eq_getElem hlt
  obtain ⟨db, dof, dp, dcl, dfr, hae, hdb, hdc⟩ := SlI.get (show SlI H16 (.slice a1 L1.length c1) L1 from hv1') hkd
  have hmem := (show ∀ x, x ∈ L1 -> x ∈ L2 from hsub) _ (List.mem_of_getElem? hkd)
  have hA := (show ∀ n : Int, _ from hAt) L1[p]
  generalize L1[p] = y at *
  subst hae
  clear hkd
  replace hA : Aqk _ := hA
  replace hmem : Aqk _ := hmem
  (refine @unH _ (zA y5_164 ?_); (repeat refine inC fun hc => ?_); try refine inK fun K hK => ?_)
  refine (show FnX _ _ _ _ _ _ from hA).runs.mono ?_
  rintro _ HQ ⟨hQ, r, rfl, hrr⟩
  rw [hQ]
  clear hQ HQ hA
  have hr0 : ¬ r < 0 := by
   rcases hrr with ⟨_, h⟩ | ⟨k, rfl, _⟩
   ·exact absurd (show y ∈ L2 from hmem) h
   ·omega
  clear hrr hmem
  ((try refine @unH _ (zX y5_164 ?_)); (try (refine hK _ _ ?_; clear hK K; try refine @unH _ (zQ ?_))); refine @unH _ (zA y5_164 ?_); (repeat refine inC fun hc => ?_); try refine inK fun K hK => ?_)
  exact ⟨L1.length - (p + 1), by omega, _, p + 1, rfl, by omega, rfl, e17, e19, rfl, trivial⟩
 ·have hlt' : ¬ (p : Int) < L1.length := by omega
  (refine @unH _ (zA y5_164 ?_); (repeat refine inC fun hc => ?_); try refine inK fun K hK => ?_)
  refine (smelled_spec H16).runs.mono ?_
  rintro _ H17 ⟨rfl, l17⟩
  ((try refine @unH _ (zX y5_164 ?_)); (try (refine hK _ _ ?_; clear hK K; try refine @unH _ (zQ ?_))); refine @unH _ (zA y5_164 ?_); (repeat refine inC fun hc => ?_); try refine inK fun K hK => ?_)
  (refine Axt ?_; (try simp only [nq, ↓reduceIte, Nat.reduceEqDiff]); rw [Aq7, Ay3 Tryz.results5 (by decide)]; simp only [Axk, Nat.reduceEqDiff, ↓reduceIte])
end Go.Proofs.YtkenloilljeliaaGreatDoor
end
section
namespace Go.Proofs.YtkenloilljeliaaGreatDoor
open Go Go.X Go.ChangeShapes Go.WideShapes Go.RowKit
set_option maxRecDepth 100000 in
theorem law_lifted (os : Os) (started : os.Started) (H : Type) (enc : TypeId × Value -> H) :
  ReturnsInLeavingWide {} Tryz.checked os 5 .any (fun w args => (Rows.smellLaterSpec.pre enc Tryz.prog Tryz.f5 [] false w args /\ laidMetH Tryz.prog [("errors.errorType", Rows.laid_errors_errorType)] w) /\ sizedMet enc Tryz.prog Tryz.f5 (OpenSpec.ofChange Rows.smellLaterSpec) false w args)
   (Rows.smellLaterSpec.post enc Tryz.prog Tryz.f5 false true false false) := by
 refine leaving_of_change_and (C := Tryz.checked) (X := fun w _ => laidMetH Tryz.prog [("errors.errorType", Rows.laid_errors_errorType)] w) (fun _ _ _ hh h => h.of_heap hh) ownK started Tryz.func5
  (ChangeSpec.witness_at (enc := enc) (C := Tryz.checked) (os := os) (X := fun w _ => laidMetH Tryz.prog [("errors.errorType", Rows.laid_errors_errorType)] w) false (laidWorld os) #[.slice none 0 0] 8 rfl (by kernel_rfl) (by kernel_rfl) (by kernel_rfl) (by kernel_rfl) (by kernel_rfl) (laidWorld_met os _)) ?_
 intro W base args ds gs before hval0 hW hL
 have hval : ∀ (j : Nat) t v, Tryz.f5.params[j]? = some t -> args[j]? = some v -> Value.okWide Tryz.prog W .any base t v := hval0
 have hW' := hW
 obtain ⟨p, q, hA0, hV0, rfl, hfz, hnd⟩ := hW
 have hA : DataW.TrodAll enc Tryz.prog W 0 (fun _ => true) true Tryz.f5.params.toList args.toList ds p := hA0
 have hV : DataW.TrodVars enc Tryz.prog W (fun _ => true) [] gs q := hV0
 rw [Tryz.params5] at hA hval
 obtain ⟨v0, d0, rfl, rfl, h0⟩ := trodAll_one hA
 obtain ⟨a0, len, cap, rfl⟩ := okWide_slice Tryz.underlying22 (hval 0 22 v0 rfl rfl)
 have h0k := h0
 obtain ⟨fuel, hf⟩ := h0
 obtain ⟨rfl, rfl⟩ : gs = [] /\ q = [] := by
  cases gs with
  | nil => exact ⟨rfl, hV⟩
  | cons g r => exact absurd hV (by intro h; cases h)
 have e1 : Rows.smellLaterSpec.fn H ([d0] ++ []) = { results := [.lit (.bool true)], args := [d0] } := by simp [Rows.smellLaterSpec]
 have hcells : ∀ i : Nat, i < len -> ∃ sb so c e fr x, a0 = some ⟨sb, so, none⟩ /\ Bqf W sb = some (false, .cells c e fr) /\ c[so + i]? = some (.int .i64 x) := by
  rcases open_ints Tryz.underlying22 Tryz.underlying3 cellsK hf with ⟨hcs, _⟩ | ⟨a, len', cap', zs, hcs, _, hl, hm, hz, hx, hcell, hwz⟩
  ·simp [Value.cells] at hcs
   intro i hi
   omega
  ·simp [Value.cells] at hcs
   obtain ⟨rfl, rfl, rfl⟩ := hcs
   intro i hi
   simp only [if_true] at hz
   have hc := hcell i (by omega)
   obtain ⟨b, off, spot⟩ := a
   have hspot : spot = none := by simpa [Addr.add] using World.cell?_spot (hcell 0 (by omega))
   subst hspot
   rw [add_plain] at hc
   unfold World.cell? at hc
   split at hc
   ·rename_i c e fr hb
    exact ⟨b, off, c, e, fr, _, rfl, by simp [Bqf, hb], by simpa using hc⟩
   ·cases hc
 have hlt : ∀ x ∈ p, x.block < W.heap.size := fun x hx => by simpa using hW'.lt x (by simpa using hx)
 obtain ⟨N, last, o, w', t', r1, r2, r3, v, hv, ⟨rfl, hB⟩, r4⟩ := (lslater_spec (Bqf W) a0 len cap hcells).goodW Tryz.func5 (results_tmp Tryz.results5 _) (by kernel_rfl)
 refine ⟨N, last, o, w', t', r1, r2, r3, _, hv, ?_, r4⟩
 have hb := hB.below
 refine ⟨_, _, _, [], p, [], hW', ?_, ?_, ?_, hB.kept _, fun h => by cases h⟩
 ·rw [e1]; exact trodAll_mk1 (shut_bool Tryz.underlying4 true)
 ·rw [e1]
  have t := trodAll_mk1 (DataW.Trod.of_heap (w := { w' with tape := W.tape }) (w' := w') rfl (Below.trod laidOutK (by kernel_rfl) (of_decide_eq_true (by kernel_rfl)) h0k hb hlt))
  exact t
 ·rw [e1]; rfl
end Go.Proofs.YtkenloilljeliaaGreatDoor
end
section
namespace Go.Proofs.YtkenloilljeliaaGreatDoor
open Go Go.X Go.ChangeShapes Go.WideShapes Go.RowKit
theorem jEnter : Program.mayEnter Tryz.pinned.checked.prog = true := factEnter
theorem jLift : (Rows.smellLaterRow.lifted == Program.liftsFinal Tryz.pinned.checked.prog) = true := by rw [show Program.liftsFinal Tryz.pinned.checked.prog = Rows.smellLaterRow.lifted from factLift]; exact beq_self_eq_true _
theorem jMake : (Program.make Tryz.pinned.checked.prog == some Rows.smellLaterRow.make) = true := by rw [show Program.make Tryz.pinned.checked.prog = some Rows.smellLaterRow.make from factMake]; exact beq_self_eq_true _
set_option maxRecDepth 100000 in
theorem jf : joinedFacts Tryz.pinned.checked.prog 5 Tryz.f5 Rows.smellLaterSpec Rows.smellLaterRow = true := by
 unfold joinedFacts
 simp only [jEnter, jLift, jMake, Bool.and_true]
 kernel_rfl
set_option maxRecDepth 100000 in
theorem smellLater_said : Rows.SmellLaterSaid :=
 OpenClaim.holds_of_wide_leaving 5 Tryz.f5 rfl rfl rfl rfl rfl rfl rfl ⟨rfl, rfl, rfl, rfl, rfl⟩ rfl rfl rfl rfl rfl (by kernel_rfl) Tryz.func5 jf
  (of_decide_eq_true (by kernel_rfl)) (by unfold Func.isWrapper; rw [if_neg (of_decide_eq_false (by kernel_rfl))]; exact ⟨rfl, rfl⟩)
  (fun os started H enc _ => law_lifted os started H enc)
end Go.Proofs.YtkenloilljeliaaGreatDoor
end
