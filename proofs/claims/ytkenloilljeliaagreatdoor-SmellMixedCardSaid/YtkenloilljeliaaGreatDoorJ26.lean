/- Texts LSMixed PSmellMixed SSmellMixed. -/
import Derived.Test.YtkenloilljeliaaGreatDoorJ25
import Derived.Test.YtkenloilljeliaaGreatDoorAFactA
import Derived.Test.YtkenloilljeliaaGreatDoorAFactSB
import Derived.Test.YtkenloilljeliaaGreatDoorAFactSC
set_option linter.defProp false
set_option linter.unusedSimpArgs false
set_option linter.unusedVariables false
set_option maxRecDepth 100000
set_option maxHeartbeats 2000000
section
namespace Go.Proofs.YtkenloilljeliaaGreatDoor
open Go Go.X
def y6_160 := And.intro @callF10 (And.intro @callF9 (And.intro (fun H => Aqv (H := H) (P := Tryz.prog) (h := Tryz.zeroValue26)) (And.intro (fun H => Aqr (H := H) Tryz.sizeOf26) (And.intro (fun H => Aqd (H := H) Tryz.underlying26 (i := 0) rfl (off := 0) rfl Tryz.sizeOf3) (And.intro (fun H => Aqf (H := H) Tryz.underlying3 rfl) (And.intro @Djg (And.intro (fun H => Aqp (H := H) Tryz.underlying26 rfl Tryz.sizeOf26) (And.intro @callF23 (And.intro (fun H => Aqd (H := H) Tryz.underlying26 (i := 1) rfl (off := 1) rfl Tryz.sizeOf23) (And.intro (fun H => Aqf (H := H) Tryz.underlying23 rfl) (And.intro (fun H => Aq6 (H := H) Tryz.underlying23) (And.intro (fun H => Aqu (H := H) Tryz.underlying23 Tryz.sizeOf60) (And.intro (fun H => Aqd (H := H) Tryz.underlying60 (i := 1) rfl (off := 1) rfl Tryz.sizeOf3) (And.intro (fun H => Aqu (H := H) Tryz.underlying22 Tryz.sizeOf3) (And.intro (fun H => Aqd (H := H) Tryz.underlying60 (i := 0) rfl (off := 0) rfl Tryz.sizeOf3) (And.intro (fun H => Axc (H := H) Tryz.sizeOf3) (And.intro (fun H => Aqd (H := H) Tryz.underlying26 (i := 2) rfl (off := 2) rfl Tryz.sizeOf22) (And.intro (fun H => Aqf (H := H) Tryz.underlying22 rfl) (And.intro (fun H => Aq6 (H := H) Tryz.underlying22) (And.intro (fun H => Aqd (H := H) Tryz.underlying26 (i := 3) rfl (off := 3) rfl Tryz.sizeOf24) (And.intro (fun H => Aqf (H := H) Tryz.underlying24 rfl) (And.intro (fun H => Aq6 (H := H) Tryz.underlying24) (And.intro (fun H => Aqu (H := H) Tryz.underlying24 Tryz.sizeOf53) (And.intro (fun H => Aqd (H := H) Tryz.underlying53 (i := 0) rfl (off := 0) rfl Tryz.sizeOf3) (And.intro @Djc (And.intro @callF24 (And.intro @Djb (And.intro @Djd (And.intro @Dje (And.intro (fun H => Aqv (H := H) (P := Tryz.prog) (h := Tryz.zeroValue45)) (And.intro (fun H => Aqr (H := H) Tryz.sizeOf45) (And.intro (fun H => Aqp (H := H) Tryz.underlying45 rfl Tryz.sizeOf45) @callF16))))))))))))))))))))))))))))))))
def int1r (x : Int) : List Value := [.int .i64 x]
theorem wro_len {s : Sm} (ok : SmOk s) : (wroF s).length <= 1000 := by
 unfold wroF
 cases h : (Bqs s.noses.length).find? fun l => decide (0 < Aza (woS s l)) with
 | none => simp
 | some l =>
  have h1 := (Dxr ok.nl (List.mem_of_find?_eq_some h)).1
  have h2 := ok.nl
  simp only [Option.getD_some]
  omega
theorem lsmixed_spec (H : Hp) (sa : Option Addr) (sl sc : Nat) (hs : ∀ i : Nat, i < sl -> ∃ sb so c e fr x, sa = some ⟨sb, so, none⟩ /\ H sb = some (false, .cells c e fr) /\ c[so + i]? = some (.int .i64 x)) :
  FnX Tryz.prog (.wg Tryz.prog) 6 #[.slice sa sl sc] H fun e _ => e = .returned (.bool true) := by
 refine Aqm Tryz.func6 rfl Tryz.ntmps6 (by simp) ?_
 (refine @unH _ (zA y6_160 ?_); (repeat refine inC fun hc => ?_); try refine inK fun K hK => ?_)
 refine (newTin_spec _ H sa sl sc hs 240 (by omega)).runs.mono ?_
 rintro _ H1 ⟨tb, rfl, l1, hT⟩
 ((try refine @unH _ (zX y6_160 ?_)); (try (refine hK _ _ ?_; clear hK K; try refine @unH _ (zQ ?_))); refine @unH _ (zA y6_160 ?_); (repeat refine inC fun hc => ?_); try refine inK fun K hK => ?_)
 refine (smellOf_spec _ H1 tb 180 4 false (by omega) (by omega) hT).runs.mono ?_
 rintro _ H2 ⟨s, dv, hv, nv, cv, i, hr, ts, rfl, hs2, ok, hp5, hdl, hnl, hil, hr12, htk, hcv, htr, lex2, hT2, -⟩
 clear hT hs l1 lex2
 obtain ⟨da, dc, ha, kc, na, nc, rfl, rfl, rfl, l1, l2, l3⟩ := hs2.forms
 ((try refine @unH _ (zX y6_160 ?_)); (try (refine hK _ _ ?_; clear hK K; try refine @unH _ (zQ ?_))); refine @unH _ (zA y6_160 ?_); (repeat refine inC fun hc => ?_); try refine inK fun K hK => ?_)
 (intro sb hsb; generalize hG : Hp.set _ sb _ = H3; have lH3 := Aqc hG hsb; have vsb := Aqb hG; clear hG)
 have hs3 := hs2.le lH3
 have hT3 := hT2.le lH3
 have hsn := hT2.ne hsb
 have hh1 := ok.h1
 have hd1 := ok.dl
 have hp0 := ok.p0
 obtain ⟨n, hn⟩ : ∃ n : Nat, (n : Int) = s.places := ⟨s.places.toNat, by omega⟩
 have hn5 : n <= 5 := by omega
 rw [<- hn] at vsb ⊢
 replace hn : Aqk _ := hn
 clear hs2 lH3 hsb hT2 hcv htk htr hdl
 ((try refine @unH _ (zX y6_160 ?_)); (try (refine hK _ _ ?_; clear hK K; try refine @unH _ (zQ ?_))); refine @unH _ (zA y6_160 ?_); (repeat refine inC fun hc => ?_); try refine inK fun K hK => ?_)
 refine (Cke _ H3 tb 170 n (by omega) (hT3.less (by omega))).runs.mono ?_
 rintro _ H4 ⟨ov, xs, rfl, hov, hxl, hxn, hxb, x4, _⟩
 have vsb4 := x4.keeps vsb hsn
 have hs4 := hs3.lexT hT3 x4
 have hpm : SPm s.places (gI xs) (fun y => (xs.idxOf y : Nat)) := SPm.of (by rw [hxl]; exact hn) hxn (fun x hx => by have := hxb x hx; have hn' : (n : Int) = s.places := hn; omega)
 obtain ⟨ob, oo, oc, oq, ocl, ofr, rfl, hoc, hob, hox⟩ := hov.cons (fun e => by rw [e] at hxl; have hn' : (n : Int) = s.places := hn; simp at hxl; omega)
 have hog : ∀ p : Int, 0 <= p -> p < s.places -> ocl[oo + p.toNat]? = some (.int .i64 (gI xs p)) := fun p p0 p1 => hox _ _ (Awk p0 (by have hn' : (n : Int) = s.places := hn; omega))
 clear hox hov hxn hxb vsb hs3 hT3 hsn x4
 generalize gI xs = g at *
 rw [hxl] at *
 clear hxl hoc
 have hKs := keepSmell_spec (.wg Tryz.prog) H4 s _ _ _ hs4 (by omega) (by omega) (by omega)
 rw [show s.places = (n : Nat) from (show (n : Int) = s.places from hn).symm] at hKs
 replace hKs : Aqk _ := hKs
 replace hpm : Aqk _ := hpm
 replace hog : Aqk _ := hog
 ((try refine @unH _ (zX y6_160 ?_)); (try (refine hK _ _ ?_; clear hK K; try refine @unH _ (zQ ?_))); refine @unH _ (zA y6_160 ?_); (repeat refine inC fun hc => ?_); try refine inK fun K hK => ?_)
 refine (show FnX _ _ _ _ _ _ from hKs).runs.mono ?_
 clear hKs
 rintro _ H5 ⟨xd, xh, xn, rfl, hx5, l45⟩
 obtain ⟨xa, xc, ya, yc, za, zc, rfl, rfl, rfl, -, -, -⟩ := hx5.smIn.forms
 replace hx5 : Aqk _ := hx5
 ((try refine @unH _ (zX y6_160 ?_)); (try (refine hK _ _ ?_; clear hK K; try refine @unH _ (zQ ?_))); refine @unH _ (zS y6_160 ?_); (repeat refine inC fun hc => ?_); try refine inK fun K hK => ?_)
 (intro xb hxb; generalize hG : Hp.set _ xb _ = H6; have lH6 := Aqc hG hxb; have vxb := Aqb hG; clear hG)
 have hx5' : SmRow H4 H5 _ _ _ s := hx5
 have hx6 := hx5'.le lH6
 have hxb4 : H4 xb = none := Hp.le_none l45 hxb
 have l46 := Hp.le_trans l45 lH6
 have hdn := hx6.dn
 have hhn := hx6.hn
 have hnn := hx6.nw
 have hi0 : H4.le H6 /\ H6 xb = some (true, smO (n : Nat) (.slice xa s.doors.length xc) (.slice ya s.hampers.length yc) (.slice za s.noses.length zc)) /\ RowG 60 4 H6 (.slice xa s.doors.length xc) (mixT Bj0 (fun d => Bj0 (mixD g d)) s.doors 0) /\ RowG 3 1 H6 (.slice ya s.hampers.length yc) (mixT int1r (fun x => int1r (g x)) s.hampers 0) /\ RowG 53 3 H6 (.slice za s.noses.length zc) (mixT Bj4 (fun m => Bj4 (mixN g m)) s.noses 0) := ⟨l46, vxb, by rw [mixT_0]; exact hx6.dd, by rw [mixT_0]; exact hx6.hh, by rw [mixT_0]; exact hx6.nn⟩
 clear hx5 hx5' hx6 lH6 l45 l46 hxb vxb
 replace hdn : Aqk _ := hdn
 replace hhn : Aqk _ := hhn
 replace hnn : Aqk _ := hnn
 replace hi0 : Aqk _ := hi0
 refine hK _ _ ?_
 clear hK K
 (try refine @unH _ (zQ ?_))
 refine Bk5 (fun e => e 4 = .pointer (some ⟨sb, 0, none⟩) /\ e 8 = .slice (some ⟨ob, oo, none⟩) n oc /\ e 9 = .pointer (some ⟨xb, 0, none⟩)) ⟨rfl, rfl, rfl⟩ ?_
 rintro e ⟨e4, e8, e9⟩
 (refine @unH _ (zA y6_160 ?_); (repeat refine inC fun hc => ?_); try refine inK fun K hK => ?_)
 refine Axe (fun w a' H' => ∃ e, ∃ j : Nat, w = s.doors.length - j /\ j <= s.doors.length /\ a' = act 216 e [] /\ e 4 = .pointer (some ⟨sb, 0, none⟩) /\ e 8 = .slice (some ⟨ob, oo, none⟩) n oc /\ e 9 = .pointer (some ⟨xb, 0, none⟩) /\ e 10 = .int .i64 (j : Nat) /\ H4.le H' /\ H' xb = some (true, smO (n : Nat) (.slice xa s.doors.length xc) (.slice ya s.hampers.length yc) (.slice za s.noses.length zc)) /\ RowG 60 4 H' (.slice xa s.doors.length xc) (mixT Bj0 (fun d => Bj0 (mixD g d)) s.doors j) /\ RowG 3 1 H' (.slice ya s.hampers.length yc) (mixT int1r (fun x => int1r (g x)) s.hampers 0) /\ RowG 53 3 H' (.slice za s.noses.length zc) (mixT Bj4 (fun m => Bj4 (mixN g m)) s.noses 0)) (n := s.doors.length) ?_ ?_
 ·exact ⟨_, 0, by omega, by omega, rfl, e4, e8, e9, rfl, hi0⟩
 clear e4 e8 e9 e hi0
 rintro w a' H7 ⟨e, j, rfl, hj, rfl, e4, e8, e9, e10, l47, vxb7, hD, hH, hN⟩
 have vsb7 := l47 _ _ vsb4
 have hob7 := l47 _ _ hob
 by_cases hlj : j < s.doors.length
 ·have hlj' : (j : Int) < s.doors.length := by omega
  have hkd := List.getElem?_eq_getElem hlj
  obtain ⟨xdb, xcl, xdc, hxe, hxdb, hxdc, hxsz⟩ := hD.ex (i := j) (by rw [mixT_len]; exact hlj)
  rw [mixT_len] at hxe hxdc
  have hx4 : H4 xdb = none := (show ∀ x, _ from hdn) xdb (by rw [hxe]; rfl)
  cases hxe
  obtain ⟨db, dof, dp, dcl, dfr, hdae, hdb4, hdsz, -, hdext⟩ := SlG.get hs4.dd (i := j) (r := Bj0 s.doors[j]) (by rw [List.getElem?_map, hkd]; rfl)
  have hrow := mixT_get Bj0 (fun d => Bj0 (mixD g d)) hkd
  have hset := mixT_set Bj0 (fun d => Bj0 (mixD g d)) hkd
  have hkk := ok.dk _ (List.mem_of_getElem? hkd)
  have ha0 := hkk.a0
  have ha1 := hkk.a1
  have hb0 := hkk.b0
  have hb1 := hkk.b1
  have hga := (show ∀ p : Int, _ from hog) _ ha0 ha1
  have hgb := (show ∀ p : Int, _ from hog) _ hb0 hb1
  have hc0 : dcl[dof + j * 4]? = _ := Bzb (k := 0) hdext hdsz rfl
  have hc1 := Bzb (k := 1) hdext hdsz rfl
  rw [<- show (n : Int) = s.places from hn] at ha1 hb1
  clear hkk
  have hdb2 := l47 _ _ hdb4
  have nds : xdb ≠ sb := fun e => by rw [e, vsb7] at hxdb; cases hxdb
  have ndx : xdb ≠ xb := fun e => by rw [e, vxb7] at hxdb; cases hxdb
  have ndd : xdb ≠ db := fun e => by rw [e, hdb4] at hx4; cases hx4
  have ndo : xdb ≠ ob := fun e => by rw [e, hob] at hx4; cases hx4
  subst hdae
  clear hkd hdb4 hdext
  generalize s.doors[j] = d at *
  replace hrow : Aqk _ := hrow
  replace hset : Aqk _ := hset
  replace hD : Aqk _ := hD
  replace hH : Aqk _ := hH
  replace hN : Aqk _ := hN
  (refine @unH _ (zA y6_160 ?_); (repeat refine inC fun hc => ?_); try refine inK fun K hK => ?_)
  refine Axn (fun HX => HX sb = some (true, smO (n : Nat) (.slice (some ⟨db, dof, none⟩) s.doors.length dc) (.slice ha s.hampers.length kc) (.slice na s.noses.length nc)) /\ HX xb = some (true, smO (n : Nat) (.slice (some ⟨xdb, 0, none⟩) s.doors.length xc) (.slice ya s.hampers.length yc) (.slice za s.noses.length zc)) /\ HX db = some (dp, .cells dcl 60 dfr) /\ HX ob = some (oq, .cells ocl 3 ofr)) [29] (.free 0 (.take 1 (.free 2 (.free 3 (.take 4 (.free 5 (.free 6 (.free 7 (.take 8 (.free 9 (.free 10 (.free 11 (.take 12 (.free 13 (.take 14 (.free 15 (.free 16 (.take 17 (.free 18 (.free 19 (.free 20 (.take 21 (.free 22 (.take 23 (.free 24 (.free 25 (.one 26 (.free 27 (.free 28 (.one 29 .nil)))))))))))))))))))))))))))))) (by kernel_rfl) (by kernel_rfl) (by decide) (by kernel_rfl) ?_; intro K hK
  refine Ax9 fun ops hOz => ?_
  have hSS := And.intro vsb7 (And.intro vxb7 (And.intro hdb2 hob7))
  (refine @unH _ ?_; refine zF y6_160 ?_)
  (refine @unH _ ?_; refine zK (And.intro y6_160 @exists_eq_left'.{1}) ?_)
  (refine @unH _ ?_; refine zF y6_160 ?_)
  (refine @unH _ ?_; refine zF y6_160 ?_)
  (refine @unH _ ?_; refine zK (And.intro y6_160 @exists_eq_left'.{1}) ?_)
  (refine @unH _ ?_; refine zF y6_160 ?_)
  (refine @unH _ ?_; refine zF y6_160 ?_)
  (refine @unH _ ?_; refine zF y6_160 ?_)
  (refine @unH _ ?_; refine zK (And.intro y6_160 @exists_eq_left'.{1}) ?_)
  (refine @unH _ ?_; refine zF y6_160 ?_)
  (refine @unH _ ?_; refine zF y6_160 ?_)
  (refine @unH _ ?_; refine zF y6_160 ?_)
  (refine @unH _ ?_; refine zK (And.intro y6_160 @exists_eq_left'.{1}) ?_)
  (refine @unH _ ?_; refine zF y6_160 ?_)
  (refine @unH _ ?_; refine zK (And.intro y6_160 @exists_eq_left'.{1}) ?_)
  (refine @unH _ ?_; refine zF y6_160 ?_)
  (refine @unH _ ?_; refine zF y6_160 ?_)
  (refine @unH _ ?_; refine zK (And.intro y6_160 @exists_eq_left'.{1}) ?_)
  (refine @unH _ ?_; refine zF y6_160 ?_)
  (refine @unH _ ?_; refine zF y6_160 ?_)
  (refine @unH _ ?_; refine zF y6_160 ?_)
  (refine @unH _ ?_; refine zK (And.intro y6_160 @exists_eq_left'.{1}) ?_)
  (refine @unH _ ?_; refine zF y6_160 ?_)
  (refine @unH _ ?_; refine zK (And.intro y6_160 @exists_eq_left'.{1}) ?_)
  (refine @unH _ ?_; refine zF y6_160 ?_)
  (refine @unH _ ?_; refine zF y6_160 ?_)
  clear hSS
  (refine @unH _ ?_; refine zM y6_160 ?_)
  refine ⟨.inr fun _ => ⟨by rw [if_neg (Ne.symm nds)], by rw [if_neg (Ne.symm ndx)], by rw [if_neg (Ne.symm ndd)], by rw [if_neg (Ne.symm ndo)]⟩, ?_⟩
  (refine @unH _ ?_; refine zF y6_160 ?_)
  (refine @unH _ ?_; refine zF y6_160 ?_)
  (refine @unH _ ?_; refine zM y6_160 ?_)
  refine ⟨by rw [Array.size_setIfInBounds]; omega, .inl (by decide), ?_⟩
  (refine Ajg (hK _ _ ?_); clear hK K; (try simp only [nq, ↓reduceIte, Nat.reduceEqDiff]))
  (refine @unH _ (zA y6_160 ?_); (repeat refine inC fun hc => ?_); try refine inK fun K hK => ?_)
  have r1 := RowG.put1 (by decide) (show RowG _ _ H7 _ _ from hD) hxdb hrow (k := 0) (by decide) (.int .i64 (g d.b))
  rw [Nat.add_zero] at r1
  have r2 := RowG.put1 (by decide) r1 Axg (i := j) (k := 1) (r := (Bj0 d).set 0 (.int .i64 (g d.b))) (by rw [List.getElem?_set, if_pos rfl, if_pos (by rw [mixT_len]; exact hlj)]) (by decide) (.int .i64 (g d.a))
  rw [set_set, List.set_set, show ((Bj0 d).set 0 (.int .i64 (g d.b))).set 1 (.int .i64 (g d.a)) = Bj0 (mixD g d) from rfl, show List.set _ j _ = _ from hset] at r2
  generalize hG : Hp.set H7 xdb _ = H9 at r2 ⊢
  exact ⟨s.doors.length - (j + 1), by omega, _, j + 1, rfl, by omega, rfl, e4, e8, e9, rfl, hG ▸ Ajb l47 hx4, by rw [<- hG, Aqw (Ne.symm ndx)]; exact vxb7, r2, hG ▸ RowG.put (show RowG _ _ H7 _ _ from hH) hxdb (by decide) _, hG ▸ RowG.put (show RowG _ _ H7 _ _ from hN) hxdb (by decide) _⟩
 have hlj' : ¬ (j : Int) < s.doors.length := by omega
 obtain rfl : j = s.doors.length := by omega
 (refine @unH _ (zA y6_160 ?_); (repeat refine inC fun hc => ?_); try refine inK fun K hK => ?_)
 have hi0 : H4.le H7 /\ H7 xb = some (true, smO (n : Nat) (.slice xa s.doors.length xc) (.slice ya s.hampers.length yc) (.slice za s.noses.length zc)) /\ RowG 60 4 H7 (.slice xa s.doors.length xc) (mixT Bj0 (fun d => Bj0 (mixD g d)) s.doors s.doors.length) /\ RowG 3 1 H7 (.slice ya s.hampers.length yc) (mixT int1r (fun x => int1r (g x)) s.hampers 0) /\ RowG 53 3 H7 (.slice za s.noses.length zc) (mixT Bj4 (fun m => Bj4 (mixN g m)) s.noses 0) := ⟨l47, vxb7, hD, hH, hN⟩
 replace hi0 : Aqk _ := hi0
 clear hD hH hN hlj hlj' hj vsb7 hob7 vxb7 l47 e10
 refine Axe (fun w a' H' => ∃ e, ∃ j : Nat, w = s.hampers.length - j /\ j <= s.hampers.length /\ a' = act 216 e [] /\ e 4 = .pointer (some ⟨sb, 0, none⟩) /\ e 8 = .slice (some ⟨ob, oo, none⟩) n oc /\ e 9 = .pointer (some ⟨xb, 0, none⟩) /\ e 11 = .int .i64 (j : Nat) /\ H4.le H' /\ H' xb = some (true, smO (n : Nat) (.slice xa s.doors.length xc) (.slice ya s.hampers.length yc) (.slice za s.noses.length zc)) /\ RowG 60 4 H' (.slice xa s.doors.length xc) (mixT Bj0 (fun d => Bj0 (mixD g d)) s.doors s.doors.length) /\ RowG 3 1 H' (.slice ya s.hampers.length yc) (mixT int1r (fun x => int1r (g x)) s.hampers j) /\ RowG 53 3 H' (.slice za s.noses.length zc) (mixT Bj4 (fun m => Bj4 (mixN g m)) s.noses 0)) (n := s.hampers.length) ?_ ?_
 ·exact ⟨_, 0, by omega, by omega, rfl, e4, e8, e9, rfl, hi0⟩
 clear e4 e8 e9 e hi0
 rintro w a' H7 ⟨e, j, rfl, hj, rfl, e4, e8, e9, e11, l47, vxb7, hD, hH, hN⟩
 have vsb7 := l47 _ _ vsb4
 have hob7 := l47 _ _ hob
 by_cases hlj : j < s.hampers.length
 ·have hlj' : (j : Int) < s.hampers.length := by omega
  have hkd := List.getElem?_eq_getElem hlj
  obtain ⟨xdb, xcl, xdc, hxe, hxdb, hxdc, hxsz⟩ := hH.ex (i := j) (by rw [mixT_len]; exact hlj)
  rw [mixT_len] at hxe hxdc
  have hx4 : H4 xdb = none := (show ∀ x, _ from hhn) xdb (by rw [hxe]; rfl)
  cases hxe
  obtain ⟨db, dof, dpc, dp, dcl, dfr, hdae, -, hdb4, hcel⟩ := hs4.hh.cons (fun e => by rw [e] at hlj; exact absurd hlj (by simp))
  have hrow := mixT_get int1r (fun x => int1r (g x)) hkd
  have hset := mixT_set int1r (fun x => int1r (g x)) hkd
  have hkk := ok.hk _ (List.mem_of_getElem? hkd)
  have ha0 := hkk.1
  have ha1 := hkk.2
  have hga := (show ∀ p : Int, _ from hog) _ ha0 ha1
  have hc0 := hcel j _ hkd
  clear hcel
  rw [<- show (n : Int) = s.places from hn] at ha1
  clear hkk
  have hdb2 := l47 _ _ hdb4
  have nds : xdb ≠ sb := fun e => by rw [e, vsb7] at hxdb; cases hxdb
  have ndx : xdb ≠ xb := fun e => by rw [e, vxb7] at hxdb; cases hxdb
  have ndd : xdb ≠ db := fun e => by rw [e, hdb4] at hx4; cases hx4
  have ndo : xdb ≠ ob := fun e => by rw [e, hob] at hx4; cases hx4
  cases hdae
  clear hkd hdb4
  generalize s.hampers[j] = d at *
  replace hrow : Aqk _ := hrow
  replace hset : Aqk _ := hset
  replace hD : Aqk _ := hD
  replace hH : Aqk _ := hH
  replace hN : Aqk _ := hN
  (refine @unH _ (zA y6_160 ?_); (repeat refine inC fun hc => ?_); try refine inK fun K hK => ?_)
  refine Axn (fun HX => HX sb = some (true, smO (n : Nat) (.slice da s.doors.length dc) (.slice (some ⟨db, dof, none⟩) s.hampers.length kc) (.slice na s.noses.length nc)) /\ HX xb = some (true, smO (n : Nat) (.slice xa s.doors.length xc) (.slice (some ⟨xdb, 0, none⟩) s.hampers.length yc) (.slice za s.noses.length zc)) /\ HX db = some (dp, .cells dcl 3 dfr) /\ HX ob = some (oq, .cells ocl 3 ofr)) [12] (.free 0 (.take 1 (.free 2 (.free 3 (.free 4 (.take 5 (.free 6 (.free 7 (.take 8 (.free 9 (.take 10 (.free 11 (.one 12 .nil))))))))))))) (by kernel_rfl) (by kernel_rfl) (by decide) (by kernel_rfl) ?_; intro K hK
  refine Ax9 fun ops hOz => ?_
  have hSS := And.intro vsb7 (And.intro vxb7 (And.intro hdb2 hob7))
  (refine @unH _ ?_; refine zF y6_160 ?_)
  (refine @unH _ ?_; refine zK (And.intro y6_160 @exists_eq_left'.{1}) ?_)
  (refine @unH _ ?_; refine zF y6_160 ?_)
  (refine @unH _ ?_; refine zF y6_160 ?_)
  (refine @unH _ ?_; refine zF y6_160 ?_)
  (refine @unH _ ?_; refine zK (And.intro y6_160 @exists_eq_left'.{1}) ?_)
  (refine @unH _ ?_; refine zF y6_160 ?_)
  (refine @unH _ ?_; refine zF y6_160 ?_)
  (refine @unH _ ?_; refine zK (And.intro y6_160 @exists_eq_left'.{1}) ?_)
  (refine @unH _ ?_; refine zF y6_160 ?_)
  (refine @unH _ ?_; refine zK (And.intro y6_160 @exists_eq_left'.{1}) ?_)
  (refine @unH _ ?_; refine zF y6_160 ?_)
  clear hSS
  (refine @unH _ ?_; refine zM y6_160 ?_)
  refine ⟨.inl (by decide), ?_⟩
  (refine Ajg (hK _ _ ?_); clear hK K; (try simp only [nq, ↓reduceIte, Nat.reduceEqDiff]))
  (refine @unH _ (zA y6_160 ?_); (repeat refine inC fun hc => ?_); try refine inK fun K hK => ?_)
  have r2 := RowG.put1 (by decide) (show RowG _ _ H7 _ _ from hH) hxdb hrow (k := 0) (by decide) (.int .i64 (g d))
  rw [Nat.add_zero, show (int1r d).set 0 (.int .i64 (g d)) = int1r (g d) from rfl, show List.set _ j _ = _ from hset] at r2
  rw [Nat.mul_one] at r2
  generalize hG : Hp.set H7 xdb _ = H9 at r2 ⊢
  exact ⟨s.hampers.length - (j + 1), by omega, _, j + 1, rfl, by omega, rfl, e4, e8, e9, rfl, hG ▸ Ajb l47 hx4, by rw [<- hG, Aqw (Ne.symm ndx)]; exact vxb7, hG ▸ RowG.put (show RowG _ _ H7 _ _ from hD) hxdb (by decide) _, r2, hG ▸ RowG.put (show RowG _ _ H7 _ _ from hN) hxdb (by decide) _⟩
 have hlj' : ¬ (j : Int) < s.hampers.length := by omega
 obtain rfl : j = s.hampers.length := by omega
 (refine @unH _ (zA y6_160 ?_); (repeat refine inC fun hc => ?_); try refine inK fun K hK => ?_)
 have hi0 : H4.le H7 /\ H7 xb = some (true, smO (n : Nat) (.slice xa s.doors.length xc) (.slice ya s.hampers.length yc) (.slice za s.noses.length zc)) /\ RowG 60 4 H7 (.slice xa s.doors.length xc) (mixT Bj0 (fun d => Bj0 (mixD g d)) s.doors s.doors.length) /\ RowG 3 1 H7 (.slice ya s.hampers.length yc) (mixT int1r (fun x => int1r (g x)) s.hampers s.hampers.length) /\ RowG 53 3 H7 (.slice za s.noses.length zc) (mixT Bj4 (fun m => Bj4 (mixN g m)) s.noses 0) := ⟨l47, vxb7, hD, hH, hN⟩
 replace hi0 : Aqk _ := hi0
 clear hD hH hN hlj hlj' hj vsb7 hob7 vxb7 l47 e11
 refine Axe (fun w a' H' => ∃ e, ∃ j : Nat, w = s.noses.length - j /\ j <= s.noses.length /\ a' = act 216 e [] /\ e 4 = .pointer (some ⟨sb, 0, none⟩) /\ e 8 = .slice (some ⟨ob, oo, none⟩) n oc /\ e 9 = .pointer (some ⟨xb, 0, none⟩) /\ e 12 = .int .i64 (j : Nat) /\ H4.le H' /\ H' xb = some (true, smO (n : Nat) (.slice xa s.doors.length xc) (.slice ya s.hampers.length yc) (.slice za s.noses.length zc)) /\ RowG 60 4 H' (.slice xa s.doors.length xc) (mixT Bj0 (fun d => Bj0 (mixD g d)) s.doors s.doors.length) /\ RowG 3 1 H' (.slice ya s.hampers.length yc) (mixT int1r (fun x => int1r (g x)) s.hampers s.hampers.length) /\ RowG 53 3 H' (.slice za s.noses.length zc) (mixT Bj4 (fun m => Bj4 (mixN g m)) s.noses j)) (n := s.noses.length) ?_ ?_
 ·exact ⟨_, 0, by omega, by omega, rfl, e4, e8, e9, rfl, hi0⟩
 clear e4 e8 e9 e hi0
 rintro w a' H7 ⟨e, j, rfl, hj, rfl, e4, e8, e9, e12, l47, vxb7, hD, hH, hN⟩
 have vsb7 := l47 _ _ vsb4
 have hob7 := l47 _ _ hob
 by_cases hlj : j < s.noses.length
 ·have hlj' : (j : Int) < s.noses.length := by omega
  have hkd := List.getElem?_eq_getElem hlj
  obtain ⟨xdb, xcl, xdc, hxe, hxdb, hxdc, hxsz⟩ := hN.ex (i := j) (by rw [mixT_len]; exact hlj)
  rw [mixT_len] at hxe hxdc
  have hx4 : H4 xdb = none := (show ∀ x, _ from hnn) xdb (by rw [hxe]; rfl)
  cases hxe
  obtain ⟨db, dof, dp, dcl, dfr, hdae, hdb4, hdsz, -, hdext⟩ := SlG.get hs4.nn (i := j) (r := Bj4 s.noses[j]) (by rw [List.getElem?_map, hkd]; rfl)
  have hrow := mixT_get Bj4 (fun m => Bj4 (mixN g m)) hkd
  have hset := mixT_set Bj4 (fun m => Bj4 (mixN g m)) hkd
  have hkk := ok.nk _ (List.mem_of_getElem? hkd)
  have ha0 := hkk.p0
  have ha1 := hkk.p1
  have hga := (show ∀ p : Int, _ from hog) _ ha0 ha1
  have hc0 : dcl[dof + j * 3]? = _ := Bzb (k := 0) hdext hdsz rfl
  rw [<- show (n : Int) = s.places from hn] at ha1
  clear hkk
  have hdb2 := l47 _ _ hdb4
  have nds : xdb ≠ sb := fun e => by rw [e, vsb7] at hxdb; cases hxdb
  have ndx : xdb ≠ xb := fun e => by rw [e, vxb7] at hxdb; cases hxdb
  have ndd : xdb ≠ db := fun e => by rw [e, hdb4] at hx4; cases hx4
  have ndo : xdb ≠ ob := fun e => by rw [e, hob] at hx4; cases hx4
  subst hdae
  clear hkd hdb4 hdext
  generalize s.noses[j] = d at *
  replace hrow : Aqk _ := hrow
  replace hset : Aqk _ := hset
  replace hD : Aqk _ := hD
  replace hH : Aqk _ := hH
  replace hN : Aqk _ := hN
  (refine @unH _ (zA y6_160 ?_); (repeat refine inC fun hc => ?_); try refine inK fun K hK => ?_)
  refine Axn (fun HX => HX sb = some (true, smO (n : Nat) (.slice da s.doors.length dc) (.slice ha s.hampers.length kc) (.slice (some ⟨db, dof, none⟩) s.noses.length nc)) /\ HX xb = some (true, smO (n : Nat) (.slice xa s.doors.length xc) (.slice ya s.hampers.length yc) (.slice (some ⟨xdb, 0, none⟩) s.noses.length zc)) /\ HX db = some (dp, .cells dcl 53 dfr) /\ HX ob = some (oq, .cells ocl 3 ofr)) [14] (.free 0 (.take 1 (.free 2 (.free 3 (.free 4 (.take 5 (.free 6 (.free 7 (.free 8 (.take 9 (.free 10 (.take 11 (.free 12 (.free 13 (.one 14 .nil))))))))))))))) (by kernel_rfl) (by kernel_rfl) (by decide) (by kernel_rfl) ?_; intro K hK
  refine Ax9 fun ops hOz => ?_
  have hSS := And.intro vsb7 (And.intro vxb7 (And.intro hdb2 hob7))
  (refine @unH _ ?_; refine zF y6_160 ?_)
  (refine @unH _ ?_; refine zK (And.intro y6_160 @exists_eq_left'.{1}) ?_)
  (refine @unH _ ?_; refine zF y6_160 ?_)
  (refine @unH _ ?_; refine zF y6_160 ?_)
  (refine @unH _ ?_; refine zF y6_160 ?_)
  (refine @unH _ ?_; refine zK (And.intro y6_160 @exists_eq_left'.{1}) ?_)
  (refine @unH _ ?_; refine zF y6_160 ?_)
  (refine @unH _ ?_; refine zF y6_160 ?_)
  (refine @unH _ ?_; refine zF y6_160 ?_)
  (refine @unH _ ?_; refine zK (And.intro y6_160 @exists_eq_left'.{1}) ?_)
  (refine @unH _ ?_; refine zF y6_160 ?_)
  (refine @unH _ ?_; refine zK (And.intro y6_160 @exists_eq_left'.{1}) ?_)
  (refine @unH _ ?_; refine zF y6_160 ?_)
  (refine @unH _ ?_; refine zF y6_160 ?_)
  clear hSS
  (refine @unH _ ?_; refine zM y6_160 ?_)
  refine ⟨.inl (by decide), ?_⟩
  (refine Ajg (hK _ _ ?_); clear hK K; (try simp only [nq, ↓reduceIte, Nat.reduceEqDiff]))
  (refine @unH _ (zA y6_160 ?_); (repeat refine inC fun hc => ?_); try refine inK fun K hK => ?_)
  have r2 := RowG.put1 (by decide) (show RowG _ _ H7 _ _ from hN) hxdb hrow (k := 0) (by decide) (.int .i64 (g d.pl))
  rw [Nat.add_zero, show (Bj4 d).set 0 (.int .i64 (g d.pl)) = Bj4 (mixN g d) from rfl, show List.set _ j _ = _ from hset] at r2
  generalize hG : Hp.set H7 xdb _ = H9 at r2 ⊢
  exact ⟨s.noses.length - (j + 1), by omega, _, j + 1, rfl, by omega, rfl, e4, e8, e9, rfl, hG ▸ Ajb l47 hx4, by rw [<- hG, Aqw (Ne.symm ndx)]; exact vxb7, hG ▸ RowG.put (show RowG _ _ H7 _ _ from hD) hxdb (by decide) _, hG ▸ RowG.put (show RowG _ _ H7 _ _ from hH) hxdb (by decide) _, r2⟩
 have hlj' : ¬ (j : Int) < s.noses.length := by omega
 obtain rfl : j = s.noses.length := by omega
 (refine @unH _ (zA y6_160 ?_); (repeat refine inC fun hc => ?_); try refine inK fun K hK => ?_)
 have hn' : (n : Int) = s.places := hn
 have hpm' : SPm s.places g (fun y => (xs.idxOf y : Nat)) := hpm
 have hs7 := hs4.le l47
 have hx7 : SmIn H7 (.slice xa s.doors.length xc) (.slice ya s.hampers.length yc) (.slice za s.noses.length zc) (mixS s g) := ⟨by
   have h := hD.slG (by decide)
   rw [mixT_end _ _ _ (Nat.le_refl _)] at h
   show SlG _ _ _ _ ((s.doors.map (mixD g)).map Bj0)
   rw [List.map_map]
   exact h, SlG.ints1 (by
   have h := hH.slG (by decide)
   rw [mixT_end _ _ _ (Nat.le_refl _)] at h
   show SlG _ _ _ _ ((s.hampers.map g).map fun x => [.int .i64 x])
   rw [List.map_map]
   exact h), by
   have h := hN.slG (by decide)
   rw [mixT_end _ _ _ (Nat.le_refl _)] at h
   show SlG _ _ _ _ ((s.noses.map (mixN g)).map Bj4)
   rw [List.map_map]
   exact h⟩
 have okx := mixS_ok ok hpm'
 have hwl : (wroF s).length <= 1000 := wro_len ok
 have hmc := fun p p0 p1 => mix_comes ok hpm' (p := p) p0 p1
 have hC1 := Cxh H7 s _ _ _ hs7 ok
 have hC2 := fun H (l : H7.le H) => Cxh H (mixS s g) _ _ _ (hx7.le l) okx
 have hS1 := fun H (l : H7.le H) => sSuspects_spec H s _ _ _ (hs7.le l) ok
 have hS2 := fun H (l : H7.le H) => sSuspects_spec H (mixS s g) _ _ _ (hx7.le l) okx
 have hW1 := fun H (l : H7.le H) => Cxn H s _ _ _ (hs7.le l) ok
 have hW2 := fun H (l : H7.le H) => Cxn H (mixS s g) _ _ _ (hx7.le l) okx
 have hM1 := fun H (l : H7.le H) p => Cxg H s _ _ _ (hs7.le l) ok p
 have hM2 := fun H (l : H7.le H) p => Cxg H (mixS s g) _ _ _ (hx7.le l) okx p
 have hxp : (mixS s g).places = (n : Nat) := hn'.symm
 rw [mix_count ok hpm'] at hC2
 simp only [mix_count ok hpm', mix_suspects ok hpm'] at hS2
 rw [mix_wrong ok hpm'] at hW2
 simp only [hxp] at hC2 hS2 hW2 hM2
 simp only [<- hn'] at hC1 hS1 hW1 hM1
 have hll : (if Aza s = 0 then [] else Ayz (Cj4 (susp s)) : List Int).length <= 6 := by split <;> first | exact Nat.zero_le _ | exact Cki _ _
 generalize (if Aza s = 0 then [] else Ayz (Cj4 (susp s)) : List Int) = L at *
 generalize (if Aza s = 0 then 11 else 0 : Int) = z at *
 generalize Aza s = ns0 at *
 generalize wroF s = W at *
 clear hs7 hx7 okx hD hH hN hs4 hxp hdn hhn hnn hn' hpm' hj hlj hlj' l47 vsb4 hob hxb4
 replace hC1 : Aqk _ := hC1
 replace hC2 : Aqk _ := hC2
 replace hS1 : Aqk _ := hS1
 replace hS2 : Aqk _ := hS2
 replace hW1 : Aqk _ := hW1
 replace hW2 : Aqk _ := hW2
 replace hM1 : Aqk _ := hM1
 replace hM2 : Aqk _ := hM2
 replace hmc : Aqk _ := hmc
 replace hwl : Aqk _ := hwl
 replace hll : Aqk _ := hll
 refine (show FnX _ _ _ _ _ _ from hC1).runs.mono ?_
 rintro _ H8 ⟨rfl, l8⟩
 have vxb8 := l8 _ _ vxb7
 ((try refine @unH _ (zX y6_160 ?_)); (try (refine hK _ _ ?_; clear hK K; try refine @unH _ (zQ ?_))); refine @unH _ (zA y6_160 ?_); (repeat refine inC fun hc => ?_); try refine inK fun K hK => ?_)
 refine ((show ∀ H, _ -> _ from hC2) H8 l8).runs.mono ?_
 rintro _ H9 ⟨rfl, l9⟩
 have l79 := Hp.le_trans l8 l9
 have vsb9 := l79 _ _ vsb7
 clear hC1 hC2 l8 l9 vxb8
 ((try refine @unH _ (zX y6_160 ?_)); (try (refine hK _ _ ?_; clear hK K; try refine @unH _ (zQ ?_))); refine @unH _ (zA y6_160 ?_); (repeat refine inC fun hc => ?_); try refine inK fun K hK => ?_)
 refine ((show ∀ H, _ -> _ from hS1) H9 l79).runs.mono ?_
 rintro _ H10 ⟨v1, rfl, hv1, l10⟩
 have l710 := Hp.le_trans l79 l10
 have vxb10 := l710 _ _ vxb7
 replace hv1 : Aqk _ := hv1
 clear hS1 l79 l10 vsb9
 ((try refine @unH _ (zX y6_160 ?_)); (try (refine hK _ _ ?_; clear hK K; try refine @unH _ (zQ ?_))); refine @unH _ (zA y6_160 ?_); (repeat refine inC fun hc => ?_); try refine inK fun K hK => ?_)
 refine ((show ∀ H, _ -> _ from hS2) H10 l710).runs.mono ?_
 rintro _ H11 ⟨v2, rfl, hv2, l11⟩
 have l711 := Hp.le_trans l710 l11
 have vsb11 := l711 _ _ vsb7
 replace hv2 : Aqk _ := hv2
 clear hS2 l710 vxb10
 ((try refine @unH _ (zX y6_160 ?_)); (try (refine hK _ _ ?_; clear hK K; try refine @unH _ (zQ ?_))); refine @unH _ (zA y6_160 ?_); (repeat refine inC fun hc => ?_); try refine inK fun K hK => ?_)
 refine ((show ∀ H, _ -> _ from hW1) H11 l711).runs.mono ?_
 rintro _ H12 ⟨w1, rfl, hw1, l12⟩
 have l712 := Hp.le_trans l711 l12
 have vxb12 := l712 _ _ vxb7
 replace hw1 : Aqk _ := hw1
 clear hW1 l711 vsb11
 ((try refine @unH _ (zX y6_160 ?_)); (try (refine hK _ _ ?_; clear hK K; try refine @unH _ (zQ ?_))); refine @unH _ (zA y6_160 ?_); (repeat refine inC fun hc => ?_); try refine inK fun K hK => ?_)
 refine ((show ∀ H, _ -> _ from hW2) H12 l712).runs.mono ?_
 rintro _ H13 ⟨w2, rfl, hw2, l13⟩
 have l713 := Hp.le_trans l712 l13
 have hv1' : SlI H13 v1 L := SlI.le (show SlI H10 v1 L from hv1) (Hp.le_trans l11 (Hp.le_trans l12 l13))
 have hv2' : SlI H13 v2 L := SlI.le (show SlI H11 v2 L from hv2) (Hp.le_trans l12 l13)
 have hw1' : SlI H13 w1 W := SlI.le (show SlI H12 w1 W from hw1) l13
 have hll' : L.length <= 6 := hll
 have hwl' : W.length <= 1000 := hwl
 have hL1 := Bqr (.wg Tryz.prog) H13 _ _ _ _ hv1' hv2' (by omega) (by omega)
 have hL2 := Bqr (.wg Tryz.prog) H13 _ _ _ _ hw1' hw2 (by omega) (by omega)
 rw [show decide (L = L) = true from decide_eq_true rfl] at hL1
 rw [show decide (W = W) = true from decide_eq_true rfl] at hL2
 clear hW2 l712 vxb12 l11 l12 l13 hv1 hv2 hw1 hw2 hv1' hv2' hw1' hll hwl hll' hwl'
 replace hL1 : Aqk _ := hL1
 replace hL2 : Aqk _ := hL2
 ((try refine @unH _ (zX y6_160 ?_)); (try (refine hK _ _ ?_; clear hK K; try refine @unH _ (zQ ?_))); refine @unH _ (zS y6_160 ?_); (repeat refine inC fun hc => ?_); try refine inK fun K hK => ?_)
 refine Bk5 (fun e => e 4 = .pointer (some ⟨sb, 0, none⟩) /\ e 8 = .slice (some ⟨ob, oo, none⟩) n oc /\ e 9 = .pointer (some ⟨xb, 0, none⟩) /\ e 13 = .int .i64 (ns0 : Nat) /\ e 14 = .int .i64 0 /\ e 15 = .int .i64 (ns0 : Nat) /\ e 16 = .int .i64 0 /\ e 17 = v1 /\ e 18 = .int .i64 z /\ e 19 = v2 /\ e 20 = .int .i64 z /\ e 21 = w1 /\ e 22 = .int .i64 0 /\ e 23 = w2 /\ e 24 = .int .i64 0) ⟨e4, e8, e9, rfl, rfl, rfl, rfl, rfl, rfl, rfl, rfl, rfl, rfl, rfl, rfl⟩ ?_
 clear e4 e8 e9 e12 e
 rintro e ⟨e4, e8, e9, e13, e14, e15, e16, e17, e18, e19, e20, e21, e22, e23, e24⟩
 refine Axq (Axq (wpX_rz 36 (by rfl) ?_))
 intro K hK ops hOz
 (iterate 28 (refine @unH _ ?_; refine zR y6_160 ?_))
 refine (show FnX _ _ _ _ _ _ from hL1).runs.mono ?_
 rintro _ HQ ⟨rfl, hHQ⟩
 rw [hHQ]
 clear hHQ HQ hL1
 simp -implicitDefEqProofs (disch := omega) only [Azw, Aq3, Aqn]
 (iterate 6 (refine @unH _ ?_; refine zR y6_160 ?_))
 refine (show FnX _ _ _ _ _ _ from hL2).runs.mono ?_
 rintro _ HQ ⟨rfl, hHQ⟩
 rw [hHQ]
 clear hHQ HQ hL2
 simp -implicitDefEqProofs (disch := omega) only [Azw, Aq3, Aqn]
 (iterate 2 (refine @unH _ ?_; refine zR y6_160 ?_))
 (refine RZ_nil ?_; refine hK _ _ ?_; clear hK K; (try simp only [nq, ↓reduceIte, Nat.reduceEqDiff]))
 clear hOz
 refine Bk5 (fun e => e 4 = .pointer (some ⟨sb, 0, none⟩) /\ e 8 = .slice (some ⟨ob, oo, none⟩) n oc /\ e 9 = .pointer (some ⟨xb, 0, none⟩) /\ e 185 = .bool false) ⟨e4, e8, e9, rfl⟩ ?_
 clear e4 e8 e9 e13 e14 e15 e16 e17 e18 e19 e20 e21 e22 e23 e24 e
 rintro e ⟨e4, e8, e9, e185⟩
 (refine @unH _ (zA y6_160 ?_); (repeat refine inC fun hc => ?_); try refine inK fun K hK => ?_)
 have hog' : ∀ p : Nat, (p : Int) < s.places -> ocl[oo + p]? = some (.int .i64 (g p)) := fun p hp => by
  have := (show ∀ p : Int, _ from hog) p (by omega) hp
  simpa using this
 refine Axe (fun w a' H' => ∃ e, ∃ p : Nat, w = n - p /\ p <= n /\ a' = act 216 e [] /\ e 4 = .pointer (some ⟨sb, 0, none⟩) /\ e 8 = .slice (some ⟨ob, oo, none⟩) n oc /\ e 9 = .pointer (some ⟨xb, 0, none⟩) /\ e 25 = .int .i64 (p : Nat) /\ H7.le H') (n := n) ?_ ?_
 ·exact ⟨_, 0, by omega, by omega, rfl, e4, e8, e9, rfl, l713⟩
 clear e4 e8 e9 e e185 l713
 rintro w a' H14 ⟨e, p, rfl, hp, rfl, e4, e8, e9, e25, lb⟩
 have vsb := lb _ _ vsb7
 by_cases hlt : p < n
 ·have hlt' : (p : Int) < n := by omega
  have hlt2 : (p : Int) < s.places := by have hn' : (n : Int) = s.places := hn; omega
  have hcp := hog' p hlt2
  have hQ1 := fun H l => (show ∀ H, _ -> ∀ p, _ from hM1) H l p
  have hQ2 := fun H l => (show ∀ H, _ -> ∀ p, _ from hM2) H l (g p)
  rw [(show ∀ p : Int, _ from hmc) p (by omega) hlt2] at hQ2
  generalize comE s p = C at *
  obtain ⟨c1, c2, c3⟩ := C
  replace hQ1 : Aqk _ := hQ1
  replace hQ2 : Aqk _ := hQ2
  (refine @unH _ (zA y6_160 ?_); (repeat refine inC fun hc => ?_); try refine inK fun K hK => ?_)
  refine ((show ∀ H, _ -> _ from hQ1) H14 lb).runs.mono ?_
  rintro _ H15 ⟨rfl, l15⟩
  ((try refine @unH _ (zX y6_160 ?_)); (try (refine hK _ _ ?_; clear hK K; try refine @unH _ (zQ ?_))); refine @unH _ (zA y6_160 ?_); (repeat refine inC fun hc => ?_); try refine inK fun K hK => ?_)
  (intro cb hcb; generalize hG : Hp.set _ cb _ = H16; have lH16 := Aqc hG hcb; have vcb := Aqb hG; clear hG)
  have lb16 := Hp.le_trans lb (Hp.le_trans l15 lH16)
  have vxb16 := lb16 _ _ vxb7
  have hob16 := lb16 _ _ hob7
  clear hQ1 lb l15 lH16 hcb vsb
  refine hK _ _ ?_
  clear hK K
  (try refine @unH _ (zQ ?_))
  refine Bk5 (fun e => e 4 = .pointer (some ⟨sb, 0, none⟩) /\ e 8 = .slice (some ⟨ob, oo, none⟩) n oc /\ e 9 = .pointer (some ⟨xb, 0, none⟩) /\ e 25 = .int .i64 (p : Nat) /\ e 26 = .pointer (some ⟨cb, 0, none⟩) /\ e 27 = .int .i64 c3) ⟨e4, e8, e9, e25, rfl, rfl⟩ ?_
  clear e4 e8 e9 e25 e
  rintro e ⟨e4, e8, e9, e25, e26, e27⟩
  refine Av3 (fun a' H' => ∃ e, ∃ qb : Nat, a' = act 216 e [] /\ e 4 = .pointer (some ⟨sb, 0, none⟩) /\ e 8 = .slice (some ⟨ob, oo, none⟩) n oc /\ e 9 = .pointer (some ⟨xb, 0, none⟩) /\ e 25 = .int .i64 (p : Nat) /\ e 26 = .pointer (some ⟨cb, 0, none⟩) /\ e 27 = .int .i64 c3 /\ e 28 = .pointer (some ⟨qb, 0, none⟩) /\ e 29 = .int .i64 c3 /\ H' cb = some (true, .cells #[.int .i64 c1, .int .i64 c2] 45 (0, 0)) /\ H' qb = some (true, .cells #[.int .i64 c1, .int .i64 c2] 45 (0, 0)) /\ H7.le H') ?_ ?_
  ·refine Axn (fun HX => HX xb = some (true, smO (n : Nat) (.slice xa s.doors.length xc) (.slice ya s.hampers.length yc) (.slice za s.noses.length zc)) /\ HX ob = some (oq, .cells ocl 3 ofr)) [10] (.take 0 (.free 1 (.free 2 (.free 3 (.take 4 (.two 5 (.free 6 (.free 7 (.free 8 (.one 9 (.one 10 (.free 11 .nil)))))) 9 (.one 5 (.free 6 (.free 7 (.free 8 (.one 10 (.free 11 .nil))))))))))))  (by kernel_rfl) (by kernel_rfl) (by decide) (by kernel_rfl) ?_; intro K hK
   refine Ax9 fun ops hOz => ?_
   have hSS := And.intro vxb16 hob16
   (refine @unH _ ?_; refine zK (And.intro y6_160 @exists_eq_left'.{1}) ?_)
   (iterate 3 (refine @unH _ ?_; refine zF y6_160 ?_))
   (refine @unH _ ?_; refine zK (And.intro y6_160 @exists_eq_left'.{1}) ?_)
   clear hSS
   refine planZ_two hOz rfl rfl rfl rfl ?_ ?_
   ·(refine @unH _ ?_; refine zX y6_160 ?_)
    refine ((show ∀ H, _ -> _ from hQ2) H16 lb16).runs.mono ?_
    rintro _ H17 ⟨rfl, l17⟩
    simp -implicitDefEqProofs (disch := omega) only [Azw, Aq3, Aqn]
    refine ⟨.inr fun _ => ⟨l17 _ _ vxb16, l17 _ _ hob16⟩, ?_⟩
    have vcb17 := l17 _ _ vcb
    have lb17 := Hp.le_trans lb16 l17
    have vxb17 := l17 _ _ vxb16
    have hob17 := l17 _ _ hob16
    clear l17 lb16 vxb16 hob16 vcb
    (iterate 3 (refine @unH _ ?_; refine zF y6_160 ?_))
    (refine @unH _ ?_; refine zM y6_160 ?_)
    intro qb hqb
    refine ⟨.inr fun _ => ⟨by rw [if_neg (Aqq vxb17 hqb)], by rw [if_neg (Aqq hob17 hqb)]⟩, ?_⟩
    have ncq := Aqq vcb17 hqb
    have hq7 := Hp.le_none lb17 hqb
    (refine @unH _ ?_; refine zM y6_160 ?_)
    refine ⟨.inl (by decide), ?_⟩
    (refine @unH _ ?_; refine zF y6_160 ?_)
    (refine Ajg (hK _ _ ?_); clear hK K; (try simp only [nq, ↓reduceIte, Nat.reduceEqDiff]))
    exact ⟨_, qb, rfl, e4, e8, e9, e25, e26, e27, rfl, rfl, by rw [Aqw ncq]; exact vcb17, Axg, Hp.le_trans lb17 (Hp.le_set hqb)⟩
   ·(refine @unH _ ?_; refine zX y6_160 ?_)
    intro qb hqb
    refine ⟨.inr fun _ => ⟨by rw [if_neg (Aqq vxb16 hqb)], by rw [if_neg (Aqq hob16 hqb)]⟩, ?_⟩
    generalize hG : Hp.set H16 qb _ = H17
    have l17 := Aqc hG hqb
    have vqb17 := Aqb hG
    clear hG
    have lb17 := Hp.le_trans lb16 l17
    have vcb17 := l17 _ _ vcb
    have vxb17 := l17 _ _ vxb16
    have hob17 := l17 _ _ hob16
    have ncq := Aqq vcb hqb
    have hq7 := Hp.le_none lb16 hqb
    clear l17 lb16 vxb16 hob16 vcb hqb
    (refine @unH _ ?_; refine zM y6_160 ?_)
    refine ((show ∀ H, _ -> _ from hQ2) H17 lb17).runs.mono ?_
    rintro _ H18 ⟨rfl, l18⟩
    simp -implicitDefEqProofs (disch := omega) only [Azw, Aq3, Aqn]
    refine ⟨.inr fun _ => ⟨l18 _ _ vxb17, l18 _ _ hob17⟩, ?_⟩
    have lb18 := Hp.le_trans lb17 l18
    have vcb18 := l18 _ _ vcb17
    have vqb18 := l18 _ _ vqb17
    clear l18 lb17 vxb17 hob17 vcb17 vqb17
    (iterate 3 (refine @unH _ ?_; refine zF y6_160 ?_))
    (refine @unH _ ?_; refine zM y6_160 ?_)
    refine ⟨.inl (by decide), ?_⟩
    (refine @unH _ ?_; refine zF y6_160 ?_)
    (refine Ajg (hK _ _ ?_); clear hK K; (try simp only [nq, ↓reduceIte, Nat.reduceEqDiff]))
    exact ⟨_, qb, rfl, e4, e8, e9, e25, e26, e27, rfl, rfl, by rw [Aqw ncq]; exact vcb18, Axg, Ajb lb18 hq7⟩
  ·clear e4 e8 e9 e25 e26 e27 e hQ2 vxb16 hob16 lb16 vcb
   rintro a' H17 ⟨e, qb, rfl, e4, e8, e9, e25, e26, e27, e28, e29, vcb, vqb, lb17⟩
   refine Axq (wpX_rz 8 (by rfl) ?_)
   intro K hK ops hOz
   (iterate 2 (refine @unH _ ?_; refine zR y6_160 ?_))
   (refine @unH _ ?_; refine zR (And.intro y6_160 (And.intro @Aq2 @snBandE)) ?_)
   (iterate 5 (refine @unH _ ?_; refine zR y6_160 ?_))
   (refine RZ_nil ?_; refine hK _ _ ?_; clear hK K; (try simp only [nq, ↓reduceIte, Nat.reduceEqDiff]))
   (refine @unH _ (zA y6_160 ?_); (repeat refine inC fun hc => ?_); try refine inK fun K hK => ?_)
   exact ⟨n - (p + 1), by omega, _, p + 1, rfl, by omega, rfl, e4, e8, e9, rfl, lb17⟩
 ·obtain rfl : p = n := by omega
  have hlt' : ¬ (p : Int) < p := by omega
  (refine @unH _ (zA y6_160 ?_); (repeat refine inC fun hc => ?_); try refine inK fun K hK => ?_)
  refine (smelled_spec H14).runs.mono ?_
  rintro _ H15 ⟨rfl, l15⟩
  ((try refine @unH _ (zX y6_160 ?_)); (try (refine hK _ _ ?_; clear hK K; try refine @unH _ (zQ ?_))); refine @unH _ (zA y6_160 ?_); (repeat refine inC fun hc => ?_); try refine inK fun K hK => ?_)
  (refine Axt ?_; (try simp only [nq, ↓reduceIte, Nat.reduceEqDiff]); rw [Aq7, Ay3 Tryz.results6 (by decide)]; simp only [Axk, Nat.reduceEqDiff, ↓reduceIte])
end Go.Proofs.YtkenloilljeliaaGreatDoor
end
section
namespace Go.Proofs.YtkenloilljeliaaGreatDoor
open Go Go.X Go.ChangeShapes Go.WideShapes Go.RowKit
set_option maxRecDepth 100000 in
theorem law_lifted (os : Os) (started : os.Started) (H : Type) (enc : TypeId × Value -> H) :
  ReturnsInLeavingWide {} Tryz.checked os 6 .any (fun w args => (Rows.smellMixedSpec.pre enc Tryz.prog Tryz.f6 [] false w args /\ laidMetH Tryz.prog [("errors.errorType", Rows.laid_errors_errorType)] w) /\ sizedMet enc Tryz.prog Tryz.f6 (OpenSpec.ofChange Rows.smellMixedSpec) false w args)
   (Rows.smellMixedSpec.post enc Tryz.prog Tryz.f6 false true false false) := by
 refine leaving_of_change_and (C := Tryz.checked) (X := fun w _ => laidMetH Tryz.prog [("errors.errorType", Rows.laid_errors_errorType)] w) (fun _ _ _ hh h => h.of_heap hh) ownK started Tryz.func6
  (ChangeSpec.witness_at (enc := enc) (C := Tryz.checked) (os := os) (X := fun w _ => laidMetH Tryz.prog [("errors.errorType", Rows.laid_errors_errorType)] w) false (laidWorld os) #[.slice none 0 0] 8 rfl (by kernel_rfl) (by kernel_rfl) (by kernel_rfl) (by kernel_rfl) (by kernel_rfl) (laidWorld_met os _)) ?_
 intro W base args ds gs before hval0 hW hL
 have hval : ∀ (j : Nat) t v, Tryz.f6.params[j]? = some t -> args[j]? = some v -> Value.okWide Tryz.prog W .any base t v := hval0
 have hW' := hW
 obtain ⟨p, q, hA0, hV0, rfl, hfz, hnd⟩ := hW
 have hA : DataW.TrodAll enc Tryz.prog W 0 (fun _ => true) true Tryz.f6.params.toList args.toList ds p := hA0
 have hV : DataW.TrodVars enc Tryz.prog W (fun _ => true) [] gs q := hV0
 rw [Tryz.params6] at hA hval
 obtain ⟨v0, d0, rfl, rfl, h0⟩ := trodAll_one hA
 obtain ⟨a0, len, cap, rfl⟩ := okWide_slice Tryz.underlying22 (hval 0 22 v0 rfl rfl)
 have h0k := h0
 obtain ⟨fuel, hf⟩ := h0
 obtain ⟨rfl, rfl⟩ : gs = [] /\ q = [] := by
  cases gs with
  | nil => exact ⟨rfl, hV⟩
  | cons g r => exact absurd hV (by intro h; cases h)
 have e1 : Rows.smellMixedSpec.fn H ([d0] ++ []) = { results := [.lit (.bool true)], args := [d0] } := by simp [Rows.smellMixedSpec]
 have hcells : ∀ i : Nat, i < len -> ∃ sb so c e fr x, a0 = some ⟨sb, so, none⟩ /\ Bqf W sb = some (false, .cells c e fr) /\ c[so + i]? = some (.int .i64 x) := by
  rcases open_ints Tryz.underlying22 Tryz.underlying3 cellsK hf with ⟨hcs, _⟩ | ⟨a, len', cap', zs, hcs, _, hl, hm, hz, hx, hcell, hwz⟩
  ·simp [Value.cells] at hcs
   intro i hi
   omega
  ·simp [Value.cells] at hcs
   obtain ⟨rfl, rfl, rfl⟩ := hcs
   intro i hi
   simp only [if_true] at hz
   have hc := hcell i (by omega)
   obtain ⟨b, off, spot⟩ := a
   have hspot : spot = none := by simpa [Addr.add] using World.cell?_spot (hcell 0 (by omega))
   subst hspot
   rw [add_plain] at hc
   unfold World.cell? at hc
   split at hc
   ·rename_i c e fr hb
    exact ⟨b, off, c, e, fr, _, rfl, by simp [Bqf, hb], by simpa using hc⟩
   ·cases hc
 have hlt : ∀ x ∈ p, x.block < W.heap.size := fun x hx => by simpa using hW'.lt x (by simpa using hx)
 obtain ⟨N, last, o, w', t', r1, r2, r3, v, hv, ⟨rfl, hB⟩, r4⟩ := (lsmixed_spec (Bqf W) a0 len cap hcells).goodW Tryz.func6 (results_tmp Tryz.results6 _) (by kernel_rfl)
 refine ⟨N, last, o, w', t', r1, r2, r3, _, hv, ?_, r4⟩
 have hb := hB.below
 refine ⟨_, _, _, [], p, [], hW', ?_, ?_, ?_, hB.kept _, fun h => by cases h⟩
 ·rw [e1]; exact trodAll_mk1 (shut_bool Tryz.underlying4 true)
 ·rw [e1]
  have t := trodAll_mk1 (DataW.Trod.of_heap (w := { w' with tape := W.tape }) (w' := w') rfl (Below.trod laidOutK (by kernel_rfl) (of_decide_eq_true (by kernel_rfl)) h0k hb hlt))
  exact t
 ·rw [e1]; rfl
end Go.Proofs.YtkenloilljeliaaGreatDoor
end
section
namespace Go.Proofs.YtkenloilljeliaaGreatDoor
open Go Go.X Go.ChangeShapes Go.WideShapes Go.RowKit
theorem jEnter : Program.mayEnter Tryz.pinned.checked.prog = true := factEnter
theorem jLift : (Rows.smellMixedRow.lifted == Program.liftsFinal Tryz.pinned.checked.prog) = true := by rw [show Program.liftsFinal Tryz.pinned.checked.prog = Rows.smellMixedRow.lifted from factLift]; exact beq_self_eq_true _
theorem jMake : (Program.make Tryz.pinned.checked.prog == some Rows.smellMixedRow.make) = true := by rw [show Program.make Tryz.pinned.checked.prog = some Rows.smellMixedRow.make from factMake]; exact beq_self_eq_true _
set_option maxRecDepth 100000 in
theorem jf : joinedFacts Tryz.pinned.checked.prog 6 Tryz.f6 Rows.smellMixedSpec Rows.smellMixedRow = true := by
 unfold joinedFacts
 simp only [jEnter, jLift, jMake, Bool.and_true]
 kernel_rfl
set_option maxRecDepth 100000 in
theorem smellMixed_said : Rows.SmellMixedSaid :=
 OpenClaim.holds_of_wide_leaving 6 Tryz.f6 rfl rfl rfl rfl rfl rfl rfl ⟨rfl, rfl, rfl, rfl, rfl⟩ rfl rfl rfl rfl rfl (by kernel_rfl) Tryz.func6 jf
  (of_decide_eq_true (by kernel_rfl)) (by unfold Func.isWrapper; rw [if_neg (of_decide_eq_false (by kernel_rfl))]; exact ⟨rfl, rfl⟩)
  (fun os started H enc _ => law_lifted os started H enc)
end Go.Proofs.YtkenloilljeliaaGreatDoor
end
