/- Texts SmPw LSTrue PSmellTrue SSmellTrue. -/
import Derived.Test.YtkcomnkgdifboaaGreatDoorJ25
import Derived.Test.YtkcomnkgdifboaaGreatDoorAFactA
import Derived.Test.YtkcomnkgdifboaaGreatDoorAFactSB
import Derived.Test.YtkcomnkgdifboaaGreatDoorAFactSC
set_option linter.defProp false
set_option linter.unusedSimpArgs false
set_option linter.unusedVariables false
set_option maxRecDepth 100000
set_option maxHeartbeats 2000000
section
namespace Go.Proofs.YtkcomnkgdifboaaGreatDoor
open Go Go.X
def subsF (n : Nat) : Nat -> Nat -> List (List Int)
 | 0, _ => [[]]
 | k + 1, first => (List.range (n - k - first)).flatMap fun j : Nat => (subsF n k (first + j + 1)).map fun l => ((first + j : Nat) : Int) :: l
theorem listsG_subs (n : Nat) (hn : n <= 4) : Bqx n = (List.range (n + 1)).flatMap fun k => subsF n k 0 := by
 rcases (by omega : n = 0 ∨ n = 1 ∨ n = 2 ∨ n = 3 ∨ n = 4) with rfl | rfl | rfl | rfl | rfl <;> kernel_rfl
theorem wro_is {s : Sm} (ok : SmOk s) {A B : List (List Int)} {l : List Int} (he : Bqx s.noses.length = A ++ l :: B) (hA : ∀ x ∈ A, Azn (woS s x) = 0) (hl : 0 < Azn (woS s l)) : wroF s = l := by
 unfold wroF
 rw [he, List.find?_append, List.find?_eq_none.2 fun x hx => by rw [hA x hx]; decide]
 simp [hl]
def y7_154 := And.intro @callF9 (And.intro @callF10 (And.intro (fun H => Aqv (H := H) (P := Tryz.prog) (h := Tryz.zeroValue28)) (And.intro (fun H => Aqs (H := H) Tryz.sizeOf28) (And.intro (fun H => Aqp (H := H) Tryz.underlying28 rfl Tryz.sizeOf28) (And.intro @callF26 (And.intro @Djq (And.intro (fun H => Aqv (H := H) (P := Tryz.prog) (h := Tryz.zeroValue33)) (And.intro (fun H => Aqs (H := H) Tryz.sizeOf33) (And.intro @Djr (And.intro @Djs (And.intro @callF30 (And.intro (fun H => Aqd (H := H) Tryz.underlying33 (i := 0) rfl (off := 0) rfl Tryz.sizeOf3) (And.intro (fun H => Aqg (H := H) Tryz.underlying3 rfl) (And.intro (fun H => Aqd (H := H) Tryz.underlying33 (i := 1) rfl (off := 1) rfl Tryz.sizeOf3) (And.intro (fun H => Aq6 (H := H) Tryz.underlying22) (And.intro (fun H => Aqd (H := H) Tryz.underlying28 (i := 0) rfl (off := 0) rfl Tryz.sizeOf3) (And.intro (fun H => Aqu (H := H) Tryz.underlying22 Tryz.sizeOf3) (And.intro @Djt (And.intro @callF25 (And.intro @Djp @callF14))))))))))))))))))))
theorem wroF_nil {s : Sm} (ok : SmOk s) (h : Azn s ≠ 0) : wroF s = [] := by
 have hl : ∃ B, Bqx s.noses.length = [] ++ [] :: B := by
  rw [listsG_subs _ ok.nl, List.range_succ_eq_map, List.flatMap_cons]
  exact ⟨_, rfl⟩
 obtain ⟨B, hB⟩ := hl
 exact wro_is ok hB (fun _ hx => by cases hx) (by show 0 < Azn s; omega)
theorem lstrue_spec (H : Hp) (sa : Option Addr) (sl sc : Nat) (hs : ∀ i : Nat, i < sl -> ∃ sb so c e fr x, sa = some ⟨sb, so, none⟩ /\ H sb = some (false, .cells c e fr) /\ c[so + i]? = some (.int .i64 x)) :
  FnX Tryz.prog (.wg Tryz.prog) 7 #[.slice sa sl sc] H fun e _ => e = .returned (.bool true) := by
 refine Aqm Tryz.func7 rfl Tryz.ntmps7 (by simp) ?_
 (refine @unH _ ?_; refine zA y7_154 ?_; (repeat (refine inC ?_; intro hc)); try (refine inK ?_; intro K hK))
 refine (newTin_spec _ H sa sl sc hs 240 (by omega)).runs.mono ?_
 rintro _ H1 ⟨tb, rfl, l1, hT⟩
 ((try (refine @unH _ ?_; refine zX y7_154 ?_)); (try (refine hK _ _ ?_; clear hK K; (try simp only [nq, ↓reduceIte, Nat.reduceEqDiff]))); refine @unH _ ?_; refine zA y7_154 ?_; (repeat (refine inC ?_; intro hc)); try (refine inK ?_; intro K hK))
 refine (smellOf_spec _ H1 tb 180 4 true (by omega) (by omega) hT).runs.mono ?_
 rintro _ H2 ⟨s, dv, hv, nv, cv, i, hr, ts, rfl, hs2, ok, hp5, hdl, hnl, hil, hr12, htk, hcv, htr, lex2, hT2⟩
 clear hT hs l1 lex2
 obtain ⟨da, dc, ha, kc, na, nc, rfl, rfl, rfl, l1, l2, l3⟩ := hs2.forms
 have htr := htr rfl
 ((try (refine @unH _ ?_; refine zX y7_154 ?_)); (try (refine hK _ _ ?_; clear hK K; (try simp only [nq, ↓reduceIte, Nat.reduceEqDiff]))); refine @unH _ ?_; refine zA y7_154 ?_; (repeat (refine inC ?_; intro hc)); try (refine inK ?_; intro K hK))
 (intro sb hsb; generalize hG : Hp.set _ sb _ = H3; have lH3 := Aqc hG hsb; have vsb := Aqb hG; clear hG)
 have hs3 := hs2.le lH3
 have hcv3 := hcv.le lH3
 clear hs2 lH3 hsb hT2 hcv htk hdl
 have hex : ∃ i b ts, Tr s i b ts := ⟨_, _, _, htr⟩
 have hns : Azn s ≠ 0 := (Dx1 ok).2 hex
 have hh1 := ok.h1
 replace hex : Aqk _ := hex
 ((try (refine @unH _ ?_; refine zX y7_154 ?_)); (try (refine hK _ _ ?_; clear hK K; (try simp only [nq, ↓reduceIte, Nat.reduceEqDiff]))); refine @unH _ ?_; refine zA y7_154 ?_; (repeat (refine inC ?_; intro hc)); try (refine inK ?_; intro K hK))
 refine (sSuspects_spec H3 s _ _ _ hs3 ok).runs.mono ?_
 rintro _ H4 ⟨lv, rfl, hlv, l34⟩
 rw [if_neg hns] at hlv ⊢
 have hmem : (i : Int) ∈ Bkb (Cka (susp s)) := (suspects_mem ok).2 ⟨by omega, hr, ts, by simpa using htr⟩
 have hll : (Bkb (Cka (susp s))).length <= 6 := Cko _ _
 generalize Bkb (Cka (susp s)) = L at *
 have vsb4 := l34 _ _ vsb
 have hs4 := hs3.le l34
 have hcv4 := hcv3.le l34
 clear vsb hs3 hcv3 l34
 replace htr : Aqk _ := htr
 replace hns : Aqk _ := hns
 replace hmem : Aqk _ := hmem
 replace hlv : Aqk _ := hlv
 ((try (refine @unH _ ?_; refine zX y7_154 ?_)); (try (refine hK _ _ ?_; clear hK K; (try simp only [nq, ↓reduceIte, Nat.reduceEqDiff]))); refine @unH _ ?_; refine zA y7_154 ?_; (repeat (refine inC ?_; intro hc)); try (refine inK ?_; intro K hK))
 refine (Cxp H4 s _ _ _ hs4 ok i).runs.mono ?_
 rintro _ H5 ⟨rfl, l45⟩
 obtain ⟨lo, hi, hsi, hsin, _, _⟩ := since_some ok (i := i) ⟨hr, ts, htr⟩
 have hlohi := hsin hr ts htr
 rw [hsi]
 have vsb5 := l45 _ _ vsb4
 have hs5 := hs4.le l45
 have hcv5 := hcv4.le l45
 have hlv5 := SlI.le hlv l45
 clear vsb4 hs4 hcv4 l45 hsi hsin hlv
 replace hlv5 : Aqk _ := hlv5
 ((try (refine @unH _ ?_; refine zX y7_154 ?_)); (try (refine hK _ _ ?_; clear hK K; (try simp only [nq, ↓reduceIte, Nat.reduceEqDiff]))); refine @unH _ ?_; refine zA y7_154 ?_; (repeat (refine inC ?_; intro hc)); try (refine inK ?_; intro K hK))
 (intro bb hbb; generalize hG : Hp.set _ bb _ = H6; have lH6 := Aqc hG hbb; have vbb := Aqb hG; clear hG)
 have vsb6 := lH6 _ _ vsb5
 have hs6 := hs5.le lH6
 have hcv6 := hcv5.le lH6
 have hlv6 := SlI.le hlv5 lH6
 clear vsb5 hs5 hcv5 hlv5 lH6 hbb
 replace hlv6 : Aqk _ := hlv6
 ((try (refine @unH _ ?_; refine zX y7_154 ?_)); (try (refine hK _ _ ?_; clear hK K; (try simp only [nq, ↓reduceIte, Nat.reduceEqDiff]))); refine @unH _ ?_; refine zA y7_154 ?_; (repeat (refine inC ?_; intro hc)); try (refine inK ?_; intro K hK))
 refine (Cxr H6 s _ _ _ hs6 ok).runs.mono ?_
 rintro _ H7 ⟨wv, rfl, hwv, l67⟩
 rw [wroF_nil ok hns] at hwv
 obtain ⟨wa, wc, rfl, _, _⟩ := hwv
 have vsb7 := l67 _ _ vsb6
 have vbb7 := l67 _ _ vbb
 have hs7 := hs6.le l67
 have hcv7 := hcv6.le l67
 have hlv7 := SlI.le hlv6 l67
 clear vsb6 hs6 hcv6 hlv6 l67 vbb
 replace hlv7 : Aqk _ := hlv7
 ((try (refine @unH _ ?_; refine zX y7_154 ?_)); (try (refine hK _ _ ?_; clear hK K; (try simp only [nq, ↓reduceIte, Nat.reduceEqDiff]))); refine @unH _ ?_; refine zA y7_154 ?_; (repeat (refine inC ?_; intro hc)); try (refine inK ?_; intro K hK))
 refine (Cxm H7 s _ _ _ hs7 ok).runs.mono ?_
 rintro _ H8 ⟨fv, rfl, hfv, l78⟩
 obtain ⟨fa, fh, fl, hfe, hfle, _⟩ := first_some ok htr
 rw [hfe] at hfv ⊢
 clear hfv
 have vsb8 := l78 _ _ vsb7
 have vbb8 := l78 _ _ vbb7
 have hs8 := hs7.le l78
 have hcv8 := hcv7.le l78
 have hlv8 := SlI.le hlv7 l78
 clear vsb7 hs7 hcv7 hlv7 l78 vbb7 hfe
 have hat := atI_spec (.wg Tryz.prog) H8 lv L i hlv8 (by omega)
 replace hat : Aqk _ := hat
 clear hlv8
 (refine @unH _ ?_; refine zX y7_154 ?_)
 refine hK _ _ ?_
 clear hK K
 (try simp only [nq, ↓reduceIte, Nat.reduceEqDiff])
 refine Bva (fun e => e 3 = .pointer (some ⟨sb, 0, none⟩) /\ e 4 = .int .i64 (i : Nat) /\ e 5 = .int .i64 (hr : Nat) /\ e 6 = cv /\ e 7 = lv /\ e 8 = .int .i64 0 /\ e 9 = .pointer (some ⟨bb, 0, none⟩) /\ e 10 = .int .i64 0 /\ e 11 = .slice wa (List.length ([] : List Int)) wc /\ e 12 = .int .i64 0 /\ e 13 = .int .i64 (fa : Nat) /\ e 14 = .int .i64 (fh : Nat) /\ e 16 = .int .i64 0) ⟨rfl, rfl, rfl, rfl, rfl, rfl, rfl, rfl, rfl, rfl, rfl, rfl, rfl⟩ ?_
 rintro e ⟨e3, e4, e5, e6, e7, e8, e9, e10, e11, e12, e13, e14, e16⟩
 have hcb : ∀ o, Hp.cell H8 ⟨bb, o, none⟩ = (#[.int .i64 (lo : Nat), .int .i64 (hi : Nat)] : Array Value)[o]? := fun o => cell_of vbb8
 have h1 : ¬ (hr : Int) < lo := by omega
 have h2 : ¬ (hi : Int) < hr := by omega
 have h3 : ¬ (i : Int) < fa := by omega
 refine Awa (fun a' H' => ∃ e, a' = act 182 e [] /\ e 3 = .pointer (some ⟨sb, 0, none⟩) /\ e 6 = cv /\ H' = H8) ?_ ?_
 ·refine Axp (wpX_rz 52 (by rfl) ?_)
  intro K hK ops hOz
  (iterate 18 (refine @unH _ ?_; refine zR y7_154 ?_))
  refine (show FnX _ _ _ _ _ _ from hat).runs.mono ?_
  rintro _ H9 ⟨hQ, r, rfl, hrr⟩
  rw [hQ]
  clear hQ hat
  have hr0 : ¬ r < 0 := by
   rcases hrr with ⟨_, h⟩ | ⟨k, rfl, _⟩
   ·exact absurd (show (i : Int) ∈ L from hmem) h
   ·omega
  clear hrr hmem
  simp -implicitDefEqProofs (disch := omega) only [Azx, Aq3, Aqn]
  by_cases hfi : (fa : Int) = i
  ·have h4 : ¬ (hr : Int) < fh := by omega
   clear hfle hlohi
   (iterate 34 (refine @unH _ ?_; refine zR y7_154 ?_))
   (refine RZ_nil ?_; refine hK _ _ ?_; clear hK K; (try simp only [nq, ↓reduceIte, Nat.reduceEqDiff]))
   (refine @unH _ ?_; refine zA y7_154 ?_; (repeat (refine inC ?_; intro hc)); try (refine inK ?_; intro K hK))
   exact ⟨_, rfl, e3, e6, trivial⟩
  ·clear hfle hlohi
   (iterate 34 (refine @unH _ ?_; refine zR y7_154 ?_))
   (refine RZ_nil ?_; refine hK _ _ ?_; clear hK K; (try simp only [nq, ↓reduceIte, Nat.reduceEqDiff]))
   (refine @unH _ ?_; refine zA y7_154 ?_; (repeat (refine inC ?_; intro hc)); try (refine inK ?_; intro K hK))
   exact ⟨_, rfl, e3, e6, trivial⟩
 clear e3 e4 e5 e6 e7 e8 e9 e10 e11 e12 e13 e14 e16 hcb h1 h2 h3 hat hmem vbb8 hfle hlohi
 rintro a H9 ⟨e, rfl, e3, e6, rfl⟩
 have hp0 := ok.p0
 obtain ⟨cbl, cof, cc, cown, ccl, cfr, rfl, _, hcb8, hcx⟩ := hcv8.cons (fun h => by have := congrArg List.length h; rw [Bzz] at this; simp only [List.length_nil] at this; omega)
 have hCl : ((Awn s (s.hampers.getD i 0) hr ts).length : Int) = s.places := by rw [Bzz]; omega
 replace hcx : Aqk _ := hcx
 clear hcv8
 (refine @unH _ ?_; refine zA y7_154 ?_; (repeat (refine inC ?_; intro hc)); try (refine inK ?_; intro K hK))
 refine Axe (fun w a' H' => ∃ e, ∃ p : Nat, w = s.places.toNat - p /\ (p : Int) <= s.places /\ a' = act 182 e [] /\ e 3 = .pointer (some ⟨sb, 0, none⟩) /\ e 6 = .slice (some ⟨cbl, cof, none⟩) (Awn s (s.hampers.getD i 0) hr ts).length cc /\ e 17 = .int .i64 (p : Nat) /\ H9.le H') (n := s.places.toNat) ?_ ?_
 ·exact ⟨_, 0, by omega, by omega, rfl, e3, e6, rfl, Hp.le_refl _⟩
 clear e3 e6
 rintro w a' H10 ⟨e, p, rfl, hp, rfl, e3, e6, e17, l90⟩
 have vsb10 := l90 _ _ vsb8
 by_cases hlt : (p : Int) < s.places
 ·have hs10 := hs8.le l90
  have hcb10 := l90 _ _ hcb8
  have hx : ccl[cof + p]? = some (.int .i64 (Avy s i hr ts p)) := (show ∀ (k : Nat) (x : Int), _ -> ccl[cof + k]? = some (.int .i64 x) from hcx) p _ (Awo (c := Awn s (s.hampers.getD i 0) hr ts) (p := (p : Int)) (by omega) (by omega))
  have hpl : p < (Awn s (s.hampers.getD i 0) hr ts).length := by omega
  generalize (Awn s (s.hampers.getD i 0) hr ts).length = cn at *
  replace hCl : Aqk _ := hCl
  have hq1 : ∀ o, Hp.cell H10 ⟨cbl, o, none⟩ = ccl[o]? := fun o => cell_of hcb10
  generalize hX : Avy s i hr ts p = X at *
  replace hX : Aqk _ := hX
  by_cases hx9 : 1000 <= X
  ·(refine @unH _ ?_; refine zA (And.intro y7_154 @exists_eq_left'.{1}) ?_; (repeat (refine inC ?_; intro hc)); try (refine inK ?_; intro K hK))
   exact ⟨s.places.toNat - (p + 1), by omega, _, p + 1, rfl, by omega, rfl, e3, e6, rfl, l90⟩
  ·(refine @unH _ ?_; refine zA (And.intro y7_154 @exists_eq_left'.{1}) ?_; (repeat (refine inC ?_; intro hc)); try (refine inK ?_; intro K hK))
   have htr' : Tr s i hr ts := htr
   have hX' : Avy s i hr ts p = X := hX
   obtain ⟨clo, chi, hce, _, _, hcin, _, _⟩ := come_some ok (p := (p : Int)) (by omega) hlt ⟨i, hr, ts, htr', by rw [hX']; omega⟩
   have hcX := hcin i hr ts htr' (by rw [hX']; omega)
   rw [hX'] at hcX
   have hb0 := fun (h : Int) (h0 : 0 <= h) (h1 : h <= 12) => Dvp ok htr' (p := (p : Int)) (by omega) hlt h0 h1
   have hsf : ¬ X <= Byr s p := fun h => by
    have h1 := safe_le (hb0 0 (by omega) (by omega))
    have h2 := (safe_tr ok (by omega) hlt ⟨i, hr, ts, htr'⟩ (k := X) (by omega)).1 h i hr ts htr'
    rw [hX'] at h2
    omega
   have hvd : Cy5 s p 12 = 2 -> ¬ X <= 12 := fun h => by
    unfold Cy5 at h
    rw [if_pos (hb0 12 (by omega) (by omega))] at h
    have h2 := (verd_never ok (by omega) hlt ⟨i, hr, ts, htr'⟩ (by omega)).1 h i hr ts htr'
    rw [hX'] at h2
    omega
   have b0 := hb0 0 (by omega) (by omega)
   have b12 := hb0 12 (by omega) (by omega)
   clear hcin hb0 htr' hX'
   replace hvd : Aqk _ := hvd
   replace b0 : Aqk _ := b0
   replace b12 : Aqk _ := b12
   refine (Cxk H10 s _ _ _ hs10 ok p).runs.mono ?_
   rintro _ H11 ⟨rfl, l11⟩
   rw [hce]
   clear hce
   have vsb11 := l11 _ _ vsb10
   have hs11 := hs10.le l11
   have hcb11 := l11 _ _ hcb10
   have l91 := Hp.le_trans l90 l11
   clear l11 hq1 vsb10 hs10 hcb10 l90
   ((try (refine @unH _ ?_; refine zX y7_154 ?_)); (try (refine hK _ _ ?_; clear hK K; (try simp only [nq, ↓reduceIte, Nat.reduceEqDiff]))); refine @unH _ ?_; refine zA y7_154 ?_; (repeat (refine inC ?_; intro hc)); try (refine inK ?_; intro K hK))
   (intro kb hkb; generalize hG : Hp.set _ kb _ = H12; have lH12 := Aqc hG hkb; have vkb := Aqb hG; clear hG)
   have vsb12 := lH12 _ _ vsb11
   have hs12 := hs11.le lH12
   have hcb12 := lH12 _ _ hcb11
   have l92 := Hp.le_trans l91 lH12
   clear lH12 vsb11 hs11 hcb11 l91 hkb
   ((try (refine @unH _ ?_; refine zX y7_154 ?_)); (try (refine hK _ _ ?_; clear hK K; (try simp only [nq, ↓reduceIte, Nat.reduceEqDiff]))); refine @unH _ ?_; refine zA y7_154 ?_; (repeat (refine inC ?_; intro hc)); try (refine inK ?_; intro K hK))
   refine (sSafe_spec H12 s _ _ _ hs12 ok p).runs.mono ?_
   rintro _ H14 ⟨rfl, l24⟩
   rw [show begE s [(p : Int)] 0 = 0 from b0]
   have vsb14 := l24 _ _ vsb12
   have hs14 := hs12.le l24
   have hcb14 := l24 _ _ hcb12
   have vkb14 := l24 _ _ vkb
   have l94 := Hp.le_trans l92 l24
   clear l24 vsb12 hs12 hcb12 l92 vkb b0
   generalize Byr s p = sv at *
   have hq1 : ∀ o, Hp.cell H14 ⟨cbl, o, none⟩ = ccl[o]? := fun o => cell_of hcb14
   have hq2 : ∀ o, Hp.cell H14 ⟨kb, o, none⟩ = (#[.int .i64 clo, .int .i64 chi] : Array Value)[o]? := fun o => cell_of vkb14
   have g1 : ¬ X < clo := by omega
   have g2 : ¬ chi < X := by omega
   clear hcX
   (refine @unH _ ?_; refine zX y7_154 ?_)
   refine hK _ _ ?_
   clear hK K
   (try simp only [nq, ↓reduceIte, Nat.reduceEqDiff])
   refine Bva (fun e => e 3 = .pointer (some ⟨sb, 0, none⟩) /\ e 6 = .slice (some ⟨cbl, cof, none⟩) cn cc /\ e 17 = .int .i64 (p : Nat) /\ e 18 = .pointer (some ⟨kb, 0, none⟩) /\ e 19 = .int .i64 0 /\ e 20 = .int .i64 sv /\ e 21 = .int .i64 0) ⟨e3, e6, e17, rfl, rfl, rfl, rfl⟩ ?_
   clear e3 e6 e17
   rename_i eold
   clear eold
   rintro e ⟨e3, e6, e17, e18, e19, e20, e21⟩
   refine Axp (Axp ?_)
   refine Axn (fun HX => HX = H14) [] (.free 0 (.free 1 (.free 2 (.free 3 (.free 4 (.free 5 (.free 6 (.free 7 (.free 8 (.free 9 (.take 10 (.free 11 (.take 12 (.free 13 (.free 14 (.free 15 (.free 16 (.free 17 (.free 18 (.take 19 (.free 20 (.take 21 (.free 22 (.free 23 (.free 24 (.free 25 (.free 26 (.free 27 (.free 28 (.take 29 (.free 30 (.free 31 .nil)))))))))))))))))))))))))))))))) (by kernel_rfl) (by kernel_rfl) (by decide) (by kernel_rfl) ?_; intro K hK
   refine Ax9 fun ops hOz => ?_
   (iterate 3 (refine @unH _ ?_; refine zF y7_154 ?_))
   (refine @unH _ ?_; refine zG y7_154 ?_)
   (refine @unH _ ?_; refine zG y7_154 ?_)
   (iterate 2 (refine @unH _ ?_; refine zF y7_154 ?_))
   (refine @unH _ ?_; refine zG y7_154 ?_)
   (refine @unH _ ?_; refine zG y7_154 ?_)
   (refine @unH _ ?_; refine zG y7_154 ?_)
   (apply Ay8 hOz rfl rfl rfl rfl (by simp -implicitDefEqProofs (disch := omega) only [act_get?, Axk, Nat.reduceEqDiff, ↓reduceIte, beq_self_eq_true, Bool.and_self, Bool.not_true, Bool.not_false, *]) (by rfl); (focus (intro HX hHX; subst hHX; simp -implicitDefEqProofs (disch := first | omega | (simp only [qd] <;> omega)) only [xq, ↓xp, qc, Nat.reduceAdd, List.range, List.range.loop, fine, Nat.reduceEqDiff, ↓reduceIte, yielded, reduceCtorEq, Nat.reduceLT, Nat.reduceMul, Nat.reduceSub, one, Nat.reduceLeDiff, Aqj, y7_154, aq, ↓ap, qe0, qe1, qe2, *, -hK, Aq8, exists_eq_left'] <;> (first | exact rfl | exact ⟨rfl, rfl⟩ | exact ⟨rfl, trivial⟩))); simp -implicitDefEqProofs (disch := first | omega | (simp only [qd] <;> omega)) only [Aq3, Aqn])
   (refine @unH _ ?_; refine zG y7_154 ?_)
   (apply Ay8 hOz rfl rfl rfl rfl (by simp -implicitDefEqProofs (disch := omega) only [act_get?, Axk, Nat.reduceEqDiff, ↓reduceIte, beq_self_eq_true, Bool.and_self, Bool.not_true, Bool.not_false, *]) (by rfl); (focus (intro HX hHX; subst hHX; simp -implicitDefEqProofs (disch := first | omega | (simp only [qd] <;> omega)) only [xq, ↓xp, qc, Nat.reduceAdd, List.range, List.range.loop, fine, Nat.reduceEqDiff, ↓reduceIte, yielded, reduceCtorEq, Nat.reduceLT, Nat.reduceMul, Nat.reduceSub, one, Nat.reduceLeDiff, Aqj, y7_154, aq, ↓ap, qe0, qe1, qe2, *, -hK, Aq8, exists_eq_left'] <;> (first | exact rfl | exact ⟨rfl, rfl⟩ | exact ⟨rfl, trivial⟩))); simp -implicitDefEqProofs (disch := first | omega | (simp only [qd] <;> omega)) only [Aq3, Aqn])
   (refine @unH _ ?_; refine zG y7_154 ?_)
   (iterate 2 (refine @unH _ ?_; refine zF y7_154 ?_))
   (refine @unH _ ?_; refine zG y7_154 ?_)
   (refine @unH _ ?_; refine zG y7_154 ?_)
   (refine @unH _ ?_; refine zG y7_154 ?_)
   (apply Ay8 hOz rfl rfl rfl rfl (by simp -implicitDefEqProofs (disch := omega) only [act_get?, Axk, Nat.reduceEqDiff, ↓reduceIte, beq_self_eq_true, Bool.and_self, Bool.not_true, Bool.not_false, *]) (by rfl); (focus (intro HX hHX; subst hHX; simp -implicitDefEqProofs (disch := first | omega | (simp only [qd] <;> omega)) only [xq, ↓xp, qc, Nat.reduceAdd, List.range, List.range.loop, fine, Nat.reduceEqDiff, ↓reduceIte, yielded, reduceCtorEq, Nat.reduceLT, Nat.reduceMul, Nat.reduceSub, one, Nat.reduceLeDiff, Aqj, y7_154, aq, ↓ap, qe0, qe1, qe2, *, -hK, Aq8, exists_eq_left'] <;> (first | exact rfl | exact ⟨rfl, rfl⟩ | exact ⟨rfl, trivial⟩))); simp -implicitDefEqProofs (disch := first | omega | (simp only [qd] <;> omega)) only [Aq3, Aqn])
   (refine @unH _ ?_; refine zG y7_154 ?_)
   (apply Ay8 hOz rfl rfl rfl rfl (by simp -implicitDefEqProofs (disch := omega) only [act_get?, Axk, Nat.reduceEqDiff, ↓reduceIte, beq_self_eq_true, Bool.and_self, Bool.not_true, Bool.not_false, *]) (by rfl); (focus (intro HX hHX; subst hHX; simp -implicitDefEqProofs (disch := first | omega | (simp only [qd] <;> omega)) only [xq, ↓xp, qc, Nat.reduceAdd, List.range, List.range.loop, fine, Nat.reduceEqDiff, ↓reduceIte, yielded, reduceCtorEq, Nat.reduceLT, Nat.reduceMul, Nat.reduceSub, one, Nat.reduceLeDiff, Aqj, y7_154, aq, ↓ap, qe0, qe1, qe2, *, -hK, Aq8, exists_eq_left'] <;> (first | exact rfl | exact ⟨rfl, rfl⟩ | exact ⟨rfl, trivial⟩))); simp -implicitDefEqProofs (disch := first | omega | (simp only [qd] <;> omega)) only [Aq3, Aqn])
   (refine @unH _ ?_; refine zG y7_154 ?_)
   (iterate 2 (refine @unH _ ?_; refine zF y7_154 ?_))
   (refine @unH _ ?_; refine zG y7_154 ?_)
   (refine @unH _ ?_; refine zG y7_154 ?_)
   (refine @unH _ ?_; refine zG y7_154 ?_)
   (refine @unH _ ?_; refine zG y7_154 ?_)
   (apply Ay8 hOz rfl rfl rfl rfl (by simp -implicitDefEqProofs (disch := omega) only [act_get?, Axk, Nat.reduceEqDiff, ↓reduceIte, beq_self_eq_true, Bool.and_self, Bool.not_true, Bool.not_false, *]) (by rfl); (focus (intro HX hHX; subst hHX; simp -implicitDefEqProofs (disch := first | omega | (simp only [qd] <;> omega)) only [xq, ↓xp, qc, Nat.reduceAdd, List.range, List.range.loop, fine, Nat.reduceEqDiff, ↓reduceIte, yielded, reduceCtorEq, Nat.reduceLT, Nat.reduceMul, Nat.reduceSub, one, Nat.reduceLeDiff, Aqj, y7_154, aq, ↓ap, qe0, qe1, qe2, *, -hK, Aq8, exists_eq_left'] <;> (first | exact rfl | exact ⟨rfl, rfl⟩ | exact ⟨rfl, trivial⟩))); simp -implicitDefEqProofs (disch := first | omega | (simp only [qd] <;> omega)) only [Aq3, Aqn])
   (refine @unH _ ?_; refine zG y7_154 ?_)
   (refine @unH _ ?_; refine zF y7_154 ?_)
   (refine Ajh (hK _ _ ?_); clear hK K; (try simp only [nq, ↓reduceIte, Nat.reduceEqDiff]))
   (refine @unH _ ?_; refine zA y7_154 ?_; (repeat (refine inC ?_; intro hc)); try (refine inK ?_; intro K hK))
   refine (Bv9 H14 s _ _ _ hs14 ok p 12).runs.mono ?_
   rintro _ H15 ⟨rfl, l15⟩
   rw [show begE s [(p : Int)] 12 = 0 from b12]
   have l95 := Hp.le_trans l94 l15
   have hcb15 := l15 _ _ hcb14
   clear l94 l15 vsb14 hs14 hcb14 vkb14 hq1 hq2 b12 hsf g1 g2
   have hq1 : ∀ o, Hp.cell H15 ⟨cbl, o, none⟩ = ccl[o]? := fun o => cell_of hcb15
   generalize Cy5 s p 12 = V at *
   by_cases hV : V = 2
   ·have g3 : ¬ X <= 12 := (show V = 2 -> ¬ X <= 12 from hvd) hV
    subst hV
    ((try (refine @unH _ ?_; refine zX (And.intro y7_154 @exists_eq_left'.{1}) ?_)); (try (refine hK _ _ ?_; clear hK K; (try simp only [nq, ↓reduceIte, Nat.reduceEqDiff]))); refine @unH _ ?_; refine zA (And.intro y7_154 @exists_eq_left'.{1}) ?_; (repeat (refine inC ?_; intro hc)); try (refine inK ?_; intro K hK))
    exact ⟨s.places.toNat - (p + 1), by omega, _, p + 1, rfl, by omega, rfl, e3, e6, rfl, l95⟩
   ·((try (refine @unH _ ?_; refine zX (And.intro y7_154 @exists_eq_left'.{1}) ?_)); (try (refine hK _ _ ?_; clear hK K; (try simp only [nq, ↓reduceIte, Nat.reduceEqDiff]))); refine @unH _ ?_; refine zA (And.intro y7_154 @exists_eq_left'.{1}) ?_; (repeat (refine inC ?_; intro hc)); try (refine inK ?_; intro K hK))
    exact ⟨s.places.toNat - (p + 1), by omega, _, p + 1, rfl, by omega, rfl, e3, e6, rfl, l95⟩
 ·(refine @unH _ ?_; refine zA y7_154 ?_; (repeat (refine inC ?_; intro hc)); try (refine inK ?_; intro K hK))
  refine (smelled_spec H10).runs.mono ?_
  rintro _ H11 ⟨rfl, lH11⟩
  ((try (refine @unH _ ?_; refine zX y7_154 ?_)); (try (refine hK _ _ ?_; clear hK K; (try simp only [nq, ↓reduceIte, Nat.reduceEqDiff]))); refine @unH _ ?_; refine zA y7_154 ?_; (repeat (refine inC ?_; intro hc)); try (refine inK ?_; intro K hK))
  (refine Axs ?_; (try simp only [nq, ↓reduceIte, Nat.reduceEqDiff]); rw [Aq7, Ay9 Tryz.results7 (by decide)]; simp only [Axk, Nat.reduceEqDiff, ↓reduceIte])
end Go.Proofs.YtkcomnkgdifboaaGreatDoor
end
section
namespace Go.Proofs.YtkcomnkgdifboaaGreatDoor
open Go Go.X Go.ChangeShapes Go.WideShapes Go.RowKit
set_option maxRecDepth 100000 in
theorem law_lifted (os : Os) (started : os.Started) (H : Type) (enc : TypeId × Value -> H) :
  ReturnsInLeavingWide {} Tryz.checked os 7 .any (fun w args => (Rows.smellTrueSpec.pre enc Tryz.prog Tryz.f7 [] false w args /\ laidMetH Tryz.prog [("errors.errorType", Rows.laid_errors_errorType)] w) /\ sizedMet enc Tryz.prog Tryz.f7 (OpenSpec.ofChange Rows.smellTrueSpec) false w args)
   (Rows.smellTrueSpec.post enc Tryz.prog Tryz.f7 false true false false) := by
 refine leaving_of_change_and (C := Tryz.checked) (X := fun w _ => laidMetH Tryz.prog [("errors.errorType", Rows.laid_errors_errorType)] w) (fun _ _ _ hh h => h.of_heap hh) ownK started Tryz.func7
  (ChangeSpec.witness_at (enc := enc) (C := Tryz.checked) (os := os) (X := fun w _ => laidMetH Tryz.prog [("errors.errorType", Rows.laid_errors_errorType)] w) false (laidWorld os) #[.slice none 0 0] 8 rfl (by kernel_rfl) (by kernel_rfl) (by kernel_rfl) (by kernel_rfl) (by kernel_rfl) (laidWorld_met os _)) ?_
 intro W base args ds gs before hval0 hW hL
 have hval : ∀ (j : Nat) t v, Tryz.f7.params[j]? = some t -> args[j]? = some v -> Value.okWide Tryz.prog W .any base t v := hval0
 have hW' := hW
 obtain ⟨p, q, hA0, hV0, rfl, hfz, hnd⟩ := hW
 have hA : DataW.TrodAll enc Tryz.prog W 0 (fun _ => true) true Tryz.f7.params.toList args.toList ds p := hA0
 have hV : DataW.TrodVars enc Tryz.prog W (fun _ => true) [] gs q := hV0
 rw [Tryz.params7] at hA hval
 obtain ⟨v0, d0, rfl, rfl, h0⟩ := trodAll_one hA
 obtain ⟨a0, len, cap, rfl⟩ := okWide_slice Tryz.underlying22 (hval 0 22 v0 rfl rfl)
 have h0k := h0
 obtain ⟨fuel, hf⟩ := h0
 obtain ⟨rfl, rfl⟩ : gs = [] /\ q = [] := by
  cases gs with
  | nil => exact ⟨rfl, hV⟩
  | cons g r => exact absurd hV (by intro h; cases h)
 have e1 : Rows.smellTrueSpec.fn H ([d0] ++ []) = { results := [.lit (.bool true)], args := [d0] } := by simp [Rows.smellTrueSpec]
 have hcells : ∀ i : Nat, i < len -> ∃ sb so c e fr x, a0 = some ⟨sb, so, none⟩ /\ Bql W sb = some (false, .cells c e fr) /\ c[so + i]? = some (.int .i64 x) := by
  rcases open_ints Tryz.underlying22 Tryz.underlying3 cellsK hf with ⟨hcs, _⟩ | ⟨a, len', cap', zs, hcs, _, hl, hm, hz, hx, hcell, hwz⟩
  ·simp [Value.cells] at hcs
   intro i hi
   omega
  ·simp [Value.cells] at hcs
   obtain ⟨rfl, rfl, rfl⟩ := hcs
   intro i hi
   simp only [if_true] at hz
   have hc := hcell i (by omega)
   obtain ⟨b, off, spot⟩ := a
   have hspot : spot = none := by simpa [Addr.add] using World.cell?_spot (hcell 0 (by omega))
   subst hspot
   rw [add_plain] at hc
   unfold World.cell? at hc
   split at hc
   ·rename_i c e fr hb
    exact ⟨b, off, c, e, fr, _, rfl, by simp [Bql, hb], by simpa using hc⟩
   ·cases hc
 have hlt : ∀ x ∈ p, x.block < W.heap.size := fun x hx => by simpa using hW'.lt x (by simpa using hx)
 obtain ⟨N, last, o, w', t', r1, r2, r3, v, hv, ⟨rfl, hB⟩, r4⟩ := (lstrue_spec (Bql W) a0 len cap hcells).goodW Tryz.func7 (results_tmp Tryz.results7 _) (by kernel_rfl)
 refine ⟨N, last, o, w', t', r1, r2, r3, _, hv, ?_, r4⟩
 have hb := hB.below
 refine ⟨_, _, _, [], p, [], hW', ?_, ?_, ?_, hB.kept _, fun h => by cases h⟩
 ·rw [e1]; exact trodAll_mk1 (shut_bool Tryz.underlying4 true)
 ·rw [e1]
  have t := trodAll_mk1 (DataW.Trod.of_heap (w := { w' with tape := W.tape }) (w' := w') rfl (Below.trod laidOutK (by kernel_rfl) (of_decide_eq_true (by kernel_rfl)) h0k hb hlt))
  exact t
 ·rw [e1]; rfl
end Go.Proofs.YtkcomnkgdifboaaGreatDoor
end
section
namespace Go.Proofs.YtkcomnkgdifboaaGreatDoor
open Go Go.X Go.ChangeShapes Go.WideShapes Go.RowKit
theorem jEnter : Program.mayEnter Tryz.pinned.checked.prog = true := factEnter
theorem jLift : (Rows.smellTrueRow.lifted == Program.liftsFinal Tryz.pinned.checked.prog) = true := by rw [show Program.liftsFinal Tryz.pinned.checked.prog = Rows.smellTrueRow.lifted from factLift]; exact beq_self_eq_true _
theorem jMake : (Program.make Tryz.pinned.checked.prog == some Rows.smellTrueRow.make) = true := by rw [show Program.make Tryz.pinned.checked.prog = some Rows.smellTrueRow.make from factMake]; exact beq_self_eq_true _
set_option maxRecDepth 100000 in
theorem jf : joinedFacts Tryz.pinned.checked.prog 7 Tryz.f7 Rows.smellTrueSpec Rows.smellTrueRow = true := by
 unfold joinedFacts
 simp only [jEnter, jLift, jMake, Bool.and_true]
 kernel_rfl
set_option maxRecDepth 100000 in
theorem smellTrue_said : Rows.SmellTrueSaid :=
 OpenClaim.holds_of_wide_leaving 7 Tryz.f7 rfl rfl rfl rfl rfl rfl rfl ⟨rfl, rfl, rfl, rfl, rfl⟩ rfl rfl rfl rfl rfl (by kernel_rfl) Tryz.func7 jf
  (of_decide_eq_true (by kernel_rfl)) (by unfold Func.isWrapper; rw [if_neg (of_decide_eq_false (by kernel_rfl))]; exact ⟨rfl, rfl⟩)
  (fun os started H enc _ => law_lifted os started H enc)
end Go.Proofs.YtkcomnkgdifboaaGreatDoor
end
