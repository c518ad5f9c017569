/- Texts LawB BLoad PBarrowLoad SBarrowLoad. -/
import Derived.Test.YtofmadjgbcopdaaGreatDoorJ10
import Derived.Test.YtofmadjgbcopdaaGreatDoorAFactA
import Derived.Test.YtofmadjgbcopdaaGreatDoorAFactB
import Derived.Test.YtofmadjgbcopdaaGreatDoorAFactC
set_option linter.defProp false
set_option linter.unusedSimpArgs false
set_option linter.unusedVariables false
set_option maxRecDepth 100000
set_option maxHeartbeats 2000000
section
namespace Go.Proofs.YtofmadjgbcopdaaGreatDoor
open Go Go.X
theorem comps_sub {m m' : Nat} (h : m <= m') : ∀ N, (comps m N).Sublist (comps m' N) := by
 intro N
 induction N using Nat.strongRecOn with
 | _ N ih =>
 by_cases h0 : N = 0
 ·subst h0; rw [comps_zero, comps_zero]; exact List.Sublist.refl _
 ·rw [comps_pos m N (by omega), comps_pos m' N (by omega)]
  have key : ∀ k, k <= N -> ((List.range k).flatMap fun i => (comps m (N - (i + 1))).map fun l => (i + 1 : Int) :: l).Sublist ((List.range k).flatMap fun i => (comps m' (N - (i + 1))).map fun l => (i + 1 : Int) :: l) := by
   intro k
   induction k with
   | zero => intro _; simp
   | succ k ihk =>
    intro hk
    rw [List.range_succ, List.flatMap_append, List.flatMap_append]
    refine (ihk (by omega)).append ?_
    simp only [List.flatMap_cons, List.flatMap_nil, List.append_nil]
    exact (ih (N - (k + 1)) (by omega)).map _
  refine (key (min N m) (by omega)).trans ?_
  obtain ⟨d, hd⟩ : ∃ d, min N m' = min N m + d := ⟨min N m' - min N m, by omega⟩
  rw [hd, List.range_add, List.flatMap_append]
  exact List.sublist_append_left _ _
theorem rideF_congr {n n' : HN} (hx : n'.xs = n.xs) (hn : n'.notice = n.notice) (hb : n'.barrows = n.barrows) (js bs : List Int) (f m : Nat) (mi : Int) : rideF n' js bs f m mi = rideF n js bs f m mi := by
 simp only [rideF, HN.due, hx, hn, hb]
theorem lateG_congr {n n' : HN} (hx : n'.xs = n.xs) (hn : n'.notice = n.notice) (hb : n'.barrows = n.barrows) (js : List Int) (mi : Int) : ∀ (pl : List Nat) (bs : List Int) (f : Nat), lateG n' js mi pl bs f = lateG n js mi pl bs f
 | [], _, _ => rfl
 | m :: pl, bs, f => by
  rw [lateG, lateG, rideF_congr hx hn hb, lateG_congr hx hn hb js mi pl]
  simp only [nextB, hb, lateR, HN.due, hx]
theorem countF_load {n n' : HN} (hn : n' = { n with load := n'.load }) (hl : n.load <= n'.load) (mi : Int) : countF n mi <= countF n' mi := by
 have hj : n'.jobs = n.jobs := by rw [hn]; rfl
 have hf : fineI n' n'.jobs mi = fineI n n.jobs mi := by
  funext l
  unfold fineI fineB
  rw [hj, lateG_congr (n := n) (n' := n') (by rw [hn]) (by rw [hn]) (by rw [hn])]
 unfold countF
 rw [hf, hj]
 exact ((comps_sub (by omega : n.load.toNat <= n'.load.toNat) _).filter _).length_le
theorem bestL_le {α : Type} (f : α -> Int) : ∀ (L : List α) (x : α), (∀ y ∈ x :: L, f (L.foldl (fun b y => if f y < f b then y else b) x) <= f y) /\ (L.foldl (fun b y => if f y < f b then y else b) x) ∈ x :: L
 | [], x => by simp
 | z :: L, x => by
  simp only [List.foldl_cons]
  by_cases h : f z < f x
  ·rw [if_pos h]
   obtain ⟨h1, h2⟩ := bestL_le f L z
   refine ⟨fun y hy => ?_, List.mem_cons_of_mem _ h2⟩
   rcases List.mem_cons.1 hy with rfl | hy
   ·have := h1 z List.mem_cons_self; omega
   ·exact h1 y hy
  ·rw [if_neg h]
   obtain ⟨h1, h2⟩ := bestL_le f L x
   refine ⟨fun y hy => ?_, ?_⟩
   ·rcases List.mem_cons.1 hy with rfl | hy
    ·exact h1 _ List.mem_cons_self
    ·rcases List.mem_cons.1 hy with rfl | hy
     ·have := h1 x List.mem_cons_self; omega
     ·exact h1 y (List.mem_cons_of_mem _ hy)
   ·rcases List.mem_cons.1 h2 with h2 | h2
    ·rw [h2]; exact List.mem_cons_self
    ·exact List.mem_cons_of_mem _ (List.mem_cons_of_mem _ h2)
theorem bestL_least {α : Type} {f : α -> Int} {L : List α} {b : α} (h : bestL f L = some b) : b ∈ L /\ ∀ y ∈ L, f b <= f y := by
 cases L with
 | nil => cases h
 | cons x L =>
  obtain rfl : List.foldl _ _ _ = b := Option.some.inj h
  exact ⟨(bestL_le f L x).2, (bestL_le f L x).1⟩
theorem best_load {n n' : HN} (hn : n' = { n with load := n'.load }) (hl : n.load <= n'.load) (mi : Int) {a b : List Int} (ha : bestF n mi = some a) (hb : bestF n' mi = some b) : worstI n' n'.jobs mi b <= worstI n n.jobs mi a := by
 have hj : n'.jobs = n.jobs := by rw [hn]; rfl
 have hf : worstI n' n'.jobs mi = worstI n n.jobs mi := by
  funext l
  unfold worstI
  rw [hj, lateG_congr (n := n) (n' := n') (by rw [hn]) (by rw [hn]) (by rw [hn])]
 unfold bestF at ha hb
 rw [hf, hj] at hb
 rw [hf]
 exact (bestL_least hb).2 a ((comps_sub (by omega : n.load.toNat <= n'.load.toNat) _).subset (bestL_least ha).1)
def laterB (by_ : Int) (bs bs' : List Int) : Prop := bs.length = bs'.length /\ ∀ i, i < bs.length -> (bs.getD i 0 = -1048576 /\ bs'.getD i 0 = -1048576) ∨ (-1000 <= bs.getD i 0 /\ bs'.getD i 0 = bs.getD i 0 + by_)
theorem laterB.pick {by_ : Int} {bs bs' : List Int} (h0 : 0 <= by_) (h : laterB by_ bs bs') : ∀ B, B <= bs.length -> pickB bs' B = pickB bs B
 | 0, _ => rfl
 | B + 1, hB => by
  unfold pickB
  have ih := h.pick h0 B (by omega)
  rw [ih]
  by_cases hB0 : B = 0
  ·rw [if_pos hB0, if_pos hB0]
  ·rw [if_neg hB0, if_neg hB0]
   have hp := pickB_lt bs B (by omega)
   have h1 := h.2 B (by omega)
   have h2 := h.2 (pickB bs B) (by omega)
   have e : bs'.getD B 0 < bs'.getD (pickB bs B) 0 ↔ bs.getD B 0 < bs.getD (pickB bs B) 0 := by omega
   by_cases hc : bs.getD B 0 < bs.getD (pickB bs B) 0
   ·rw [if_pos hc, if_pos (e.2 hc)]
   ·rw [if_neg hc, if_neg (mt e.1 hc)]
def RideV.later (r : RideV) (by_ : Int) : RideV := ⟨r.barrow, r.out + by_, r.back + by_⟩
end Go.Proofs.YtofmadjgbcopdaaGreatDoor
end
section
namespace Go.Proofs.YtofmadjgbcopdaaGreatDoor
open Go Go.X
def y12_117 := And.intro @callF21 (And.intro @callF41 (And.intro (fun H => ex_alloc (H := H) (P := Tryz.prog) (h := Tryz.zeroValue29)) (And.intro (fun H => storeAt_agg (H := H) Tryz.sizeOf29) (And.intro (fun H => loadAt_aggE (H := H) Tryz.underlying29 rfl Tryz.sizeOf29) (And.intro (fun H => fieldAt_eq (H := H) Tryz.underlying29 (i := 5) rfl (off := 8) rfl Tryz.sizeOf3) (And.intro (fun H => loadAt_one (H := H) Tryz.underlying3 rfl) (And.intro @min_int (And.intro (fun H => storeAt_int (H := H) Tryz.sizeOf3) (And.intro @callF53 (And.intro @callF54 @callF20))))))))))
theorem bload_spec (H : Hp) (sa : Option Addr) (sl sc : Nat) (hs : ∀ i : Nat, i < sl -> ∃ sb so c e fr x, sa = some ⟨sb, so, none⟩ /\ H sb = some (false, .cells c e fr) /\ c[so + i]? = some (.int .i64 x)) :
  FnX Tryz.prog (.co Tryz.prog) 12 #[.slice sa sl sc] H fun e _ => e = .returned (.bool true) := by
 refine FnX_start Tryz.func12 rfl Tryz.ntmps12 (by simp) ?_
 (refine @unH _ ?_; refine zA y12_117 ?_; (repeat (refine inC ?_; intro hc)); try (refine inK ?_; intro K hK))
 refine (newTin_spec _ H sa sl sc hs 240 (by omega)).runs.mono ?_
 rintro _ H1 ⟨tb, rfl, l1, hT⟩
 ((try (refine @unH _ ?_; refine zX y12_117 ?_)); (try (refine hK _ _ ?_; clear hK K; (try simp only [nq, ↓reduceIte, Nat.reduceEqDiff]))); refine @unH _ ?_; refine zA y12_117 ?_; (repeat (refine inC ?_; intro hc)); try (refine inK ?_; intro K hK))
 refine (made_spec _ H1 tb 0 7 (by omega) hT).runs.mono ?_
 rintro _ H2 ⟨n, v, jv, pv, pl, mi, rfl, hd2, hx8, hj2, hp2, hok, hm1, hm20, _, _⟩
 clear hT hs l1
 obtain ⟨hj8, hjb, _⟩ := hd2.jobs
 have l1 := hd2.l1
 have l3 := hd2.l3
 obtain ⟨lx, hlx⟩ : ∃ lx : Int, lx = min 3 (n.load + 1) := ⟨_, rfl⟩
 have hin := fun H' (h' : HaulIn H' n v) => ({ h' with l1 := by show 1 <= lx; omega, l3 := by show lx <= 3; omega } : HaulIn H' { n with load := lx } v)
 have hc1 := fun H' (h' : HaulIn H' n v) => bcount_spec (.co Tryz.prog) H' n v h' mi hm1 hm20 hj8 hjb
 have hc2 := fun H' (h' : HaulIn H' n v) => bcount_spec (.co Tryz.prog) H' { n with load := lx } v (hin H' h') mi hm1 hm20 hj8 hjb
 have hb1 := fun H' (h' : HaulIn H' n v) => Best_spec (.co Tryz.prog) H' n v h' hj8 hjb mi hm1 hm20
 have hb2 := fun H' (h' : HaulIn H' n v) => Best_spec (.co Tryz.prog) H' { n with load := lx } v (hin H' h') hj8 hjb mi hm1 hm20
 have hlc := countF_load (n := n) (n' := { n with load := lx }) rfl (by show n.load <= lx; omega) mi
 have hlb := fun a b => best_load (n := n) (n' := { n with load := lx }) rfl (by show n.load <= lx; omega) mi (a := a) (b := b)
 clear hin
 generalize countF n mi = C1 at *
 generalize countF { n with load := lx } mi = C2 at *
 replace hlc : (C1 : Int) <= (C2 : Int) := by omega
 obtain ⟨sv, cv, tv, xv⟩ := v
 obtain ⟨a1, n1, c1, hsv⟩ := hd2.day.st.isSlice
 obtain ⟨a2, n2, c2, hcv⟩ := hd2.day.calls.isSlice
 obtain ⟨a3, n3, c3, htv⟩ := hd2.day.truth.isSlice
 obtain ⟨a4, n4, c4, hxv⟩ := hd2.times.isSlice
 simp only [] at hsv hcv htv hxv
 subst hsv hcv htv hxv
 obtain ⟨a5, n5, c5, rfl⟩ := hj2.isSlice
 obtain ⟨a6, n6, c6, rfl⟩ := hp2.isSlice
 simp only [HN.agg] at hc1 hc2 hb1 hb2 ⊢
 replace hc1 : SameP _ := hc1
 replace hc2 : SameP _ := hc2
 replace hb1 : SameP _ := hb1
 replace hb2 : SameP _ := hb2
 replace hlb : SameP _ := hlb
 replace hlx : SameP _ := hlx
 clear hjb hok hj2 hp2
 ((try (refine @unH _ ?_; refine zX y12_117 ?_)); (try (refine hK _ _ ?_; clear hK K; (try simp only [nq, ↓reduceIte, Nat.reduceEqDiff]))); refine @unH _ ?_; refine zA y12_117 ?_; (repeat (refine inC ?_; intro hc)); try (refine inK ?_; intro K hK))
 (intro hb hhb; generalize hG : Hp.set _ hb _ = H3; have lH3 := le_of_set hG hhb; have vhb := at_of_set hG; clear hG)
 have hd3 := hd2.le lH3
 clear hd2 lH3 hhb
 ((try (refine @unH _ ?_; refine zX y12_117 ?_)); (try (refine hK _ _ ?_; clear hK K; (try simp only [nq, ↓reduceIte, Nat.reduceEqDiff]))); refine @unH _ ?_; refine zA y12_117 ?_; (repeat (refine inC ?_; intro hc)); try (refine inK ?_; intro K hK))
 intro xb hxb
 have nhx : hb ≠ xb := ne_new vhb hxb
 have nxh := nhx.symm
 have hd4 := hd3.le (Hp.le_set hxb (o := (.cells #[.int .i64 n.places, .int .i64 n.pieces, .slice a1 n1 c1, .slice a2 n2 c2, .slice a3 n3 c3, .int .i64 n.rule, .slice a4 n4 c4, .int .i64 n.notice, .int .i64 n.load, .int .i64 n.barrows, .int .i64 n.lo, .int .i64 n.hi] 29 (0, 0))))
 have vhb4 := Hp.le_set hxb (o := (.cells #[.int .i64 n.places, .int .i64 n.pieces, .slice a1 n1 c1, .slice a2 n2 c2, .slice a3 n3 c3, .int .i64 n.rule, .slice a4 n4 c4, .int .i64 n.notice, .int .i64 n.load, .int .i64 n.barrows, .int .i64 n.lo, .int .i64 n.hi] 29 (0, 0))) _ _ vhb
 have vxb4 : (H3.set xb (.cells #[.int .i64 n.places, .int .i64 n.pieces, .slice a1 n1 c1, .slice a2 n2 c2, .slice a3 n3 c3, .int .i64 n.rule, .slice a4 n4 c4, .int .i64 n.notice, .int .i64 n.load, .int .i64 n.barrows, .int .i64 n.lo, .int .i64 n.hi] 29 (0, 0))) xb = _ := set_at
 generalize H3.set xb (.cells #[.int .i64 n.places, .int .i64 n.pieces, .slice a1 n1 c1, .slice a2 n2 c2, .slice a3 n3 c3, .int .i64 n.rule, .slice a4 n4 c4, .int .i64 n.notice, .int .i64 n.load, .int .i64 n.barrows, .int .i64 n.lo, .int .i64 n.hi] 29 (0, 0)) = H4 at *
 clear hd3 vhb hxb
 ((try (refine @unH _ ?_; refine zX y12_117 ?_)); (try (refine hK _ _ ?_; clear hK K; (try simp only [nq, ↓reduceIte, Nat.reduceEqDiff]))); refine @unH _ ?_; refine zA y12_117 ?_; (repeat (refine inC ?_; intro hc)); try (refine inK ?_; intro K hK))
 rw [show (if n.load + 1 < 3 then n.load + 1 else 3) = lx by rw [show lx = _ from hlx]; split <;> omega]
 have hd5 := hd4.move (set_keeps vxb4 (by decide) (by decide) (o := (.cells #[.int .i64 n.places, .int .i64 n.pieces, .slice a1 n1 c1, .slice a2 n2 c2, .slice a3 n3 c3, .int .i64 n.rule, .slice a4 n4 c4, .int .i64 n.notice, .int .i64 lx, .int .i64 n.barrows, .int .i64 n.lo, .int .i64 n.hi] 29 (0, 0))))
 have vhb5 : (H4.set xb (.cells #[.int .i64 n.places, .int .i64 n.pieces, .slice a1 n1 c1, .slice a2 n2 c2, .slice a3 n3 c3, .int .i64 n.rule, .slice a4 n4 c4, .int .i64 n.notice, .int .i64 lx, .int .i64 n.barrows, .int .i64 n.lo, .int .i64 n.hi] 29 (0, 0))) hb = _ := (set_ne nhx).trans vhb4
 have vxb5 : (H4.set xb (.cells #[.int .i64 n.places, .int .i64 n.pieces, .slice a1 n1 c1, .slice a2 n2 c2, .slice a3 n3 c3, .int .i64 n.rule, .slice a4 n4 c4, .int .i64 n.notice, .int .i64 lx, .int .i64 n.barrows, .int .i64 n.lo, .int .i64 n.hi] 29 (0, 0))) xb = _ := set_at
 generalize H4.set xb (.cells #[.int .i64 n.places, .int .i64 n.pieces, .slice a1 n1 c1, .slice a2 n2 c2, .slice a3 n3 c3, .int .i64 n.rule, .slice a4 n4 c4, .int .i64 n.notice, .int .i64 lx, .int .i64 n.barrows, .int .i64 n.lo, .int .i64 n.hi] 29 (0, 0)) = H5 at *
 clear hd4 vhb4 vxb4 nhx nxh
 ((try (refine @unH _ ?_; refine zX y12_117 ?_)); (try (refine hK _ _ ?_; clear hK K; (try simp only [nq, ↓reduceIte, Nat.reduceEqDiff]))); refine @unH _ ?_; refine zA y12_117 ?_; (repeat (refine inC ?_; intro hc)); try (refine inK ?_; intro K hK))
 have hr := (show ∀ H', HaulIn H' n _ -> _ from hc1) H5 hd5
 refine hr.runs.mono ?_
 clear hr hc1
 rintro _ H6 ⟨rfl, lH6⟩
 have hd6 := hd5.le lH6
 have vhb6 := lH6 _ _ vhb5
 have vxb6 := lH6 _ _ vxb5
 clear hd5 vhb5 vxb5 lH6
 ((try (refine @unH _ ?_; refine zX y12_117 ?_)); (try (refine hK _ _ ?_; clear hK K; (try simp only [nq, ↓reduceIte, Nat.reduceEqDiff]))); refine @unH _ ?_; refine zA y12_117 ?_; (repeat (refine inC ?_; intro hc)); try (refine inK ?_; intro K hK))
 have hr := (show ∀ H', HaulIn H' n _ -> _ from hc2) H6 hd6
 refine hr.runs.mono ?_
 clear hr hc2
 rintro _ H7 ⟨rfl, lH7⟩
 have hd7 := hd6.le lH7
 have vhb7 := lH7 _ _ vhb6
 have vxb7 := lH7 _ _ vxb6
 clear hd6 vhb6 vxb6 lH7
 ((try (refine @unH _ ?_; refine zX y12_117 ?_)); (try (refine hK _ _ ?_; clear hK K; (try simp only [nq, ↓reduceIte, Nat.reduceEqDiff]))); refine @unH _ ?_; refine zA y12_117 ?_; (repeat (refine inC ?_; intro hc)); try (refine inK ?_; intro K hK))
 have hr := (show ∀ H', HaulIn H' n _ -> _ from hb1) H7 hd7
 refine hr.runs.mono ?_
 clear hr hb1
 rintro _ H8 ⟨w8, xs8, rfl, lH8, hbf8, hw8⟩
 have hd8 := hd7.le lH8
 have vxb8 := lH8 _ _ vxb7
 clear hd7 vhb7 vxb7 lH8
 obtain ⟨a7, n7, c7, rfl⟩ := hw8.isSlice
 replace hbf8 : SameP _ := hbf8
 ((try (refine @unH _ ?_; refine zX y12_117 ?_)); (try (refine hK _ _ ?_; clear hK K; (try simp only [nq, ↓reduceIte, Nat.reduceEqDiff]))); refine @unH _ ?_; refine zA y12_117 ?_; (repeat (refine inC ?_; intro hc)); try (refine inK ?_; intro K hK))
 have hr := (show ∀ H', HaulIn H' n _ -> _ from hb2) H8 hd8
 refine hr.runs.mono ?_
 clear hr hb2
 rintro _ H9 ⟨w9, xs9, rfl, lH9, hbf9, hw9⟩
 have hq := (show ∀ a b, bestF n mi = some a -> bestF _ mi = some b -> _ from hlb) xs8 xs9 hbf8 hbf9
 obtain ⟨a8, n8, c8, rfl⟩ := hw9.isSlice
 clear hlb hbf8 hbf9 hw8 hw9 hd8
 generalize worstI n n.jobs mi xs8 = q8 at *
 generalize worstI _ _ mi xs9 = q9 at *
 ((try (refine @unH _ ?_; refine zX y12_117 ?_)); (try (refine hK _ _ ?_; clear hK K; (try simp only [nq, ↓reduceIte, Nat.reduceEqDiff]))); refine @unH _ ?_; refine zA y12_117 ?_; (repeat (refine inC ?_; intro hc)); try (refine inK ?_; intro K hK))
 refine (driven_spec H9).runs.mono ?_
 rintro _ H10 ⟨rfl, _⟩
 ((try (refine @unH _ ?_; refine zX y12_117 ?_)); (try (refine hK _ _ ?_; clear hK K; (try simp only [nq, ↓reduceIte, Nat.reduceEqDiff]))); refine @unH _ ?_; refine zA y12_117 ?_; (repeat (refine inC ?_; intro hc)); try (refine inK ?_; intro K hK))
 (refine wpX_ret ?_; (try simp only [nq, ↓reduceIte, Nat.reduceEqDiff]); rw [bodyX_ret, results_one Tryz.results12 (by decide)]; simp only [upd_get, Nat.reduceEqDiff, ↓reduceIte])
end Go.Proofs.YtofmadjgbcopdaaGreatDoor
end
section
namespace Go.Proofs.YtofmadjgbcopdaaGreatDoor
open Go Go.X Go.ChangeShapes Go.WideShapes Go.RowKit
set_option maxRecDepth 100000 in
theorem law_lifted (os : Os) (started : os.Started) (H : Type) (enc : TypeId × Value -> H) :
  ReturnsInLeavingWide {} Tryz.checked os 12 .any (fun w args => (Rows.barrowLoadSpec.pre enc Tryz.prog Tryz.f12 [] false w args /\ laidMetH Tryz.prog [("errors.errorType", Rows.laid_errors_errorType)] w) /\ sizedMet enc Tryz.prog Tryz.f12 (OpenSpec.ofChange Rows.barrowLoadSpec) false w args)
   (Rows.barrowLoadSpec.post enc Tryz.prog Tryz.f12 false true false false) := by
 refine leaving_of_change_and (C := Tryz.checked) (X := fun w _ => laidMetH Tryz.prog [("errors.errorType", Rows.laid_errors_errorType)] w) (fun _ _ _ hh h => h.of_heap hh) ownK started Tryz.func12
  (ChangeSpec.witness_at (enc := enc) (C := Tryz.checked) (os := os) (X := fun w _ => laidMetH Tryz.prog [("errors.errorType", Rows.laid_errors_errorType)] w) false (laidWorld os) #[.slice none 0 0] 8 rfl (by kernel_rfl) (by kernel_rfl) (by kernel_rfl) (by kernel_rfl) (by kernel_rfl) (laidWorld_met os _)) ?_
 intro W base args ds gs before hval0 hW hL
 have hval : ∀ (j : Nat) t v, Tryz.f12.params[j]? = some t -> args[j]? = some v -> Value.okWide Tryz.prog W .any base t v := hval0
 have hW' := hW
 obtain ⟨p, q, hA0, hV0, rfl, hfz, hnd⟩ := hW
 have hA : DataW.TrodAll enc Tryz.prog W 0 (fun _ => true) true Tryz.f12.params.toList args.toList ds p := hA0
 have hV : DataW.TrodVars enc Tryz.prog W (fun _ => true) [] gs q := hV0
 rw [Tryz.params12] at hA hval
 obtain ⟨v0, d0, rfl, rfl, h0⟩ := trodAll_one hA
 obtain ⟨a0, len, cap, rfl⟩ := okWide_slice Tryz.underlying22 (hval 0 22 v0 rfl rfl)
 have h0k := h0
 obtain ⟨fuel, hf⟩ := h0
 obtain ⟨rfl, rfl⟩ : gs = [] /\ q = [] := by
  cases gs with
  | nil => exact ⟨rfl, hV⟩
  | cons g r => exact absurd hV (by intro h; cases h)
 have e1 : Rows.barrowLoadSpec.fn H ([d0] ++ []) = { results := [.lit (.bool true)], args := [d0] } := by simp [Rows.barrowLoadSpec]
 have hcells : ∀ i : Nat, i < len -> ∃ sb so c e fr x, a0 = some ⟨sb, so, none⟩ /\ allShared W sb = some (false, .cells c e fr) /\ c[so + i]? = some (.int .i64 x) := by
  rcases open_ints Tryz.underlying22 Tryz.underlying3 cellsK hf with ⟨hcs, _⟩ | ⟨a, len', cap', zs, hcs, _, hl, hm, hz, hx, hcell, hwz⟩
  ·simp [Value.cells] at hcs
   intro i hi
   omega
  ·simp [Value.cells] at hcs
   obtain ⟨rfl, rfl, rfl⟩ := hcs
   intro i hi
   simp only [if_true] at hz
   have hc := hcell i (by omega)
   obtain ⟨b, off, spot⟩ := a
   have hspot : spot = none := by simpa [Addr.add] using World.cell?_spot (hcell 0 (by omega))
   subst hspot
   rw [add_plain] at hc
   unfold World.cell? at hc
   split at hc
   ·rename_i c e fr hb
    exact ⟨b, off, c, e, fr, _, rfl, by simp [allShared, hb], by simpa using hc⟩
   ·cases hc
 have hlt : ∀ x ∈ p, x.block < W.heap.size := fun x hx => by simpa using hW'.lt x (by simpa using hx)
 obtain ⟨N, last, o, w', t', r1, r2, r3, v, hv, ⟨rfl, hB⟩, r4⟩ := (bload_spec (allShared W) a0 len cap hcells).good Tryz.func12 (results_tmp Tryz.results12 _) (by kernel_rfl)
 refine ⟨N, last, o, w', t', r1, r2, r3, _, hv, ?_, r4⟩
 have hb := hB.below
 refine ⟨_, _, _, [], p, [], hW', ?_, ?_, ?_, hB.kept _, fun h => by cases h⟩
 ·rw [e1]; exact trodAll_mk1 (shut_bool Tryz.underlying4 true)
 ·rw [e1]
  have t := trodAll_mk1 (DataW.Trod.of_heap (w := { w' with tape := W.tape }) (w' := w') rfl (Below.trod laidOutK (by kernel_rfl) (of_decide_eq_true (by kernel_rfl)) h0k hb hlt))
  exact t
 ·rw [e1]; rfl
end Go.Proofs.YtofmadjgbcopdaaGreatDoor
end
section
namespace Go.Proofs.YtofmadjgbcopdaaGreatDoor
open Go Go.X Go.ChangeShapes Go.WideShapes Go.RowKit
theorem jEnter : Program.mayEnter Tryz.pinned.checked.prog = true := factEnter
theorem jLift : (Rows.barrowLoadRow.lifted == Program.liftsFinal Tryz.pinned.checked.prog) = true := by rw [show Program.liftsFinal Tryz.pinned.checked.prog = Rows.barrowLoadRow.lifted from factLift]; exact beq_self_eq_true _
theorem jMake : (Program.make Tryz.pinned.checked.prog == some Rows.barrowLoadRow.make) = true := by rw [show Program.make Tryz.pinned.checked.prog = some Rows.barrowLoadRow.make from factMake]; exact beq_self_eq_true _
set_option maxRecDepth 100000 in
theorem jf : joinedFacts Tryz.pinned.checked.prog 12 Tryz.f12 Rows.barrowLoadSpec Rows.barrowLoadRow = true := by
 unfold joinedFacts
 simp only [jEnter, jLift, jMake, Bool.and_true]
 kernel_rfl
set_option maxRecDepth 100000 in
theorem barrowLoad_said : Rows.BarrowLoadSaid :=
 OpenClaim.holds_of_wide_leaving 12 Tryz.f12 rfl rfl rfl rfl rfl rfl rfl ⟨rfl, rfl, rfl, rfl, rfl⟩ rfl rfl rfl rfl rfl (by kernel_rfl) Tryz.func12 jf
  (of_decide_eq_true (by kernel_rfl)) (by unfold Func.isWrapper; rw [if_neg (of_decide_eq_false (by kernel_rfl))]; exact ⟨rfl, rfl⟩)
  (fun os started H enc _ => law_lifted os started H enc)
end Go.Proofs.YtofmadjgbcopdaaGreatDoor
end
