/- Texts LawB BRule PBarrowRule SBarrowRule. -/
import Derived.Test.YtofmadjgbcopdaaGreatDoorJ10
import Derived.Test.YtofmadjgbcopdaaGreatDoorAFactA
import Derived.Test.YtofmadjgbcopdaaGreatDoorAFactB
import Derived.Test.YtofmadjgbcopdaaGreatDoorAFactC
set_option linter.defProp false
set_option linter.unusedSimpArgs false
set_option linter.unusedVariables false
set_option maxRecDepth 100000
set_option maxHeartbeats 2000000
section
namespace Go.Proofs.YtofmadjgbcopdaaGreatDoor
open Go Go.X
theorem HaulIn.due_mono {H : Hp} {n : HN} {v : HV} (h : HaulIn H n v) : ∀ a b, a <= b -> b < n.jobs.length -> n.due n.jobs a <= n.due n.jobs b := by
 intro a b hab hb
 obtain ⟨_, hj2, hj3⟩ := h.jobs
 have ea : n.jobs.getD a 0 = n.jobs[a] := by simp [List.getD, List.getElem?_eq_getElem (show a < n.jobs.length by omega)]
 have eb : n.jobs.getD b 0 = n.jobs[b] := by simp [List.getD, List.getElem?_eq_getElem hb]
 have ha := hj2 _ (List.getElem_mem (show a < n.jobs.length by omega))
 have hbb := hj2 _ (List.getElem_mem hb)
 unfold HN.due
 rw [ea, eb]
 have hle : n.jobs[a] <= n.jobs[b] := by
  rcases Nat.lt_or_ge a b with hlt | hge
  ·exact Int.le_of_lt ((List.pairwise_iff_getElem.1 hj3) a b (by omega) hb hlt)
  ·obtain rfl : a = b := by omega
   exact Int.le_refl _
 generalize n.jobs[a] = x at *
 generalize n.jobs[b] = y at *
 have gx : n.xs.getD x.toNat 0 = n.xs[x.toNat]'(by omega) := by simp [List.getD, List.getElem?_eq_getElem (show x.toNat < n.xs.length by omega)]
 have gy : n.xs.getD y.toNat 0 = n.xs[y.toNat]'(by omega) := by simp [List.getD, List.getElem?_eq_getElem (show y.toNat < n.xs.length by omega)]
 rw [gx, gy]
 rcases Int.lt_or_le x y with hlt | hge
 ·exact (List.pairwise_iff_getElem.1 h.ok.2.1) x.toNat y.toNat (by omega) (by omega) (by omega)
 ·obtain rfl : x = y := by omega
  exact Int.le_refl _
theorem fineB_all {n : HN} {js : List Int} {mi : Int} {pl : List Nat} : fineB n js mi pl = true ↔ ∀ x ∈ lateG n js mi pl bs0 0, x = 0 := by
 unfold fineB
 rw [List.all_eq_true]
 exact ⟨fun h x hx => by simpa using h x hx, fun h x hx => by simpa using h x hx⟩
theorem countF_pos {n : HN} {mi : Int} : 0 < countF n mi ↔ ∃ pl : List Nat, pl.map (fun x : Nat => (x : Int)) ∈ comps n.load.toNat n.jobs.length /\ fineB n n.jobs mi pl = true := by
 unfold countF
 rw [List.length_pos_iff_exists_mem]
 constructor
 ·rintro ⟨l, hl⟩
  obtain ⟨h1, h2⟩ := List.mem_filter.1 hl
  obtain ⟨pl, rfl, _, _⟩ := comps_parts _ _ l h1
  exact ⟨pl, h1, by rwa [fineI_map] at h2⟩
 ·rintro ⟨pl, h1, h2⟩
  exact ⟨_, List.mem_filter.2 ⟨h1, by rwa [fineI_map]⟩⟩
theorem good_count {n : HN} {mi : Int} (hmono : ∀ a b, a <= b -> b < n.jobs.length -> n.due n.jobs a <= n.due n.jobs b) : goodF n n.jobs mi n.load.toNat n.jobs.length bs0 0 = true ↔ 0 < countF n mi := by
 rw [goodF_iff n n.jobs mi n.load.toNat hmono n.jobs.length bs0 0 (by omega), countF_pos]
 simp only [Nat.sub_zero, fineB_all]
theorem soF_count {n : HN} {mi p k : Int} {H : Hp} {v : HV} (h : HaulIn H (n.part p k) v) : soF n mi p k = true ↔ 0 < countF (n.part p k) mi := good_count h.due_mono
theorem countF_none {n : HN} {mi : Int} (h : n.jobs.length = 0) : countF n mi = 1 := by
 unfold countF
 rw [h, comps_zero]
 rfl
theorem find_hit {p : Int -> Bool} {lo : Int} : ∀ (N k : Nat), k < N -> p (lo + k) = true -> (∀ j : Nat, j < k -> p (lo + j) = false) -> (numsL lo N).find? p = some (lo + k) := fun N k hk hp hn => by
 unfold numsL
 rw [List.find?_map]
 have : (List.range N).find? (p ∘ fun i : Nat => lo + i) = some k := by
  rw [List.find?_range_eq_some]
  exact ⟨hp, List.mem_range.2 hk, fun j hj => by simp [hn j hj]⟩
 rw [this]
 rfl
theorem find_miss {p : Int -> Bool} {lo : Int} (N : Nat) (hn : ∀ j : Nat, j < N -> p (lo + j) = false) : (numsL lo N).find? p = none := by
 rw [List.find?_eq_none]
 intro x hx
 obtain ⟨i, hi, rfl⟩ := List.mem_map.1 hx
 rw [hn i (List.mem_range.1 hi)]
 simp
def laterB (by_ : Int) (bs bs' : List Int) : Prop := bs.length = bs'.length /\ ∀ i, i < bs.length -> (bs.getD i 0 = -1048576 /\ bs'.getD i 0 = -1048576) ∨ (-1000 <= bs.getD i 0 /\ bs'.getD i 0 = bs.getD i 0 + by_)
theorem laterB.pick {by_ : Int} {bs bs' : List Int} (h0 : 0 <= by_) (h : laterB by_ bs bs') : ∀ B, B <= bs.length -> pickB bs' B = pickB bs B
 | 0, _ => rfl
 | B + 1, hB => by
  unfold pickB
  have ih := h.pick h0 B (by omega)
  rw [ih]
  by_cases hB0 : B = 0
  ·rw [if_pos hB0, if_pos hB0]
  ·rw [if_neg hB0, if_neg hB0]
   have hp := pickB_lt bs B (by omega)
   have h1 := h.2 B (by omega)
   have h2 := h.2 (pickB bs B) (by omega)
   have e : bs'.getD B 0 < bs'.getD (pickB bs B) 0 ↔ bs.getD B 0 < bs.getD (pickB bs B) 0 := by omega
   by_cases hc : bs.getD B 0 < bs.getD (pickB bs B) 0
   ·rw [if_pos hc, if_pos (e.2 hc)]
   ·rw [if_neg hc, if_neg (mt e.1 hc)]
def RideV.later (r : RideV) (by_ : Int) : RideV := ⟨r.barrow, r.out + by_, r.back + by_⟩
end Go.Proofs.YtofmadjgbcopdaaGreatDoor
end
section
namespace Go.Proofs.YtofmadjgbcopdaaGreatDoor
open Go Go.X
def y13_116 := And.intro @callF21 (And.intro @callF41 (And.intro (fun H => ex_alloc (H := H) (P := Tryz.prog) (h := Tryz.zeroValue29)) (And.intro (fun H => storeAt_agg (H := H) Tryz.sizeOf29) (And.intro (fun H => loadAt_aggE (H := H) Tryz.underlying29 rfl Tryz.sizeOf29) (And.intro @callF51 (And.intro (fun H => fieldAt_eq (H := H) Tryz.underlying29 (i := 2) rfl (off := 5) rfl Tryz.sizeOf3) (And.intro (fun H => storeAt_int (H := H) Tryz.sizeOf3) (And.intro @callF53 (And.intro (fun H => fieldAt_eq (H := H) Tryz.underlying29 (i := 0) rfl (off := 0) rfl Tryz.sizeOf25) (And.intro (fun H => loadAt_aggE (H := H) Tryz.underlying25 rfl Tryz.sizeOf25) (And.intro (fun H => fieldAt_eq (H := H) Tryz.underlying29 (i := 1) rfl (off := 4) rfl Tryz.sizeOf22) (And.intro (fun H => loadAt_one (H := H) Tryz.underlying22 rfl) (And.intro @callF39 @callF20)))))))))))))
theorem brule_spec (H : Hp) (sa : Option Addr) (sl sc : Nat) (hs : ∀ i : Nat, i < sl -> ∃ sb so c e fr x, sa = some ⟨sb, so, none⟩ /\ H sb = some (false, .cells c e fr) /\ c[so + i]? = some (.int .i64 x)) :
  FnX Tryz.prog (.co Tryz.prog) 13 #[.slice sa sl sc] H fun e _ => e = .returned (.bool true) := by
 refine FnX_start Tryz.func13 rfl Tryz.ntmps13 (by simp) ?_
 (refine @unH _ ?_; refine zA y13_116 ?_; (repeat (refine inC ?_; intro hc)); try (refine inK ?_; intro K hK))
 refine (newTin_spec _ H sa sl sc hs 240 (by omega)).runs.mono ?_
 rintro _ H1 ⟨tb, rfl, l1, hT⟩
 ((try (refine @unH _ ?_; refine zX y13_116 ?_)); (try (refine hK _ _ ?_; clear hK K; (try simp only [nq, ↓reduceIte, Nat.reduceEqDiff]))); refine @unH _ ?_; refine zA y13_116 ?_; (repeat (refine inC ?_; intro hc)); try (refine inK ?_; intro K hK))
 refine (made_spec _ H1 tb 0 6 (by omega) hT).runs.mono ?_
 rintro _ H2 ⟨n, v, jv, pv, pl, mi, rfl, hd2, hx8, hj2, hp2, hok, hm1, hm20, _, _⟩
 clear hT hs l1
 obtain ⟨hj8, hjb, _⟩ := hd2.jobs
 have hrl := fun H' (h' : HaulIn H' n v) => rule_spec (.co Tryz.prog) H' n v h' mi hm1 hm20
 have hin := fun H' (h' : HaulIn H' n v) (k : Int) (k0 : 0 <= k) (k3 : k <= 3) => ({ h' with r0 := k0, r3 := k3 } : HaulIn H' { n with rule := k } v)
 have hcs := fun H' (h' : HaulIn H' n v) (k : Int) (k0 : 0 <= k) (k3 : k <= 3) => bcount_spec (.co Tryz.prog) H' { n with rule := k } v (hin H' h' k k0 k3) mi hm1 hm20 (hin H' h' k k0 k3).jobs.1 (hin H' h' k k0 k3).jobs.2.1
 have hvr := fun H' (h' : HaulIn H' n v) (k : Int) (k0 : 0 <= k) (k3 : k <= 3) => vrun_spec (.co Tryz.prog) H' n.places n.pieces v.sv v.cv v.tv n.start n.xss n.ts h'.day k k0 k3
 have hso : ∀ k : Int, 0 <= k -> k <= 3 -> (soF n mi 3 k = true ↔ 0 < countF { n with rule := k } mi) := fun k k0 k3 => soF_count (p := 3) (hin H2 hd2 k k0 k3)
 have hno : ∀ k : Int, 0 <= k -> k <= 3 -> (rrun n.places k n.ts (rs0 n.start) n.ts.length).f = 0 -> countF { n with rule := k } mi = 1 := fun k k0 k3 hf => countF_none (by
  rw [(HN.jobs_run { n with rule := k } (hin H2 hd2 k k0 k3).numR).1]
  exact hf)
 generalize soF n mi 3 = P at *
 obtain ⟨C, hC⟩ : ∃ C : Int -> Nat, ∀ k, countF { n with rule := k } mi = C k := ⟨_, fun _ => rfl⟩
 obtain ⟨F, hF⟩ : ∃ F : Int -> Nat, ∀ k, (rrun n.places k n.ts (rs0 n.start) n.ts.length).f = F k := ⟨_, fun _ => rfl⟩
 simp only [hC, hF] at hcs hvr hso hno
 clear hin hC hF
 obtain ⟨sv, cv, tv, xv⟩ := v
 obtain ⟨a1, n1, c1, hsv⟩ := hd2.day.st.isSlice
 obtain ⟨a2, n2, c2, hcv⟩ := hd2.day.calls.isSlice
 obtain ⟨a3, n3, c3, htv⟩ := hd2.day.truth.isSlice
 obtain ⟨a4, n4, c4, hxv⟩ := hd2.times.isSlice
 simp only [] at hsv hcv htv hxv
 subst hsv hcv htv hxv
 obtain ⟨a5, n5, c5, rfl⟩ := hj2.isSlice
 obtain ⟨a6, n6, c6, rfl⟩ := hp2.isSlice
 simp only [HN.agg] at hrl hcs hvr ⊢
 replace hrl : SameP _ := hrl
 replace hcs : SameP _ := hcs
 replace hvr : SameP _ := hvr
 replace hso : SameP _ := hso
 replace hno : SameP _ := hno
 clear hjb hok hj2 hp2
 ((try (refine @unH _ ?_; refine zX y13_116 ?_)); (try (refine hK _ _ ?_; clear hK K; (try simp only [nq, ↓reduceIte, Nat.reduceEqDiff]))); refine @unH _ ?_; refine zA y13_116 ?_; (repeat (refine inC ?_; intro hc)); try (refine inK ?_; intro K hK))
 (intro hb hhb; generalize hG : Hp.set _ hb _ = H3; have lH3 := le_of_set hG hhb; have vhb := at_of_set hG; clear hG)
 have hd3 := hd2.le lH3
 clear hd2 lH3 hhb
 ((try (refine @unH _ ?_; refine zX y13_116 ?_)); (try (refine hK _ _ ?_; clear hK K; (try simp only [nq, ↓reduceIte, Nat.reduceEqDiff]))); refine @unH _ ?_; refine zA y13_116 ?_; (repeat (refine inC ?_; intro hc)); try (refine inK ?_; intro K hK))
 have hr := (show ∀ H', HaulIn H' n _ -> _ from hrl) H3 hd3
 refine hr.runs.mono ?_
 clear hr hrl
 rintro _ H4 ⟨lH4, y, cc, rfl, hyc⟩
 have hd4 := hd3.le lH4
 have vhb4 := lH4 _ _ vhb
 clear hd3 vhb lH4
 replace hyc : SameP _ := hyc
 ((try (refine @unH _ ?_; refine zX y13_116 ?_)); (try (refine hK _ _ ?_; clear hK K; (try simp only [nq, ↓reduceIte, Nat.reduceEqDiff]))); refine @unH _ ?_; refine zA y13_116 ?_; (repeat (refine inC ?_; intro hc)); try (refine inK ?_; intro K hK))
 refine wpX_loop (fun w a' H' => ∃ e, ∃ k : Nat, ∃ r : Int, w = 4 - k /\ k <= 4 /\ a' = act 86 e [] /\ e 3 = .pointer (some ⟨hb, 0, none⟩) /\ e 6 = .int .i64 mi /\ e 7 = .int .i64 y /\ e 8 = .int .i64 cc /\ e 9 = .int .i64 (k : Nat) /\ HaulIn H' n ⟨.slice a1 n1 c1, .slice a2 n2 c2, .slice a3 n3 c3, .slice a4 n4 c4⟩ /\
  H' hb = some (true, .cells #[.int .i64 n.places, .int .i64 n.pieces, .slice a1 n1 c1, .slice a2 n2 c2, .slice a3 n3 c3, .int .i64 r, .slice a4 n4 c4, .int .i64 n.notice, .int .i64 n.load, .int .i64 n.barrows, .int .i64 n.lo, .int .i64 n.hi] 29 (0, 0)) /\ ∀ j : Nat, j < k -> P (0 + j) = false) (n := 4) ?_ ?_
 ·exact ⟨_, 0, n.rule, rfl, by omega, rfl, rfl, rfl, rfl, rfl, rfl, hd4, vhb4, fun j h => by omega⟩
 ·clear hd4 vhb4 H4 H3
  rintro w a' H5 ⟨e, k, r, rfl, hk4, rfl, e3, e6, e7, e8, e9, hd5, vhb5, hall⟩
  replace hall : SameP _ := hall
  by_cases hlt : k < 4
  ·have k0 : (0 : Int) <= (k : Int) := by omega
   have k3 : (k : Int) <= 3 := by omega
   have hpk := (show ∀ k : Int, 0 <= k -> k <= 3 -> (P k = true ↔ 0 < C k) from hso) k k0 k3
   have hnk := (show ∀ k : Int, 0 <= k -> k <= 3 -> F k = 0 -> C k = 1 from hno) k k0 k3
   replace hpk : SameP _ := hpk
   replace hnk : SameP _ := hnk
   (refine @unH _ ?_; refine zA y13_116 ?_; (repeat (refine inC ?_; intro hc)); try (refine inK ?_; intro K hK))
   have hd6 := hd5.move (set_keeps vhb5 (by decide) (by decide) (o := (.cells #[.int .i64 n.places, .int .i64 n.pieces, .slice a1 n1 c1, .slice a2 n2 c2, .slice a3 n3 c3, .int .i64 (k : Nat), .slice a4 n4 c4, .int .i64 n.notice, .int .i64 n.load, .int .i64 n.barrows, .int .i64 n.lo, .int .i64 n.hi] 29 (0, 0))))
   have vhb6 : (H5.set hb (.cells #[.int .i64 n.places, .int .i64 n.pieces, .slice a1 n1 c1, .slice a2 n2 c2, .slice a3 n3 c3, .int .i64 (k : Nat), .slice a4 n4 c4, .int .i64 n.notice, .int .i64 n.load, .int .i64 n.barrows, .int .i64 n.lo, .int .i64 n.hi] 29 (0, 0))) hb = some (true, (.cells #[.int .i64 n.places, .int .i64 n.pieces, .slice a1 n1 c1, .slice a2 n2 c2, .slice a3 n3 c3, .int .i64 (k : Nat), .slice a4 n4 c4, .int .i64 n.notice, .int .i64 n.load, .int .i64 n.barrows, .int .i64 n.lo, .int .i64 n.hi] 29 (0, 0))) := set_at
   generalize H5.set hb (.cells #[.int .i64 n.places, .int .i64 n.pieces, .slice a1 n1 c1, .slice a2 n2 c2, .slice a3 n3 c3, .int .i64 (k : Nat), .slice a4 n4 c4, .int .i64 n.notice, .int .i64 n.load, .int .i64 n.barrows, .int .i64 n.lo, .int .i64 n.hi] 29 (0, 0)) = H6 at *
   clear hd5 vhb5
   have hr := (show ∀ H', HaulIn H' n _ -> ∀ k : Int, 0 <= k -> k <= 3 -> _ from hcs) H6 hd6 k k0 k3
   refine hr.runs.mono ?_
   clear hr
   rintro _ H7 ⟨rfl, lH7⟩
   have hd7 := hd6.le lH7
   have vhb7 := lH7 _ _ vhb6
   clear hd6 vhb6 lH7
   ((try (refine @unH _ ?_; refine zX y13_116 ?_)); (try (refine hK _ _ ?_; clear hK K; (try simp only [nq, ↓reduceIte, Nat.reduceEqDiff]))); refine @unH _ ?_; refine zA y13_116 ?_; (repeat (refine inC ?_; intro hc)); try (refine inK ?_; intro K hK))
   have hr := (show ∀ H', HaulIn H' n _ -> ∀ k : Int, 0 <= k -> k <= 3 -> _ from hvr) H7 hd7 k k0 k3
   refine hr.runs.mono ?_
   clear hr
   rintro _ H8 ⟨vv, rfl, lH8, hvv⟩
   have hd8 := hd7.le lH8
   have vhb8 := lH8 _ _ vhb7
   clear hd7 vhb7 lH8
   obtain ⟨a7, n7, c7, rfl⟩ := hvv.isSlice
   clear hvv
   generalize C (k : Int) = ck at *
   generalize F (k : Int) = fk at *
   have hcond : ((fk : Int) == 0) = true -> ck = 1 := fun h => (show fk = 0 -> ck = 1 from hnk) (by simpa using h)
   have hpos : 0 < ck ∨ ck = 0 := by omega
   rcases hpos with hpos | hz
   ·have hp : P k = true := (show P k = true ↔ 0 < ck from hpk).2 hpos
    have hm := find_hit (p := P) (lo := 0) 4 k hlt (by rw [Int.zero_add]; exact hp) hall
    have hy : y = 0 + (k : Int) /\ cc = 0 := by
     have h : match (numsL 0 4).find? P with
      | some x => y = x /\ cc = 0
      | none => y = 0 /\ cc = 11 := hyc
     rw [hm] at h
     exact h
    rw [Int.zero_add] at hy
    obtain ⟨rfl, rfl⟩ := hy
    replace hpos : (0 : Int) < (ck : Int) := by omega
    clear hp hm
    by_cases hf : ((fk : Int) == 0) = true
    ·obtain rfl := hcond hf
     clear hcond hpk hnk
     ((try (refine @unH _ ?_; refine zX y13_116 ?_)); (try (refine hK _ _ ?_; clear hK K; (try simp only [nq, ↓reduceIte, Nat.reduceEqDiff]))); refine @unH _ ?_; refine zA y13_116 ?_; (repeat (refine inC ?_; intro hc)); try (refine inK ?_; intro K hK))
     refine (driven_spec H8).runs.mono ?_
     rintro _ H9 ⟨rfl, _⟩
     ((try (refine @unH _ ?_; refine zX y13_116 ?_)); (try (refine hK _ _ ?_; clear hK K; (try simp only [nq, ↓reduceIte, Nat.reduceEqDiff]))); refine @unH _ ?_; refine zA y13_116 ?_; (repeat (refine inC ?_; intro hc)); try (refine inK ?_; intro K hK))
     (refine wpX_ret ?_; (try simp only [nq, ↓reduceIte, Nat.reduceEqDiff]); rw [bodyX_ret, results_one Tryz.results13 (by decide)]; simp only [upd_get, Nat.reduceEqDiff, ↓reduceIte])
    ·have hff : ((fk : Int) == 0) = false := by simpa using hf
     clear hcond hpk hnk hf
     ((try (refine @unH _ ?_; refine zX y13_116 ?_)); (try (refine hK _ _ ?_; clear hK K; (try simp only [nq, ↓reduceIte, Nat.reduceEqDiff]))); refine @unH _ ?_; refine zA y13_116 ?_; (repeat (refine inC ?_; intro hc)); try (refine inK ?_; intro K hK))
     refine (driven_spec H8).runs.mono ?_
     rintro _ H9 ⟨rfl, _⟩
     ((try (refine @unH _ ?_; refine zX y13_116 ?_)); (try (refine hK _ _ ?_; clear hK K; (try simp only [nq, ↓reduceIte, Nat.reduceEqDiff]))); refine @unH _ ?_; refine zA y13_116 ?_; (repeat (refine inC ?_; intro hc)); try (refine inK ?_; intro K hK))
     (refine wpX_ret ?_; (try simp only [nq, ↓reduceIte, Nat.reduceEqDiff]); rw [bodyX_ret, results_one Tryz.results13 (by decide)]; simp only [upd_get, Nat.reduceEqDiff, ↓reduceIte])
   ·subst hz
    have hp : P k = false := by
     cases h : P k
     ·rfl
     ·exact absurd ((show P k = true ↔ 0 < 0 from hpk).1 h) (by omega)
    have hff : ((fk : Int) == 0) = false := by
     cases h : ((fk : Int) == 0)
     ·rfl
     ·exact absurd (hcond h) (by omega)
    replace hp : SameP _ := hp
    clear hcond hpk hnk
    ((try (refine @unH _ ?_; refine zX y13_116 ?_)); (try (refine hK _ _ ?_; clear hK K; (try simp only [nq, ↓reduceIte, Nat.reduceEqDiff]))); refine @unH _ ?_; refine zA y13_116 ?_; (repeat (refine inC ?_; intro hc)); try (refine inK ?_; intro K hK))
    refine ⟨_, by omega, _, k + 1, k, rfl, hlt, rfl, e3, e6, e7, e8, rfl, hd8, vhb8, fun j hj => ?_⟩
    by_cases hjk : j = k
    ·subst hjk; rw [Int.zero_add]; exact hp
    ·exact (show ∀ j : Nat, j < k -> P (0 + j) = false from hall) j (by omega)
  ·obtain rfl : k = 4 := by omega
   have hm := find_miss (p := P) (lo := 0) 4 hall
   have hy : y = 0 /\ cc = 11 := by
    have h : match (numsL 0 4).find? P with
     | some x => y = x /\ cc = 0
     | none => y = 0 /\ cc = 11 := hyc
    rw [hm] at h
    exact h
   obtain ⟨rfl, rfl⟩ := hy
   clear hm
   (refine @unH _ ?_; refine zA y13_116 ?_; (repeat (refine inC ?_; intro hc)); try (refine inK ?_; intro K hK))
   refine (driven_spec H5).runs.mono ?_
   rintro _ H8 ⟨rfl, lH8⟩
   ((try (refine @unH _ ?_; refine zX y13_116 ?_)); (try (refine hK _ _ ?_; clear hK K; (try simp only [nq, ↓reduceIte, Nat.reduceEqDiff]))); refine @unH _ ?_; refine zA y13_116 ?_; (repeat (refine inC ?_; intro hc)); try (refine inK ?_; intro K hK))
   (refine wpX_ret ?_; (try simp only [nq, ↓reduceIte, Nat.reduceEqDiff]); rw [bodyX_ret, results_one Tryz.results13 (by decide)]; simp only [upd_get, Nat.reduceEqDiff, ↓reduceIte])
end Go.Proofs.YtofmadjgbcopdaaGreatDoor
end
section
namespace Go.Proofs.YtofmadjgbcopdaaGreatDoor
open Go Go.X Go.ChangeShapes Go.WideShapes Go.RowKit
set_option maxRecDepth 100000 in
theorem law_lifted (os : Os) (started : os.Started) (H : Type) (enc : TypeId × Value -> H) :
  ReturnsInLeavingWide {} Tryz.checked os 13 .any (fun w args => (Rows.barrowRuleSpec.pre enc Tryz.prog Tryz.f13 [] false w args /\ laidMetH Tryz.prog [("errors.errorType", Rows.laid_errors_errorType)] w) /\ sizedMet enc Tryz.prog Tryz.f13 (OpenSpec.ofChange Rows.barrowRuleSpec) false w args)
   (Rows.barrowRuleSpec.post enc Tryz.prog Tryz.f13 false true false false) := by
 refine leaving_of_change_and (C := Tryz.checked) (X := fun w _ => laidMetH Tryz.prog [("errors.errorType", Rows.laid_errors_errorType)] w) (fun _ _ _ hh h => h.of_heap hh) ownK started Tryz.func13
  (ChangeSpec.witness_at (enc := enc) (C := Tryz.checked) (os := os) (X := fun w _ => laidMetH Tryz.prog [("errors.errorType", Rows.laid_errors_errorType)] w) false (laidWorld os) #[.slice none 0 0] 8 rfl (by kernel_rfl) (by kernel_rfl) (by kernel_rfl) (by kernel_rfl) (by kernel_rfl) (laidWorld_met os _)) ?_
 intro W base args ds gs before hval0 hW hL
 have hval : ∀ (j : Nat) t v, Tryz.f13.params[j]? = some t -> args[j]? = some v -> Value.okWide Tryz.prog W .any base t v := hval0
 have hW' := hW
 obtain ⟨p, q, hA0, hV0, rfl, hfz, hnd⟩ := hW
 have hA : DataW.TrodAll enc Tryz.prog W 0 (fun _ => true) true Tryz.f13.params.toList args.toList ds p := hA0
 have hV : DataW.TrodVars enc Tryz.prog W (fun _ => true) [] gs q := hV0
 rw [Tryz.params13] at hA hval
 obtain ⟨v0, d0, rfl, rfl, h0⟩ := trodAll_one hA
 obtain ⟨a0, len, cap, rfl⟩ := okWide_slice Tryz.underlying22 (hval 0 22 v0 rfl rfl)
 have h0k := h0
 obtain ⟨fuel, hf⟩ := h0
 obtain ⟨rfl, rfl⟩ : gs = [] /\ q = [] := by
  cases gs with
  | nil => exact ⟨rfl, hV⟩
  | cons g r => exact absurd hV (by intro h; cases h)
 have e1 : Rows.barrowRuleSpec.fn H ([d0] ++ []) = { results := [.lit (.bool true)], args := [d0] } := by simp [Rows.barrowRuleSpec]
 have hcells : ∀ i : Nat, i < len -> ∃ sb so c e fr x, a0 = some ⟨sb, so, none⟩ /\ allShared W sb = some (false, .cells c e fr) /\ c[so + i]? = some (.int .i64 x) := by
  rcases open_ints Tryz.underlying22 Tryz.underlying3 cellsK hf with ⟨hcs, _⟩ | ⟨a, len', cap', zs, hcs, _, hl, hm, hz, hx, hcell, hwz⟩
  ·simp [Value.cells] at hcs
   intro i hi
   omega
  ·simp [Value.cells] at hcs
   obtain ⟨rfl, rfl, rfl⟩ := hcs
   intro i hi
   simp only [if_true] at hz
   have hc := hcell i (by omega)
   obtain ⟨b, off, spot⟩ := a
   have hspot : spot = none := by simpa [Addr.add] using World.cell?_spot (hcell 0 (by omega))
   subst hspot
   rw [add_plain] at hc
   unfold World.cell? at hc
   split at hc
   ·rename_i c e fr hb
    exact ⟨b, off, c, e, fr, _, rfl, by simp [allShared, hb], by simpa using hc⟩
   ·cases hc
 have hlt : ∀ x ∈ p, x.block < W.heap.size := fun x hx => by simpa using hW'.lt x (by simpa using hx)
 obtain ⟨N, last, o, w', t', r1, r2, r3, v, hv, ⟨rfl, hB⟩, r4⟩ := (brule_spec (allShared W) a0 len cap hcells).good Tryz.func13 (results_tmp Tryz.results13 _) (by kernel_rfl)
 refine ⟨N, last, o, w', t', r1, r2, r3, _, hv, ?_, r4⟩
 have hb := hB.below
 refine ⟨_, _, _, [], p, [], hW', ?_, ?_, ?_, hB.kept _, fun h => by cases h⟩
 ·rw [e1]; exact trodAll_mk1 (shut_bool Tryz.underlying4 true)
 ·rw [e1]
  have t := trodAll_mk1 (DataW.Trod.of_heap (w := { w' with tape := W.tape }) (w' := w') rfl (Below.trod laidOutK (by kernel_rfl) (of_decide_eq_true (by kernel_rfl)) h0k hb hlt))
  exact t
 ·rw [e1]; rfl
end Go.Proofs.YtofmadjgbcopdaaGreatDoor
end
section
namespace Go.Proofs.YtofmadjgbcopdaaGreatDoor
open Go Go.X Go.ChangeShapes Go.WideShapes Go.RowKit
theorem jEnter : Program.mayEnter Tryz.pinned.checked.prog = true := factEnter
theorem jLift : (Rows.barrowRuleRow.lifted == Program.liftsFinal Tryz.pinned.checked.prog) = true := by rw [show Program.liftsFinal Tryz.pinned.checked.prog = Rows.barrowRuleRow.lifted from factLift]; exact beq_self_eq_true _
theorem jMake : (Program.make Tryz.pinned.checked.prog == some Rows.barrowRuleRow.make) = true := by rw [show Program.make Tryz.pinned.checked.prog = some Rows.barrowRuleRow.make from factMake]; exact beq_self_eq_true _
set_option maxRecDepth 100000 in
theorem jf : joinedFacts Tryz.pinned.checked.prog 13 Tryz.f13 Rows.barrowRuleSpec Rows.barrowRuleRow = true := by
 unfold joinedFacts
 simp only [jEnter, jLift, jMake, Bool.and_true]
 kernel_rfl
set_option maxRecDepth 100000 in
theorem barrowRule_said : Rows.BarrowRuleSaid :=
 OpenClaim.holds_of_wide_leaving 13 Tryz.f13 rfl rfl rfl rfl rfl rfl rfl ⟨rfl, rfl, rfl, rfl, rfl⟩ rfl rfl rfl rfl rfl (by kernel_rfl) Tryz.func13 jf
  (of_decide_eq_true (by kernel_rfl)) (by unfold Func.isWrapper; rw [if_neg (of_decide_eq_false (by kernel_rfl))]; exact ⟨rfl, rfl⟩)
  (fun os started H enc _ => law_lifted os started H enc)
end Go.Proofs.YtofmadjgbcopdaaGreatDoor
end
