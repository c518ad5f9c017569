/- Texts LawB BSlowest PBarrowSlowest SBarrowSlowest. -/
import Derived.Test.YtofmadjgbcopdaaGreatDoorJ10
import Derived.Test.YtofmadjgbcopdaaGreatDoorAFactA
import Derived.Test.YtofmadjgbcopdaaGreatDoorAFactB
import Derived.Test.YtofmadjgbcopdaaGreatDoorAFactC
set_option linter.defProp false
set_option linter.unusedSimpArgs false
set_option linter.unusedVariables false
set_option maxRecDepth 100000
set_option maxHeartbeats 2000000
section
namespace Go.Proofs.YtofmadjgbcopdaaGreatDoor
open Go Go.X
theorem HaulIn.due_mono {H : Hp} {n : HN} {v : HV} (h : HaulIn H n v) : ∀ a b, a <= b -> b < n.jobs.length -> n.due n.jobs a <= n.due n.jobs b := by
 intro a b hab hb
 obtain ⟨_, hj2, hj3⟩ := h.jobs
 have ea : n.jobs.getD a 0 = n.jobs[a] := by simp [List.getD, List.getElem?_eq_getElem (show a < n.jobs.length by omega)]
 have eb : n.jobs.getD b 0 = n.jobs[b] := by simp [List.getD, List.getElem?_eq_getElem hb]
 have ha := hj2 _ (List.getElem_mem (show a < n.jobs.length by omega))
 have hbb := hj2 _ (List.getElem_mem hb)
 unfold HN.due
 rw [ea, eb]
 have hle : n.jobs[a] <= n.jobs[b] := by
  rcases Nat.lt_or_ge a b with hlt | hge
  ·exact Int.le_of_lt ((List.pairwise_iff_getElem.1 hj3) a b (by omega) hb hlt)
  ·obtain rfl : a = b := by omega
   exact Int.le_refl _
 generalize n.jobs[a] = x at *
 generalize n.jobs[b] = y at *
 have gx : n.xs.getD x.toNat 0 = n.xs[x.toNat]'(by omega) := by simp [List.getD, List.getElem?_eq_getElem (show x.toNat < n.xs.length by omega)]
 have gy : n.xs.getD y.toNat 0 = n.xs[y.toNat]'(by omega) := by simp [List.getD, List.getElem?_eq_getElem (show y.toNat < n.xs.length by omega)]
 rw [gx, gy]
 rcases Int.lt_or_le x y with hlt | hge
 ·exact (List.pairwise_iff_getElem.1 h.ok.2.1) x.toNat y.toNat (by omega) (by omega) (by omega)
 ·obtain rfl : x = y := by omega
  exact Int.le_refl _
theorem fineB_all {n : HN} {js : List Int} {mi : Int} {pl : List Nat} : fineB n js mi pl = true ↔ ∀ x ∈ lateG n js mi pl bs0 0, x = 0 := by
 unfold fineB
 rw [List.all_eq_true]
 exact ⟨fun h x hx => by simpa using h x hx, fun h x hx => by simpa using h x hx⟩
theorem countF_pos {n : HN} {mi : Int} : 0 < countF n mi ↔ ∃ pl : List Nat, pl.map (fun x : Nat => (x : Int)) ∈ comps n.load.toNat n.jobs.length /\ fineB n n.jobs mi pl = true := by
 unfold countF
 rw [List.length_pos_iff_exists_mem]
 constructor
 ·rintro ⟨l, hl⟩
  obtain ⟨h1, h2⟩ := List.mem_filter.1 hl
  obtain ⟨pl, rfl, _, _⟩ := comps_parts _ _ l h1
  exact ⟨pl, h1, by rwa [fineI_map] at h2⟩
 ·rintro ⟨pl, h1, h2⟩
  exact ⟨_, List.mem_filter.2 ⟨h1, by rwa [fineI_map]⟩⟩
theorem good_count {n : HN} {mi : Int} (hmono : ∀ a b, a <= b -> b < n.jobs.length -> n.due n.jobs a <= n.due n.jobs b) : goodF n n.jobs mi n.load.toNat n.jobs.length bs0 0 = true ↔ 0 < countF n mi := by
 rw [goodF_iff n n.jobs mi n.load.toNat hmono n.jobs.length bs0 0 (by omega), countF_pos]
 simp only [Nat.sub_zero, fineB_all]
theorem soF_count {n : HN} {mi p k : Int} {H : Hp} {v : HV} (h : HaulIn H (n.part p k) v) : soF n mi p k = true ↔ 0 < countF (n.part p k) mi := good_count h.due_mono
theorem slowF_count {n : HN} {k : Int} {H : Hp} {v : HV} (h : HaulIn H n v) : slowF n k = true ↔ 0 < countF n k := good_count h.due_mono
theorem countF_mono {n n' : HN} (hj : n'.jobs = n.jobs) (hl : n'.load = n.load) (hx : n'.xs = n.xs) (hn : n.notice <= n'.notice) (b1 : 1 <= n.barrows) (b4 : n.barrows <= 4) (hbb : n.barrows <= n'.barrows) (b4' : n'.barrows <= 4) {mi mi' : Int} (hm : mi' <= mi) (h1 : 1 <= mi') (h : 0 < countF n mi) : 0 < countF n' mi' := by
 rw [countF_pos] at h ⊢
 obtain ⟨pl, h2, h3⟩ := h
 rw [hj, hl]
 exact ⟨pl, h2, fine_mono n.jobs mi mi' hx hn b1 b4 hbb b4' hm h1 pl h3⟩
theorem find_up {p : Int -> Bool} {lo : Int} {N : Nat} (hm : ∀ a b : Int, lo <= a -> a <= b -> b < lo + N -> p a = true -> p b = true) : (match (numsL lo N).find? p with
  | some x => lo <= x /\ x < lo + N /\ ∀ k, lo <= k -> k < lo + N -> (p k = true ↔ x <= k)
  | none => ∀ k, lo <= k -> k < lo + N -> p k = false) := by
 cases h : (numsL lo N).find? p with
 | none =>
  intro k h1 h2
  rw [List.find?_eq_none] at h
  have := h k (List.mem_map.2 ⟨(k - lo).toNat, List.mem_range.2 (by omega), by omega⟩)
  simpa using this
 | some x =>
  have hp := List.find?_some h
  obtain ⟨i, hi, rfl⟩ := List.mem_map.1 (List.mem_of_find?_eq_some h)
  rw [List.mem_range] at hi
  refine ⟨by omega, by omega, fun k h1 h2 => ⟨fun hk => ?_, fun hk => hm _ _ (by omega) hk h2 hp⟩⟩
  rcases Int.lt_or_le k (lo + i) with hlt | hge
  ·exfalso
   have hfirst : ∀ j : Nat, j < i -> p (lo + j) = false := by
    unfold numsL at h
    rw [List.find?_map] at h
    cases hr : (List.range N).find? (p ∘ fun i : Nat => lo + i) with
    | none => rw [hr] at h; cases h
    | some q =>
     rw [hr] at h
     have e : lo + (q : Int) = lo + i := Option.some.inj h
     have e' : q = i := by omega
     subst e'
     rw [List.find?_range_eq_some] at hr
     intro j hj
     have := hr.2.2 j hj
     simpa using this
   have := hfirst (k - lo).toNat (by omega)
   rw [show lo + ((k - lo).toNat : Int) = k by omega, hk] at this
   cases this
  ·exact hge
theorem find_down {p : Int -> Bool} {lo : Int} {N : Nat} (hm : ∀ a b : Int, lo <= a -> a <= b -> b < lo + N -> p b = true -> p a = true) : (match (numsL lo N).reverse.find? p with
  | some x => lo <= x /\ x < lo + N /\ ∀ k, lo <= k -> k < lo + N -> (p k = true ↔ k <= x)
  | none => ∀ k, lo <= k -> k < lo + N -> p k = false) := by
 have hmem : ∀ k, lo <= k -> k < lo + N -> k ∈ numsL lo N := fun k h1 h2 => List.mem_map.2 ⟨(k - lo).toNat, List.mem_range.2 (by omega), by omega⟩
 cases h : (numsL lo N).reverse.find? p with
 | none =>
  intro k h1 h2
  rw [List.find?_eq_none] at h
  have := h k (List.mem_reverse.2 (hmem k h1 h2))
  simpa using this
 | some x =>
  have hp := List.find?_some h
  obtain ⟨i, hi, rfl⟩ := List.mem_map.1 (List.mem_reverse.1 (List.mem_of_find?_eq_some h))
  rw [List.mem_range] at hi
  refine ⟨by omega, by omega, fun k h1 h2 => ⟨fun hk => ?_, fun hk => hm _ _ h1 hk (by omega) hp⟩⟩
  rcases Int.lt_or_le (lo + i) k with hlt | hge
  ·exfalso
   obtain ⟨_, A, B, hAB, hA⟩ := List.find?_eq_some_iff_append.1 h
   have hs : (numsL lo N).Pairwise (· < ·) := by
    unfold numsL
    rw [List.pairwise_map]
    exact (List.pairwise_lt_range (n := N)).imp fun h => by omega
   have hr := List.pairwise_reverse.2 hs
   have hkm := List.mem_reverse.2 (hmem k h1 h2)
   rw [hAB] at hr hkm
   rcases List.mem_append.1 hkm with hk' | hk'
   ·have := hA k hk'
    rw [hk] at this
    simp at this
   ·rcases List.mem_cons.1 hk' with hk' | hk'
    ·omega
    ·have := (List.pairwise_cons.1 (List.pairwise_append.1 hr).2.1).1 k hk'
     omega
  ·exact hge
def laterB (by_ : Int) (bs bs' : List Int) : Prop := bs.length = bs'.length /\ ∀ i, i < bs.length -> (bs.getD i 0 = -1048576 /\ bs'.getD i 0 = -1048576) ∨ (-1000 <= bs.getD i 0 /\ bs'.getD i 0 = bs.getD i 0 + by_)
theorem laterB.pick {by_ : Int} {bs bs' : List Int} (h0 : 0 <= by_) (h : laterB by_ bs bs') : ∀ B, B <= bs.length -> pickB bs' B = pickB bs B
 | 0, _ => rfl
 | B + 1, hB => by
  unfold pickB
  have ih := h.pick h0 B (by omega)
  rw [ih]
  by_cases hB0 : B = 0
  ·rw [if_pos hB0, if_pos hB0]
  ·rw [if_neg hB0, if_neg hB0]
   have hp := pickB_lt bs B (by omega)
   have h1 := h.2 B (by omega)
   have h2 := h.2 (pickB bs B) (by omega)
   have e : bs'.getD B 0 < bs'.getD (pickB bs B) 0 ↔ bs.getD B 0 < bs.getD (pickB bs B) 0 := by omega
   by_cases hc : bs.getD B 0 < bs.getD (pickB bs B) 0
   ·rw [if_pos hc, if_pos (e.2 hc)]
   ·rw [if_neg hc, if_neg (mt e.1 hc)]
def RideV.later (r : RideV) (by_ : Int) : RideV := ⟨r.barrow, r.out + by_, r.back + by_⟩
end Go.Proofs.YtofmadjgbcopdaaGreatDoor
end
section
namespace Go.Proofs.YtofmadjgbcopdaaGreatDoor
open Go Go.X
def y15_127 := And.intro @callF21 (And.intro @callF41 (And.intro (fun H => ex_alloc (H := H) (P := Tryz.prog) (h := Tryz.zeroValue29)) (And.intro (fun H => storeAt_agg (H := H) Tryz.sizeOf29) (And.intro (fun H => loadAt_aggE (H := H) Tryz.underlying29 rfl Tryz.sizeOf29) (And.intro @callF45 (And.intro @callF49 (And.intro @callF53 (And.intro @eqG_bool (And.intro (fun H => fieldAt_eq (H := H) Tryz.underlying29 (i := 4) rfl (off := 7) rfl Tryz.sizeOf3) (And.intro (fun H => storeAt_int (H := H) Tryz.sizeOf3) @callF20))))))))))
theorem bslowest_spec (H : Hp) (sa : Option Addr) (sl sc : Nat) (hs : ∀ i : Nat, i < sl -> ∃ sb so c e fr x, sa = some ⟨sb, so, none⟩ /\ H sb = some (false, .cells c e fr) /\ c[so + i]? = some (.int .i64 x)) :
  FnX Tryz.prog (.co Tryz.prog) 15 #[.slice sa sl sc] H fun e _ => e = .returned (.bool true) := by
 refine FnX_start Tryz.func15 rfl Tryz.ntmps15 (by simp) ?_
 (refine @unH _ ?_; refine zA y15_127 ?_; (repeat (refine inC ?_; intro hc)); try (refine inK ?_; intro K hK))
 refine (newTin_spec _ H sa sl sc hs 240 (by omega)).runs.mono ?_
 rintro _ H1 ⟨tb, rfl, l1, hT⟩
 ((try (refine @unH _ ?_; refine zX y15_127 ?_)); (try (refine hK _ _ ?_; clear hK K; (try simp only [nq, ↓reduceIte, Nat.reduceEqDiff]))); refine @unH _ ?_; refine zA y15_127 ?_; (repeat (refine inC ?_; intro hc)); try (refine inK ?_; intro K hK))
 refine (made_spec _ H1 tb 0 5 (by omega) hT).runs.mono ?_
 rintro _ H2 ⟨n, v, jv, pv, pl, mi, rfl, hd2, hx8, hj2, hp2, hok, hm1, hm20, _, _⟩
 clear hT hs l1
 obtain ⟨hj8, hjb, _⟩ := hd2.jobs
 have hsl := fun H' (h' : HaulIn H' n v) => Slowest_spec (.co Tryz.prog) H' n v h'
 have hnt := fun H' (h' : HaulIn H' n v) => notice_spec (.co Tryz.prog) H' n v h' mi hm1 hm20
 have hin := fun H' (h' : HaulIn H' n v) (k : Int) (k0 : 0 <= k) (k4 : k <= 30) => ({ h' with n0 := k0, n30 := k4 } : HaulIn H' { n with notice := k } v)
 have hcs := fun H' (h' : HaulIn H' n v) (k : Int) (k0 : 1 <= k) (k4 : k <= 20) => bcount_spec (.co Tryz.prog) H' n v h' k k0 k4 hj8 hjb
 have hcs2 := fun H' (h' : HaulIn H' n v) (k : Int) (k0 : 0 <= k) (k4 : k <= 30) => bcount_spec (.co Tryz.prog) H' { n with notice := k } v (hin H' h' k k0 k4) mi hm1 hm20 hj8 hjb
 have hm1 : ∀ a b : Int, 1 <= a -> a <= b -> b < 1 + (20 : Nat) -> slowF n b = true -> slowF n a = true := fun a b h1 h2 h3 h4 => (slowF_count hd2).2 (countF_mono rfl rfl rfl (Int.le_refl _) hd2.b1 hd2.b4 (Int.le_refl _) hd2.b4 h2 h1 ((slowF_count hd2).1 h4))
 have hm2 : ∀ a b : Int, 0 <= a -> a <= b -> b < 0 + (31 : Nat) -> soF n mi 2 a = true -> soF n mi 2 b = true := fun a b h1 h2 h3 h4 =>
  (soF_count (p := 2) (k := b) (hin H2 hd2 b (by omega) (by omega))).2 (countF_mono (n := { n with notice := a }) (n' := { n with notice := b }) rfl rfl rfl h2 hd2.b1 hd2.b4 (Int.le_refl _) hd2.b4 (Int.le_refl _) (by omega) ((soF_count (p := 2) (k := a) (hin H2 hd2 a (by omega) (by omega))).1 h4))
 have hf1 := find_down (p := slowF n) (lo := 1) (N := 20) hm1
 have hf2 := find_up (p := soF n mi 2) (lo := 0) (N := 31) hm2
 have hs1 : ∀ k : Int, (slowF n k = true ↔ 0 < countF n k) := fun k => slowF_count hd2
 have hs2 : ∀ k : Int, 0 <= k -> k <= 30 -> (soF n mi 2 k = true ↔ 0 < countF { n with notice := k } mi) := fun k h1 h2 => soF_count (p := 2) (hin H2 hd2 k h1 h2)
 clear hm1 hm2
 generalize slowF n = P1 at *
 generalize soF n mi 2 = P2 at *
 obtain ⟨C, hC⟩ : ∃ C : Int -> Nat, ∀ k, countF n k = C k := ⟨_, fun _ => rfl⟩
 obtain ⟨C', hC'⟩ : ∃ C : Int -> Nat, ∀ k, countF { n with notice := k } mi = C k := ⟨_, fun _ => rfl⟩
 simp only [hC] at hcs hs1
 simp only [hC'] at hcs2 hs2
 clear hin hC hC'
 obtain ⟨sv, cv, tv, xv⟩ := v
 obtain ⟨a1, n1, c1, hsv⟩ := hd2.day.st.isSlice
 obtain ⟨a2, n2, c2, hcv⟩ := hd2.day.calls.isSlice
 obtain ⟨a3, n3, c3, htv⟩ := hd2.day.truth.isSlice
 obtain ⟨a4, n4, c4, hxv⟩ := hd2.times.isSlice
 simp only [] at hsv hcv htv hxv
 subst hsv hcv htv hxv
 obtain ⟨a5, n5, c5, rfl⟩ := hj2.isSlice
 obtain ⟨a6, n6, c6, rfl⟩ := hp2.isSlice
 simp only [HN.agg] at hsl hnt hcs hcs2 ⊢
 replace hsl : SameP _ := hsl
 replace hnt : SameP _ := hnt
 replace hcs : SameP _ := hcs
 replace hcs2 : SameP _ := hcs2
 replace hf1 : SameP _ := hf1
 replace hf2 : SameP _ := hf2
 replace hs1 : SameP _ := hs1
 replace hs2 : SameP _ := hs2
 clear hjb hok hj2 hp2
 ((try (refine @unH _ ?_; refine zX y15_127 ?_)); (try (refine hK _ _ ?_; clear hK K; (try simp only [nq, ↓reduceIte, Nat.reduceEqDiff]))); refine @unH _ ?_; refine zA y15_127 ?_; (repeat (refine inC ?_; intro hc)); try (refine inK ?_; intro K hK))
 (intro hb hhb; generalize hG : Hp.set _ hb _ = H3; have lH3 := le_of_set hG hhb; have vhb := at_of_set hG; clear hG)
 have hd3 := hd2.le lH3
 clear hd2 lH3 hhb
 ((try (refine @unH _ ?_; refine zX y15_127 ?_)); (try (refine hK _ _ ?_; clear hK K; (try simp only [nq, ↓reduceIte, Nat.reduceEqDiff]))); refine @unH _ ?_; refine zA y15_127 ?_; (repeat (refine inC ?_; intro hc)); try (refine inK ?_; intro K hK))
 have hr := (show ∀ H', HaulIn H' n _ -> _ from hsl) H3 hd3
 refine hr.runs.mono ?_
 clear hr hsl
 rintro _ H4 ⟨lH4, y, cc, rfl, hyc⟩
 have hd4 := hd3.le lH4
 have vhb4 := lH4 _ _ vhb
 clear hd3 vhb lH4
 replace hyc : SameP _ := hyc
 ((try (refine @unH _ ?_; refine zX y15_127 ?_)); (try (refine hK _ _ ?_; clear hK K; (try simp only [nq, ↓reduceIte, Nat.reduceEqDiff]))); refine @unH _ ?_; refine zA y15_127 ?_; (repeat (refine inC ?_; intro hc)); try (refine inK ?_; intro K hK))
 have hr := (show ∀ H', HaulIn H' n _ -> _ from hnt) H4 hd4
 refine hr.runs.mono ?_
 clear hr hnt
 rintro _ H5 ⟨lH5, z, dd, rfl, hzd⟩
 have hd5 := hd4.le lH5
 have vhb5 := lH5 _ _ vhb4
 clear hd4 vhb4 lH5
 have h1 : (cc = 0 /\ ∀ k : Int, 1 <= k -> k <= 20 -> (0 < C k ↔ k <= y)) ∨ (cc = 11 /\ y = 0 /\ ∀ k : Int, 1 <= k -> k <= 20 -> (0 < C k ↔ False)) := by
  have hyc : match (numsL 1 20).reverse.find? P1 with
   | some x => y = x /\ cc = 0
   | none => y = 0 /\ cc = 11 := hyc
  have hf1 : (match (numsL 1 20).reverse.find? P1 with
   | some x => 1 <= x /\ x < 1 + (20 : Nat) /\ ∀ k : Int, 1 <= k -> k < 1 + (20 : Nat) -> (P1 k = true ↔ k <= x)
   | none => ∀ k : Int, 1 <= k -> k < 1 + (20 : Nat) -> P1 k = false) := hf1
  have hs1 : ∀ k : Int, (P1 k = true ↔ 0 < C k) := hs1
  cases hm : (numsL 1 20).reverse.find? P1 with
  | none =>
   rw [hm] at hyc hf1
   exact .inr ⟨hyc.2, hyc.1, fun k h1 h2 => ⟨fun h => (by have := (hs1 k).2 h; rw [hf1 k h1 (by omega)] at this; cases this), False.elim⟩⟩
  | some x =>
   rw [hm] at hyc hf1
   obtain ⟨rfl, rfl⟩ := hyc
   exact .inl ⟨rfl, fun k h1 h2 => (hs1 k).symm.trans (hf1.2.2 k h1 (by omega))⟩
 have h2 : (dd = 0 /\ ∀ k : Int, 0 <= k -> k <= 30 -> (0 < C' k ↔ z <= k)) ∨ (dd = 11 /\ z = 0 /\ ∀ k : Int, 0 <= k -> k <= 30 -> (0 < C' k ↔ False)) := by
  have hyc : match (numsL 0 31).find? P2 with
   | some x => z = x /\ dd = 0
   | none => z = 0 /\ dd = 11 := hzd
  have hf1 : (match (numsL 0 31).find? P2 with
   | some x => 0 <= x /\ x < 0 + (31 : Nat) /\ ∀ k : Int, 0 <= k -> k < 0 + (31 : Nat) -> (P2 k = true ↔ x <= k)
   | none => ∀ k : Int, 0 <= k -> k < 0 + (31 : Nat) -> P2 k = false) := hf2
  have hs1 : ∀ k : Int, 0 <= k -> k <= 30 -> (P2 k = true ↔ 0 < C' k) := hs2
  cases hm : (numsL 0 31).find? P2 with
  | none =>
   rw [hm] at hyc hf1
   exact .inr ⟨hyc.2, hyc.1, fun k h1 h2 => ⟨fun h => (by have := (hs1 k h1 h2).2 h; rw [hf1 k h1 (by omega)] at this; cases this), False.elim⟩⟩
  | some x =>
   rw [hm] at hyc hf1
   obtain ⟨rfl, rfl⟩ := hyc
   exact .inl ⟨rfl, fun k h1 h2 => (hs1 k h1 h2).symm.trans (hf1.2.2 k h1 (by omega))⟩
 clear hyc hzd hf1 hf2 hs1 hs2
 rcases h1 with ⟨rfl, hso⟩ | ⟨rfl, rfl, hso⟩
 ·replace hso : SameP _ := hso
  rcases h2 with ⟨rfl, hso2⟩ | ⟨rfl, rfl, hso2⟩
  ·replace hso2 : SameP _ := hso2
   ((try (refine @unH _ ?_; refine zX y15_127 ?_)); (try (refine hK _ _ ?_; clear hK K; (try simp only [nq, ↓reduceIte, Nat.reduceEqDiff]))); refine @unH _ ?_; refine zA y15_127 ?_; (repeat (refine inC ?_; intro hc)); try (refine inK ?_; intro K hK))
   refine wpX_loop (fun w a' H' => ∃ e, ∃ k : Nat, w = 21 - k /\ 1 <= k /\ k <= 21 /\ a' = act 117 e [] /\ e 3 = .pointer (some ⟨hb, 0, none⟩) /\ e 6 = .int .i64 mi /\ e 7 = .int .i64 y /\ e 8 = .int .i64 0 /\ e 9 = .int .i64 z /\ e 10 = .int .i64 0 /\ e 11 = .int .i64 (k : Nat) /\ HaulIn H' n ⟨.slice a1 n1 c1, .slice a2 n2 c2, .slice a3 n3 c3, .slice a4 n4 c4⟩ /\
    H' hb = some (true, .cells #[.int .i64 n.places, .int .i64 n.pieces, .slice a1 n1 c1, .slice a2 n2 c2, .slice a3 n3 c3, .int .i64 n.rule, .slice a4 n4 c4, .int .i64 n.notice, .int .i64 n.load, .int .i64 n.barrows, .int .i64 n.lo, .int .i64 n.hi] 29 (0, 0))) (n := 20) ?_ ?_
   ·exact ⟨_, 1, by omega, by omega, by omega, rfl, rfl, rfl, rfl, rfl, rfl, rfl, rfl, hd5, vhb5⟩
   clear hd5 vhb5 H5 H4 H3
   rintro w a' H5 ⟨e, k, rfl, hk1, hk4, rfl, e3, e6, e7, e8, e9, e10, e11, hd5, vhb5⟩
   by_cases hlt : k <= 20
   ·have k0 : (1 : Int) <= (k : Int) := by omega
    have k3 : (k : Int) <= 20 := by omega
    have hpk := (show ∀ k : Int, 1 <= k -> k <= 20 -> (0 < C k ↔ (k : Int) <= y) from hso) k k0 k3
    replace hpk : SameP _ := hpk
    (refine @unH _ ?_; refine zA y15_127 ?_; (repeat (refine inC ?_; intro hc)); try (refine inK ?_; intro K hK))
    have hr := (show ∀ H', HaulIn H' n _ -> ∀ k : Int, 1 <= k -> k <= 20 -> _ from hcs) H5 hd5 k k0 k3
    refine hr.runs.mono ?_
    clear hr
    rintro _ H7 ⟨rfl, lH7⟩
    have hd7 := hd5.le lH7
    have vhb7 := lH7 _ _ vhb5
    clear hd5 vhb5 lH7
    generalize C (k : Int) = ck at *
    have hpk : 0 < ck ↔ (k : Int) <= y := hpk
    by_cases hz : 0 < ck
    ·have hy := hpk.1 hz
     replace hz : (0 : Int) < (ck : Int) := by omega
     clear hpk
     first
     | (exact (show False from hy).elim)
     | (
      (try simp -implicitDefEqProofs (disch := first | omega | (simp only [qd] <;> omega)) only [xq, ↓xp, qc, Nat.reduceAdd, List.range, List.range.loop, fine, Nat.reduceEqDiff, ↓reduceIte, yielded, reduceCtorEq, Nat.reduceLT, Nat.reduceMul, Nat.reduceSub, one, Nat.reduceLeDiff, runX_cons, y15_127, aq, ↓ap, qe0, qe1, qe2, *, -hK, beq_self_eq_true, Bool.not_true]); try (refine hK _ _ ?_; clear hK K; (try simp only [nq, ↓reduceIte, Nat.reduceEqDiff])); repeat' (first
 | (refine wpX_stmtL rfl ?_; intro K hK; simp -implicitDefEqProofs (disch := first | omega | (simp only [qd] <;> omega)) only [xq, ↓xp, qc, Nat.reduceAdd, List.range, List.range.loop, fine, Nat.reduceEqDiff, ↓reduceIte, yielded, reduceCtorEq, Nat.reduceLT, Nat.reduceMul, Nat.reduceSub, one, Nat.reduceLeDiff, runX_cons, y15_127, aq, ↓ap, qe0, qe1, qe2, *, -hK, beq_self_eq_true, Bool.not_true]; try (refine hK _ _ ?_; clear hK K))
 | (refine wpX_lastL rfl ?_; intro K hK; simp -implicitDefEqProofs (disch := first | omega | (simp only [qd] <;> omega)) only [xq, ↓xp, qc, Nat.reduceAdd, List.range, List.range.loop, fine, Nat.reduceEqDiff, ↓reduceIte, yielded, reduceCtorEq, Nat.reduceLT, Nat.reduceMul, Nat.reduceSub, one, Nat.reduceLeDiff, runX_cons, y15_127, aq, ↓ap, qe0, qe1, qe2, *, -hK, beq_self_eq_true, Bool.not_true]; try (refine hK _ _ ?_; clear hK K; (try simp only [nq, ↓reduceIte, Nat.reduceEqDiff])))
 | (refine wpX_skip ?_; (try simp only [nq, ↓reduceIte, Nat.reduceEqDiff]))
 | (refine wpX_label ?_; (try simp only [nq, ↓reduceIte, Nat.reduceEqDiff]))
 | (refine wpX_exit ?_; (try simp only [nq, ↓reduceIte, Nat.reduceEqDiff]))
 | (refine wpX_goto ?_; (try simp only [nq, ↓reduceIte, Nat.reduceEqDiff]))
 | (refine wpX_condK (by simp only [act_eval, upd_get, Nat.reduceEqDiff, Nat.reduceLT, ↓reduceIte, *]; rfl) ?_ ?_ <;> (intro hc; first | (exfalso; simp -implicitDefEqProofs (disch := omega) only [*, bq, reduceCtorEq] at hc; done) | (simp only [dq, qe3, qe4, qe5, qe6] at hc) | skip))
 | (refine wpX_scope0 ?_)
 | (refine wpX_block ?_)
 | (refine wpX_seq ?_))
      all_goals (try exact absurd rfl ‹true ≠ true›)
      all_goals (try exact absurd rfl ‹false ≠ false›)
      refine ⟨_, by omega, _, k + 1, rfl, by omega, by omega, rfl, e3, e6, e7, e8, e9, e10, rfl, hd7, vhb7⟩)
    ·have hy := mt hpk.2 hz
     replace hz : ¬ (0 : Int) < (ck : Int) := by omega
     clear hpk
     (try simp -implicitDefEqProofs (disch := first | omega | (simp only [qd] <;> omega)) only [xq, ↓xp, qc, Nat.reduceAdd, List.range, List.range.loop, fine, Nat.reduceEqDiff, ↓reduceIte, yielded, reduceCtorEq, Nat.reduceLT, Nat.reduceMul, Nat.reduceSub, one, Nat.reduceLeDiff, runX_cons, y15_127, aq, ↓ap, qe0, qe1, qe2, *, -hK, beq_self_eq_true, Bool.not_true]); try (refine hK _ _ ?_; clear hK K; (try simp only [nq, ↓reduceIte, Nat.reduceEqDiff])); repeat' (first
 | (refine wpX_stmtL rfl ?_; intro K hK; simp -implicitDefEqProofs (disch := first | omega | (simp only [qd] <;> omega)) only [xq, ↓xp, qc, Nat.reduceAdd, List.range, List.range.loop, fine, Nat.reduceEqDiff, ↓reduceIte, yielded, reduceCtorEq, Nat.reduceLT, Nat.reduceMul, Nat.reduceSub, one, Nat.reduceLeDiff, runX_cons, y15_127, aq, ↓ap, qe0, qe1, qe2, *, -hK, beq_self_eq_true, Bool.not_true]; try (refine hK _ _ ?_; clear hK K))
 | (refine wpX_lastL rfl ?_; intro K hK; simp -implicitDefEqProofs (disch := first | omega | (simp only [qd] <;> omega)) only [xq, ↓xp, qc, Nat.reduceAdd, List.range, List.range.loop, fine, Nat.reduceEqDiff, ↓reduceIte, yielded, reduceCtorEq, Nat.reduceLT, Nat.reduceMul, Nat.reduceSub, one, Nat.reduceLeDiff, runX_cons, y15_127, aq, ↓ap, qe0, qe1, qe2, *, -hK, beq_self_eq_true, Bool.not_true]; try (refine hK _ _ ?_; clear hK K; (try simp only [nq, ↓reduceIte, Nat.reduceEqDiff])))
 | (refine wpX_skip ?_; (try simp only [nq, ↓reduceIte, Nat.reduceEqDiff]))
 | (refine wpX_label ?_; (try simp only [nq, ↓reduceIte, Nat.reduceEqDiff]))
 | (refine wpX_exit ?_; (try simp only [nq, ↓reduceIte, Nat.reduceEqDiff]))
 | (refine wpX_goto ?_; (try simp only [nq, ↓reduceIte, Nat.reduceEqDiff]))
 | (refine wpX_condK (by simp only [act_eval, upd_get, Nat.reduceEqDiff, Nat.reduceLT, ↓reduceIte, *]; rfl) ?_ ?_ <;> (intro hc; first | (exfalso; simp -implicitDefEqProofs (disch := omega) only [*, bq, reduceCtorEq] at hc; done) | (simp only [dq, qe3, qe4, qe5, qe6] at hc) | skip))
 | (refine wpX_scope0 ?_)
 | (refine wpX_block ?_)
 | (refine wpX_seq ?_))
     all_goals (try exact absurd rfl ‹true ≠ true›)
     all_goals (try exact absurd rfl ‹false ≠ false›)
     refine ⟨_, by omega, _, k + 1, rfl, by omega, by omega, rfl, e3, e6, e7, e8, e9, e10, rfl, hd7, vhb7⟩
   obtain rfl : k = 21 := by omega
   (refine @unH _ ?_; refine zA y15_127 ?_; (repeat (refine inC ?_; intro hc)); try (refine inK ?_; intro K hK))
   refine wpX_loop (fun w a' H' => ∃ e, ∃ k : Nat, ∃ r : Int, w = 31 - k /\ k <= 31 /\ a' = act 117 e [] /\ e 3 = .pointer (some ⟨hb, 0, none⟩) /\ e 6 = .int .i64 mi /\ e 9 = .int .i64 z /\ e 10 = .int .i64 0 /\ e 14 = .int .i64 (k : Nat) /\ HaulIn H' n ⟨.slice a1 n1 c1, .slice a2 n2 c2, .slice a3 n3 c3, .slice a4 n4 c4⟩ /\
    H' hb = some (true, .cells #[.int .i64 n.places, .int .i64 n.pieces, .slice a1 n1 c1, .slice a2 n2 c2, .slice a3 n3 c3, .int .i64 n.rule, .slice a4 n4 c4, .int .i64 r, .int .i64 n.load, .int .i64 n.barrows, .int .i64 n.lo, .int .i64 n.hi] 29 (0, 0))) (n := 31) ?_ ?_
   ·exact ⟨_, 0, n.notice, by omega, by omega, rfl, e3, e6, e9, e10, rfl, hd5, vhb5⟩
   clear hd5 vhb5 H5 e3 e6 e7 e8 e9 e10 e11
   rintro w a' H5 ⟨e, k, r, rfl, hk4, rfl, e3, e6, e9, e10, e14, hd5, vhb5⟩
   by_cases hlt : k <= 30
   ·have k0 : (0 : Int) <= (k : Int) := by omega
    have k3 : (k : Int) <= 30 := by omega
    have hpk := (show ∀ k : Int, 0 <= k -> k <= 30 -> (0 < C' k ↔ z <= (k : Int)) from hso2) k k0 k3
    replace hpk : SameP _ := hpk
    (refine @unH _ ?_; refine zA y15_127 ?_; (repeat (refine inC ?_; intro hc)); try (refine inK ?_; intro K hK))
    have hd6 := hd5.move (set_keeps vhb5 (by decide) (by decide) (o := (.cells #[.int .i64 n.places, .int .i64 n.pieces, .slice a1 n1 c1, .slice a2 n2 c2, .slice a3 n3 c3, .int .i64 n.rule, .slice a4 n4 c4, .int .i64 (k : Nat), .int .i64 n.load, .int .i64 n.barrows, .int .i64 n.lo, .int .i64 n.hi] 29 (0, 0))))
    have vhb6 : (H5.set hb (.cells #[.int .i64 n.places, .int .i64 n.pieces, .slice a1 n1 c1, .slice a2 n2 c2, .slice a3 n3 c3, .int .i64 n.rule, .slice a4 n4 c4, .int .i64 (k : Nat), .int .i64 n.load, .int .i64 n.barrows, .int .i64 n.lo, .int .i64 n.hi] 29 (0, 0))) hb = _ := set_at
    generalize H5.set hb (.cells #[.int .i64 n.places, .int .i64 n.pieces, .slice a1 n1 c1, .slice a2 n2 c2, .slice a3 n3 c3, .int .i64 n.rule, .slice a4 n4 c4, .int .i64 (k : Nat), .int .i64 n.load, .int .i64 n.barrows, .int .i64 n.lo, .int .i64 n.hi] 29 (0, 0)) = H6 at *
    clear hd5 vhb5
    have hr := (show ∀ H', HaulIn H' n _ -> ∀ k : Int, 0 <= k -> k <= 30 -> _ from hcs2) H6 hd6 k k0 k3
    refine hr.runs.mono ?_
    clear hr
    rintro _ H7 ⟨rfl, lH7⟩
    have hd7 := hd6.le lH7
    have vhb7 := lH7 _ _ vhb6
    clear hd6 vhb6 lH7
    generalize C' (k : Int) = ck at *
    have hpk : 0 < ck ↔ z <= (k : Int) := hpk
    by_cases hz : 0 < ck
    ·have hy := hpk.1 hz
     replace hz : (0 : Int) < (ck : Int) := by omega
     clear hpk
     first
     | (exact (show False from hy).elim)
     | (
      (try simp -implicitDefEqProofs (disch := first | omega | (simp only [qd] <;> omega)) only [xq, ↓xp, qc, Nat.reduceAdd, List.range, List.range.loop, fine, Nat.reduceEqDiff, ↓reduceIte, yielded, reduceCtorEq, Nat.reduceLT, Nat.reduceMul, Nat.reduceSub, one, Nat.reduceLeDiff, runX_cons, y15_127, aq, ↓ap, qe0, qe1, qe2, *, -hK, beq_self_eq_true, Bool.not_true]); try (refine hK _ _ ?_; clear hK K; (try simp only [nq, ↓reduceIte, Nat.reduceEqDiff])); repeat' (first
 | (refine wpX_stmtL rfl ?_; intro K hK; simp -implicitDefEqProofs (disch := first | omega | (simp only [qd] <;> omega)) only [xq, ↓xp, qc, Nat.reduceAdd, List.range, List.range.loop, fine, Nat.reduceEqDiff, ↓reduceIte, yielded, reduceCtorEq, Nat.reduceLT, Nat.reduceMul, Nat.reduceSub, one, Nat.reduceLeDiff, runX_cons, y15_127, aq, ↓ap, qe0, qe1, qe2, *, -hK, beq_self_eq_true, Bool.not_true]; try (refine hK _ _ ?_; clear hK K))
 | (refine wpX_lastL rfl ?_; intro K hK; simp -implicitDefEqProofs (disch := first | omega | (simp only [qd] <;> omega)) only [xq, ↓xp, qc, Nat.reduceAdd, List.range, List.range.loop, fine, Nat.reduceEqDiff, ↓reduceIte, yielded, reduceCtorEq, Nat.reduceLT, Nat.reduceMul, Nat.reduceSub, one, Nat.reduceLeDiff, runX_cons, y15_127, aq, ↓ap, qe0, qe1, qe2, *, -hK, beq_self_eq_true, Bool.not_true]; try (refine hK _ _ ?_; clear hK K; (try simp only [nq, ↓reduceIte, Nat.reduceEqDiff])))
 | (refine wpX_skip ?_; (try simp only [nq, ↓reduceIte, Nat.reduceEqDiff]))
 | (refine wpX_label ?_; (try simp only [nq, ↓reduceIte, Nat.reduceEqDiff]))
 | (refine wpX_exit ?_; (try simp only [nq, ↓reduceIte, Nat.reduceEqDiff]))
 | (refine wpX_goto ?_; (try simp only [nq, ↓reduceIte, Nat.reduceEqDiff]))
 | (refine wpX_condK (by simp only [act_eval, upd_get, Nat.reduceEqDiff, Nat.reduceLT, ↓reduceIte, *]; rfl) ?_ ?_ <;> (intro hc; first | (exfalso; simp -implicitDefEqProofs (disch := omega) only [*, bq, reduceCtorEq] at hc; done) | (simp only [dq, qe3, qe4, qe5, qe6] at hc) | skip))
 | (refine wpX_scope0 ?_)
 | (refine wpX_block ?_)
 | (refine wpX_seq ?_))
      all_goals (try exact absurd rfl ‹true ≠ true›)
      all_goals (try exact absurd rfl ‹false ≠ false›)
      refine ⟨_, by omega, _, k + 1, k, rfl, by omega, rfl, e3, e6, e9, e10, rfl, hd7, vhb7⟩)
    ·have hy := mt hpk.2 hz
     replace hz : ¬ (0 : Int) < (ck : Int) := by omega
     clear hpk
     (try simp -implicitDefEqProofs (disch := first | omega | (simp only [qd] <;> omega)) only [xq, ↓xp, qc, Nat.reduceAdd, List.range, List.range.loop, fine, Nat.reduceEqDiff, ↓reduceIte, yielded, reduceCtorEq, Nat.reduceLT, Nat.reduceMul, Nat.reduceSub, one, Nat.reduceLeDiff, runX_cons, y15_127, aq, ↓ap, qe0, qe1, qe2, *, -hK, beq_self_eq_true, Bool.not_true]); try (refine hK _ _ ?_; clear hK K; (try simp only [nq, ↓reduceIte, Nat.reduceEqDiff])); repeat' (first
 | (refine wpX_stmtL rfl ?_; intro K hK; simp -implicitDefEqProofs (disch := first | omega | (simp only [qd] <;> omega)) only [xq, ↓xp, qc, Nat.reduceAdd, List.range, List.range.loop, fine, Nat.reduceEqDiff, ↓reduceIte, yielded, reduceCtorEq, Nat.reduceLT, Nat.reduceMul, Nat.reduceSub, one, Nat.reduceLeDiff, runX_cons, y15_127, aq, ↓ap, qe0, qe1, qe2, *, -hK, beq_self_eq_true, Bool.not_true]; try (refine hK _ _ ?_; clear hK K))
 | (refine wpX_lastL rfl ?_; intro K hK; simp -implicitDefEqProofs (disch := first | omega | (simp only [qd] <;> omega)) only [xq, ↓xp, qc, Nat.reduceAdd, List.range, List.range.loop, fine, Nat.reduceEqDiff, ↓reduceIte, yielded, reduceCtorEq, Nat.reduceLT, Nat.reduceMul, Nat.reduceSub, one, Nat.reduceLeDiff, runX_cons, y15_127, aq, ↓ap, qe0, qe1, qe2, *, -hK, beq_self_eq_true, Bool.not_true]; try (refine hK _ _ ?_; clear hK K; (try simp only [nq, ↓reduceIte, Nat.reduceEqDiff])))
 | (refine wpX_skip ?_; (try simp only [nq, ↓reduceIte, Nat.reduceEqDiff]))
 | (refine wpX_label ?_; (try simp only [nq, ↓reduceIte, Nat.reduceEqDiff]))
 | (refine wpX_exit ?_; (try simp only [nq, ↓reduceIte, Nat.reduceEqDiff]))
 | (refine wpX_goto ?_; (try simp only [nq, ↓reduceIte, Nat.reduceEqDiff]))
 | (refine wpX_condK (by simp only [act_eval, upd_get, Nat.reduceEqDiff, Nat.reduceLT, ↓reduceIte, *]; rfl) ?_ ?_ <;> (intro hc; first | (exfalso; simp -implicitDefEqProofs (disch := omega) only [*, bq, reduceCtorEq] at hc; done) | (simp only [dq, qe3, qe4, qe5, qe6] at hc) | skip))
 | (refine wpX_scope0 ?_)
 | (refine wpX_block ?_)
 | (refine wpX_seq ?_))
     all_goals (try exact absurd rfl ‹true ≠ true›)
     all_goals (try exact absurd rfl ‹false ≠ false›)
     refine ⟨_, by omega, _, k + 1, k, rfl, by omega, rfl, e3, e6, e9, e10, rfl, hd7, vhb7⟩
   obtain rfl : k = 31 := by omega
   (refine @unH _ ?_; refine zA y15_127 ?_; (repeat (refine inC ?_; intro hc)); try (refine inK ?_; intro K hK))
   refine (driven_spec H5).runs.mono ?_
   rintro _ H8 ⟨rfl, lH8⟩
   ((try (refine @unH _ ?_; refine zX y15_127 ?_)); (try (refine hK _ _ ?_; clear hK K; (try simp only [nq, ↓reduceIte, Nat.reduceEqDiff]))); refine @unH _ ?_; refine zA y15_127 ?_; (repeat (refine inC ?_; intro hc)); try (refine inK ?_; intro K hK))
   (refine wpX_ret ?_; (try simp only [nq, ↓reduceIte, Nat.reduceEqDiff]); rw [bodyX_ret, results_one Tryz.results15 (by decide)]; simp only [upd_get, Nat.reduceEqDiff, ↓reduceIte])
  ·replace hso2 : SameP _ := hso2
   ((try (refine @unH _ ?_; refine zX y15_127 ?_)); (try (refine hK _ _ ?_; clear hK K; (try simp only [nq, ↓reduceIte, Nat.reduceEqDiff]))); refine @unH _ ?_; refine zA y15_127 ?_; (repeat (refine inC ?_; intro hc)); try (refine inK ?_; intro K hK))
   refine wpX_loop (fun w a' H' => ∃ e, ∃ k : Nat, w = 21 - k /\ 1 <= k /\ k <= 21 /\ a' = act 117 e [] /\ e 3 = .pointer (some ⟨hb, 0, none⟩) /\ e 6 = .int .i64 mi /\ e 7 = .int .i64 y /\ e 8 = .int .i64 0 /\ e 9 = .int .i64 0 /\ e 10 = .int .i64 11 /\ e 11 = .int .i64 (k : Nat) /\ HaulIn H' n ⟨.slice a1 n1 c1, .slice a2 n2 c2, .slice a3 n3 c3, .slice a4 n4 c4⟩ /\
    H' hb = some (true, .cells #[.int .i64 n.places, .int .i64 n.pieces, .slice a1 n1 c1, .slice a2 n2 c2, .slice a3 n3 c3, .int .i64 n.rule, .slice a4 n4 c4, .int .i64 n.notice, .int .i64 n.load, .int .i64 n.barrows, .int .i64 n.lo, .int .i64 n.hi] 29 (0, 0))) (n := 20) ?_ ?_
   ·exact ⟨_, 1, by omega, by omega, by omega, rfl, rfl, rfl, rfl, rfl, rfl, rfl, rfl, hd5, vhb5⟩
   clear hd5 vhb5 H5 H4 H3
   rintro w a' H5 ⟨e, k, rfl, hk1, hk4, rfl, e3, e6, e7, e8, e9, e10, e11, hd5, vhb5⟩
   by_cases hlt : k <= 20
   ·have k0 : (1 : Int) <= (k : Int) := by omega
    have k3 : (k : Int) <= 20 := by omega
    have hpk := (show ∀ k : Int, 1 <= k -> k <= 20 -> (0 < C k ↔ (k : Int) <= y) from hso) k k0 k3
    replace hpk : SameP _ := hpk
    (refine @unH _ ?_; refine zA y15_127 ?_; (repeat (refine inC ?_; intro hc)); try (refine inK ?_; intro K hK))
    have hr := (show ∀ H', HaulIn H' n _ -> ∀ k : Int, 1 <= k -> k <= 20 -> _ from hcs) H5 hd5 k k0 k3
    refine hr.runs.mono ?_
    clear hr
    rintro _ H7 ⟨rfl, lH7⟩
    have hd7 := hd5.le lH7
    have vhb7 := lH7 _ _ vhb5
    clear hd5 vhb5 lH7
    generalize C (k : Int) = ck at *
    have hpk : 0 < ck ↔ (k : Int) <= y := hpk
    by_cases hz : 0 < ck
    ·have hy := hpk.1 hz
     replace hz : (0 : Int) < (ck : Int) := by omega
     clear hpk
     first
     | (exact (show False from hy).elim)
     | (
      (try simp -implicitDefEqProofs (disch := first | omega | (simp only [qd] <;> omega)) only [xq, ↓xp, qc, Nat.reduceAdd, List.range, List.range.loop, fine, Nat.reduceEqDiff, ↓reduceIte, yielded, reduceCtorEq, Nat.reduceLT, Nat.reduceMul, Nat.reduceSub, one, Nat.reduceLeDiff, runX_cons, y15_127, aq, ↓ap, qe0, qe1, qe2, *, -hK, beq_self_eq_true, Bool.not_true]); try (refine hK _ _ ?_; clear hK K; (try simp only [nq, ↓reduceIte, Nat.reduceEqDiff])); repeat' (first
 | (refine wpX_stmtL rfl ?_; intro K hK; simp -implicitDefEqProofs (disch := first | omega | (simp only [qd] <;> omega)) only [xq, ↓xp, qc, Nat.reduceAdd, List.range, List.range.loop, fine, Nat.reduceEqDiff, ↓reduceIte, yielded, reduceCtorEq, Nat.reduceLT, Nat.reduceMul, Nat.reduceSub, one, Nat.reduceLeDiff, runX_cons, y15_127, aq, ↓ap, qe0, qe1, qe2, *, -hK, beq_self_eq_true, Bool.not_true]; try (refine hK _ _ ?_; clear hK K))
 | (refine wpX_lastL rfl ?_; intro K hK; simp -implicitDefEqProofs (disch := first | omega | (simp only [qd] <;> omega)) only [xq, ↓xp, qc, Nat.reduceAdd, List.range, List.range.loop, fine, Nat.reduceEqDiff, ↓reduceIte, yielded, reduceCtorEq, Nat.reduceLT, Nat.reduceMul, Nat.reduceSub, one, Nat.reduceLeDiff, runX_cons, y15_127, aq, ↓ap, qe0, qe1, qe2, *, -hK, beq_self_eq_true, Bool.not_true]; try (refine hK _ _ ?_; clear hK K; (try simp only [nq, ↓reduceIte, Nat.reduceEqDiff])))
 | (refine wpX_skip ?_; (try simp only [nq, ↓reduceIte, Nat.reduceEqDiff]))
 | (refine wpX_label ?_; (try simp only [nq, ↓reduceIte, Nat.reduceEqDiff]))
 | (refine wpX_exit ?_; (try simp only [nq, ↓reduceIte, Nat.reduceEqDiff]))
 | (refine wpX_goto ?_; (try simp only [nq, ↓reduceIte, Nat.reduceEqDiff]))
 | (refine wpX_condK (by simp only [act_eval, upd_get, Nat.reduceEqDiff, Nat.reduceLT, ↓reduceIte, *]; rfl) ?_ ?_ <;> (intro hc; first | (exfalso; simp -implicitDefEqProofs (disch := omega) only [*, bq, reduceCtorEq] at hc; done) | (simp only [dq, qe3, qe4, qe5, qe6] at hc) | skip))
 | (refine wpX_scope0 ?_)
 | (refine wpX_block ?_)
 | (refine wpX_seq ?_))
      all_goals (try exact absurd rfl ‹true ≠ true›)
      all_goals (try exact absurd rfl ‹false ≠ false›)
      refine ⟨_, by omega, _, k + 1, rfl, by omega, by omega, rfl, e3, e6, e7, e8, e9, e10, rfl, hd7, vhb7⟩)
    ·have hy := mt hpk.2 hz
     replace hz : ¬ (0 : Int) < (ck : Int) := by omega
     clear hpk
     (try simp -implicitDefEqProofs (disch := first | omega | (simp only [qd] <;> omega)) only [xq, ↓xp, qc, Nat.reduceAdd, List.range, List.range.loop, fine, Nat.reduceEqDiff, ↓reduceIte, yielded, reduceCtorEq, Nat.reduceLT, Nat.reduceMul, Nat.reduceSub, one, Nat.reduceLeDiff, runX_cons, y15_127, aq, ↓ap, qe0, qe1, qe2, *, -hK, beq_self_eq_true, Bool.not_true]); try (refine hK _ _ ?_; clear hK K; (try simp only [nq, ↓reduceIte, Nat.reduceEqDiff])); repeat' (first
 | (refine wpX_stmtL rfl ?_; intro K hK; simp -implicitDefEqProofs (disch := first | omega | (simp only [qd] <;> omega)) only [xq, ↓xp, qc, Nat.reduceAdd, List.range, List.range.loop, fine, Nat.reduceEqDiff, ↓reduceIte, yielded, reduceCtorEq, Nat.reduceLT, Nat.reduceMul, Nat.reduceSub, one, Nat.reduceLeDiff, runX_cons, y15_127, aq, ↓ap, qe0, qe1, qe2, *, -hK, beq_self_eq_true, Bool.not_true]; try (refine hK _ _ ?_; clear hK K))
 | (refine wpX_lastL rfl ?_; intro K hK; simp -implicitDefEqProofs (disch := first | omega | (simp only [qd] <;> omega)) only [xq, ↓xp, qc, Nat.reduceAdd, List.range, List.range.loop, fine, Nat.reduceEqDiff, ↓reduceIte, yielded, reduceCtorEq, Nat.reduceLT, Nat.reduceMul, Nat.reduceSub, one, Nat.reduceLeDiff, runX_cons, y15_127, aq, ↓ap, qe0, qe1, qe2, *, -hK, beq_self_eq_true, Bool.not_true]; try (refine hK _ _ ?_; clear hK K; (try simp only [nq, ↓reduceIte, Nat.reduceEqDiff])))
 | (refine wpX_skip ?_; (try simp only [nq, ↓reduceIte, Nat.reduceEqDiff]))
 | (refine wpX_label ?_; (try simp only [nq, ↓reduceIte, Nat.reduceEqDiff]))
 | (refine wpX_exit ?_; (try simp only [nq, ↓reduceIte, Nat.reduceEqDiff]))
 | (refine wpX_goto ?_; (try simp only [nq, ↓reduceIte, Nat.reduceEqDiff]))
 | (refine wpX_condK (by simp only [act_eval, upd_get, Nat.reduceEqDiff, Nat.reduceLT, ↓reduceIte, *]; rfl) ?_ ?_ <;> (intro hc; first | (exfalso; simp -implicitDefEqProofs (disch := omega) only [*, bq, reduceCtorEq] at hc; done) | (simp only [dq, qe3, qe4, qe5, qe6] at hc) | skip))
 | (refine wpX_scope0 ?_)
 | (refine wpX_block ?_)
 | (refine wpX_seq ?_))
     all_goals (try exact absurd rfl ‹true ≠ true›)
     all_goals (try exact absurd rfl ‹false ≠ false›)
     refine ⟨_, by omega, _, k + 1, rfl, by omega, by omega, rfl, e3, e6, e7, e8, e9, e10, rfl, hd7, vhb7⟩
   obtain rfl : k = 21 := by omega
   (refine @unH _ ?_; refine zA y15_127 ?_; (repeat (refine inC ?_; intro hc)); try (refine inK ?_; intro K hK))
   refine wpX_loop (fun w a' H' => ∃ e, ∃ k : Nat, ∃ r : Int, w = 31 - k /\ k <= 31 /\ a' = act 117 e [] /\ e 3 = .pointer (some ⟨hb, 0, none⟩) /\ e 6 = .int .i64 mi /\ e 9 = .int .i64 0 /\ e 10 = .int .i64 11 /\ e 14 = .int .i64 (k : Nat) /\ HaulIn H' n ⟨.slice a1 n1 c1, .slice a2 n2 c2, .slice a3 n3 c3, .slice a4 n4 c4⟩ /\
    H' hb = some (true, .cells #[.int .i64 n.places, .int .i64 n.pieces, .slice a1 n1 c1, .slice a2 n2 c2, .slice a3 n3 c3, .int .i64 n.rule, .slice a4 n4 c4, .int .i64 r, .int .i64 n.load, .int .i64 n.barrows, .int .i64 n.lo, .int .i64 n.hi] 29 (0, 0))) (n := 31) ?_ ?_
   ·exact ⟨_, 0, n.notice, by omega, by omega, rfl, e3, e6, e9, e10, rfl, hd5, vhb5⟩
   clear hd5 vhb5 H5 e3 e6 e7 e8 e9 e10 e11
   rintro w a' H5 ⟨e, k, r, rfl, hk4, rfl, e3, e6, e9, e10, e14, hd5, vhb5⟩
   by_cases hlt : k <= 30
   ·have k0 : (0 : Int) <= (k : Int) := by omega
    have k3 : (k : Int) <= 30 := by omega
    have hpk := (show ∀ k : Int, 0 <= k -> k <= 30 -> (0 < C' k ↔ False) from hso2) k k0 k3
    replace hpk : SameP _ := hpk
    (refine @unH _ ?_; refine zA y15_127 ?_; (repeat (refine inC ?_; intro hc)); try (refine inK ?_; intro K hK))
    have hd6 := hd5.move (set_keeps vhb5 (by decide) (by decide) (o := (.cells #[.int .i64 n.places, .int .i64 n.pieces, .slice a1 n1 c1, .slice a2 n2 c2, .slice a3 n3 c3, .int .i64 n.rule, .slice a4 n4 c4, .int .i64 (k : Nat), .int .i64 n.load, .int .i64 n.barrows, .int .i64 n.lo, .int .i64 n.hi] 29 (0, 0))))
    have vhb6 : (H5.set hb (.cells #[.int .i64 n.places, .int .i64 n.pieces, .slice a1 n1 c1, .slice a2 n2 c2, .slice a3 n3 c3, .int .i64 n.rule, .slice a4 n4 c4, .int .i64 (k : Nat), .int .i64 n.load, .int .i64 n.barrows, .int .i64 n.lo, .int .i64 n.hi] 29 (0, 0))) hb = _ := set_at
    generalize H5.set hb (.cells #[.int .i64 n.places, .int .i64 n.pieces, .slice a1 n1 c1, .slice a2 n2 c2, .slice a3 n3 c3, .int .i64 n.rule, .slice a4 n4 c4, .int .i64 (k : Nat), .int .i64 n.load, .int .i64 n.barrows, .int .i64 n.lo, .int .i64 n.hi] 29 (0, 0)) = H6 at *
    clear hd5 vhb5
    have hr := (show ∀ H', HaulIn H' n _ -> ∀ k : Int, 0 <= k -> k <= 30 -> _ from hcs2) H6 hd6 k k0 k3
    refine hr.runs.mono ?_
    clear hr
    rintro _ H7 ⟨rfl, lH7⟩
    have hd7 := hd6.le lH7
    have vhb7 := lH7 _ _ vhb6
    clear hd6 vhb6 lH7
    generalize C' (k : Int) = ck at *
    have hpk : 0 < ck ↔ False := hpk
    by_cases hz : 0 < ck
    ·have hy := hpk.1 hz
     replace hz : (0 : Int) < (ck : Int) := by omega
     clear hpk
     first
     | (exact (show False from hy).elim)
     | (
      (try simp -implicitDefEqProofs (disch := first | omega | (simp only [qd] <;> omega)) only [xq, ↓xp, qc, Nat.reduceAdd, List.range, List.range.loop, fine, Nat.reduceEqDiff, ↓reduceIte, yielded, reduceCtorEq, Nat.reduceLT, Nat.reduceMul, Nat.reduceSub, one, Nat.reduceLeDiff, runX_cons, y15_127, aq, ↓ap, qe0, qe1, qe2, *, -hK, beq_self_eq_true, Bool.not_true]); try (refine hK _ _ ?_; clear hK K; (try simp only [nq, ↓reduceIte, Nat.reduceEqDiff])); repeat' (first
 | (refine wpX_stmtL rfl ?_; intro K hK; simp -implicitDefEqProofs (disch := first | omega | (simp only [qd] <;> omega)) only [xq, ↓xp, qc, Nat.reduceAdd, List.range, List.range.loop, fine, Nat.reduceEqDiff, ↓reduceIte, yielded, reduceCtorEq, Nat.reduceLT, Nat.reduceMul, Nat.reduceSub, one, Nat.reduceLeDiff, runX_cons, y15_127, aq, ↓ap, qe0, qe1, qe2, *, -hK, beq_self_eq_true, Bool.not_true]; try (refine hK _ _ ?_; clear hK K))
 | (refine wpX_lastL rfl ?_; intro K hK; simp -implicitDefEqProofs (disch := first | omega | (simp only [qd] <;> omega)) only [xq, ↓xp, qc, Nat.reduceAdd, List.range, List.range.loop, fine, Nat.reduceEqDiff, ↓reduceIte, yielded, reduceCtorEq, Nat.reduceLT, Nat.reduceMul, Nat.reduceSub, one, Nat.reduceLeDiff, runX_cons, y15_127, aq, ↓ap, qe0, qe1, qe2, *, -hK, beq_self_eq_true, Bool.not_true]; try (refine hK _ _ ?_; clear hK K; (try simp only [nq, ↓reduceIte, Nat.reduceEqDiff])))
 | (refine wpX_skip ?_; (try simp only [nq, ↓reduceIte, Nat.reduceEqDiff]))
 | (refine wpX_label ?_; (try simp only [nq, ↓reduceIte, Nat.reduceEqDiff]))
 | (refine wpX_exit ?_; (try simp only [nq, ↓reduceIte, Nat.reduceEqDiff]))
 | (refine wpX_goto ?_; (try simp only [nq, ↓reduceIte, Nat.reduceEqDiff]))
 | (refine wpX_condK (by simp only [act_eval, upd_get, Nat.reduceEqDiff, Nat.reduceLT, ↓reduceIte, *]; rfl) ?_ ?_ <;> (intro hc; first | (exfalso; simp -implicitDefEqProofs (disch := omega) only [*, bq, reduceCtorEq] at hc; done) | (simp only [dq, qe3, qe4, qe5, qe6] at hc) | skip))
 | (refine wpX_scope0 ?_)
 | (refine wpX_block ?_)
 | (refine wpX_seq ?_))
      all_goals (try exact absurd rfl ‹true ≠ true›)
      all_goals (try exact absurd rfl ‹false ≠ false›)
      refine ⟨_, by omega, _, k + 1, k, rfl, by omega, rfl, e3, e6, e9, e10, rfl, hd7, vhb7⟩)
    ·have hy := mt hpk.2 hz
     replace hz : ¬ (0 : Int) < (ck : Int) := by omega
     clear hpk
     (try simp -implicitDefEqProofs (disch := first | omega | (simp only [qd] <;> omega)) only [xq, ↓xp, qc, Nat.reduceAdd, List.range, List.range.loop, fine, Nat.reduceEqDiff, ↓reduceIte, yielded, reduceCtorEq, Nat.reduceLT, Nat.reduceMul, Nat.reduceSub, one, Nat.reduceLeDiff, runX_cons, y15_127, aq, ↓ap, qe0, qe1, qe2, *, -hK, beq_self_eq_true, Bool.not_true]); try (refine hK _ _ ?_; clear hK K; (try simp only [nq, ↓reduceIte, Nat.reduceEqDiff])); repeat' (first
 | (refine wpX_stmtL rfl ?_; intro K hK; simp -implicitDefEqProofs (disch := first | omega | (simp only [qd] <;> omega)) only [xq, ↓xp, qc, Nat.reduceAdd, List.range, List.range.loop, fine, Nat.reduceEqDiff, ↓reduceIte, yielded, reduceCtorEq, Nat.reduceLT, Nat.reduceMul, Nat.reduceSub, one, Nat.reduceLeDiff, runX_cons, y15_127, aq, ↓ap, qe0, qe1, qe2, *, -hK, beq_self_eq_true, Bool.not_true]; try (refine hK _ _ ?_; clear hK K))
 | (refine wpX_lastL rfl ?_; intro K hK; simp -implicitDefEqProofs (disch := first | omega | (simp only [qd] <;> omega)) only [xq, ↓xp, qc, Nat.reduceAdd, List.range, List.range.loop, fine, Nat.reduceEqDiff, ↓reduceIte, yielded, reduceCtorEq, Nat.reduceLT, Nat.reduceMul, Nat.reduceSub, one, Nat.reduceLeDiff, runX_cons, y15_127, aq, ↓ap, qe0, qe1, qe2, *, -hK, beq_self_eq_true, Bool.not_true]; try (refine hK _ _ ?_; clear hK K; (try simp only [nq, ↓reduceIte, Nat.reduceEqDiff])))
 | (refine wpX_skip ?_; (try simp only [nq, ↓reduceIte, Nat.reduceEqDiff]))
 | (refine wpX_label ?_; (try simp only [nq, ↓reduceIte, Nat.reduceEqDiff]))
 | (refine wpX_exit ?_; (try simp only [nq, ↓reduceIte, Nat.reduceEqDiff]))
 | (refine wpX_goto ?_; (try simp only [nq, ↓reduceIte, Nat.reduceEqDiff]))
 | (refine wpX_condK (by simp only [act_eval, upd_get, Nat.reduceEqDiff, Nat.reduceLT, ↓reduceIte, *]; rfl) ?_ ?_ <;> (intro hc; first | (exfalso; simp -implicitDefEqProofs (disch := omega) only [*, bq, reduceCtorEq] at hc; done) | (simp only [dq, qe3, qe4, qe5, qe6] at hc) | skip))
 | (refine wpX_scope0 ?_)
 | (refine wpX_block ?_)
 | (refine wpX_seq ?_))
     all_goals (try exact absurd rfl ‹true ≠ true›)
     all_goals (try exact absurd rfl ‹false ≠ false›)
     refine ⟨_, by omega, _, k + 1, k, rfl, by omega, rfl, e3, e6, e9, e10, rfl, hd7, vhb7⟩
   obtain rfl : k = 31 := by omega
   (refine @unH _ ?_; refine zA y15_127 ?_; (repeat (refine inC ?_; intro hc)); try (refine inK ?_; intro K hK))
   refine (driven_spec H5).runs.mono ?_
   rintro _ H8 ⟨rfl, lH8⟩
   ((try (refine @unH _ ?_; refine zX y15_127 ?_)); (try (refine hK _ _ ?_; clear hK K; (try simp only [nq, ↓reduceIte, Nat.reduceEqDiff]))); refine @unH _ ?_; refine zA y15_127 ?_; (repeat (refine inC ?_; intro hc)); try (refine inK ?_; intro K hK))
   (refine wpX_ret ?_; (try simp only [nq, ↓reduceIte, Nat.reduceEqDiff]); rw [bodyX_ret, results_one Tryz.results15 (by decide)]; simp only [upd_get, Nat.reduceEqDiff, ↓reduceIte])
 ·replace hso : SameP _ := hso
  rcases h2 with ⟨rfl, hso2⟩ | ⟨rfl, rfl, hso2⟩
  ·replace hso2 : SameP _ := hso2
   ((try (refine @unH _ ?_; refine zX y15_127 ?_)); (try (refine hK _ _ ?_; clear hK K; (try simp only [nq, ↓reduceIte, Nat.reduceEqDiff]))); refine @unH _ ?_; refine zA y15_127 ?_; (repeat (refine inC ?_; intro hc)); try (refine inK ?_; intro K hK))
   refine wpX_loop (fun w a' H' => ∃ e, ∃ k : Nat, w = 21 - k /\ 1 <= k /\ k <= 21 /\ a' = act 117 e [] /\ e 3 = .pointer (some ⟨hb, 0, none⟩) /\ e 6 = .int .i64 mi /\ e 7 = .int .i64 0 /\ e 8 = .int .i64 11 /\ e 9 = .int .i64 z /\ e 10 = .int .i64 0 /\ e 11 = .int .i64 (k : Nat) /\ HaulIn H' n ⟨.slice a1 n1 c1, .slice a2 n2 c2, .slice a3 n3 c3, .slice a4 n4 c4⟩ /\
    H' hb = some (true, .cells #[.int .i64 n.places, .int .i64 n.pieces, .slice a1 n1 c1, .slice a2 n2 c2, .slice a3 n3 c3, .int .i64 n.rule, .slice a4 n4 c4, .int .i64 n.notice, .int .i64 n.load, .int .i64 n.barrows, .int .i64 n.lo, .int .i64 n.hi] 29 (0, 0))) (n := 20) ?_ ?_
   ·exact ⟨_, 1, by omega, by omega, by omega, rfl, rfl, rfl, rfl, rfl, rfl, rfl, rfl, hd5, vhb5⟩
   clear hd5 vhb5 H5 H4 H3
   rintro w a' H5 ⟨e, k, rfl, hk1, hk4, rfl, e3, e6, e7, e8, e9, e10, e11, hd5, vhb5⟩
   by_cases hlt : k <= 20
   ·have k0 : (1 : Int) <= (k : Int) := by omega
    have k3 : (k : Int) <= 20 := by omega
    have hpk := (show ∀ k : Int, 1 <= k -> k <= 20 -> (0 < C k ↔ False) from hso) k k0 k3
    replace hpk : SameP _ := hpk
    (refine @unH _ ?_; refine zA y15_127 ?_; (repeat (refine inC ?_; intro hc)); try (refine inK ?_; intro K hK))
    have hr := (show ∀ H', HaulIn H' n _ -> ∀ k : Int, 1 <= k -> k <= 20 -> _ from hcs) H5 hd5 k k0 k3
    refine hr.runs.mono ?_
    clear hr
    rintro _ H7 ⟨rfl, lH7⟩
    have hd7 := hd5.le lH7
    have vhb7 := lH7 _ _ vhb5
    clear hd5 vhb5 lH7
    generalize C (k : Int) = ck at *
    have hpk : 0 < ck ↔ False := hpk
    by_cases hz : 0 < ck
    ·have hy := hpk.1 hz
     replace hz : (0 : Int) < (ck : Int) := by omega
     clear hpk
     first
     | (exact (show False from hy).elim)
     | (
      (try simp -implicitDefEqProofs (disch := first | omega | (simp only [qd] <;> omega)) only [xq, ↓xp, qc, Nat.reduceAdd, List.range, List.range.loop, fine, Nat.reduceEqDiff, ↓reduceIte, yielded, reduceCtorEq, Nat.reduceLT, Nat.reduceMul, Nat.reduceSub, one, Nat.reduceLeDiff, runX_cons, y15_127, aq, ↓ap, qe0, qe1, qe2, *, -hK, beq_self_eq_true, Bool.not_true]); try (refine hK _ _ ?_; clear hK K; (try simp only [nq, ↓reduceIte, Nat.reduceEqDiff])); repeat' (first
 | (refine wpX_stmtL rfl ?_; intro K hK; simp -implicitDefEqProofs (disch := first | omega | (simp only [qd] <;> omega)) only [xq, ↓xp, qc, Nat.reduceAdd, List.range, List.range.loop, fine, Nat.reduceEqDiff, ↓reduceIte, yielded, reduceCtorEq, Nat.reduceLT, Nat.reduceMul, Nat.reduceSub, one, Nat.reduceLeDiff, runX_cons, y15_127, aq, ↓ap, qe0, qe1, qe2, *, -hK, beq_self_eq_true, Bool.not_true]; try (refine hK _ _ ?_; clear hK K))
 | (refine wpX_lastL rfl ?_; intro K hK; simp -implicitDefEqProofs (disch := first | omega | (simp only [qd] <;> omega)) only [xq, ↓xp, qc, Nat.reduceAdd, List.range, List.range.loop, fine, Nat.reduceEqDiff, ↓reduceIte, yielded, reduceCtorEq, Nat.reduceLT, Nat.reduceMul, Nat.reduceSub, one, Nat.reduceLeDiff, runX_cons, y15_127, aq, ↓ap, qe0, qe1, qe2, *, -hK, beq_self_eq_true, Bool.not_true]; try (refine hK _ _ ?_; clear hK K; (try simp only [nq, ↓reduceIte, Nat.reduceEqDiff])))
 | (refine wpX_skip ?_; (try simp only [nq, ↓reduceIte, Nat.reduceEqDiff]))
 | (refine wpX_label ?_; (try simp only [nq, ↓reduceIte, Nat.reduceEqDiff]))
 | (refine wpX_exit ?_; (try simp only [nq, ↓reduceIte, Nat.reduceEqDiff]))
 | (refine wpX_goto ?_; (try simp only [nq, ↓reduceIte, Nat.reduceEqDiff]))
 | (refine wpX_condK (by simp only [act_eval, upd_get, Nat.reduceEqDiff, Nat.reduceLT, ↓reduceIte, *]; rfl) ?_ ?_ <;> (intro hc; first | (exfalso; simp -implicitDefEqProofs (disch := omega) only [*, bq, reduceCtorEq] at hc; done) | (simp only [dq, qe3, qe4, qe5, qe6] at hc) | skip))
 | (refine wpX_scope0 ?_)
 | (refine wpX_block ?_)
 | (refine wpX_seq ?_))
      all_goals (try exact absurd rfl ‹true ≠ true›)
      all_goals (try exact absurd rfl ‹false ≠ false›)
      refine ⟨_, by omega, _, k + 1, rfl, by omega, by omega, rfl, e3, e6, e7, e8, e9, e10, rfl, hd7, vhb7⟩)
    ·have hy := mt hpk.2 hz
     replace hz : ¬ (0 : Int) < (ck : Int) := by omega
     clear hpk
     (try simp -implicitDefEqProofs (disch := first | omega | (simp only [qd] <;> omega)) only [xq, ↓xp, qc, Nat.reduceAdd, List.range, List.range.loop, fine, Nat.reduceEqDiff, ↓reduceIte, yielded, reduceCtorEq, Nat.reduceLT, Nat.reduceMul, Nat.reduceSub, one, Nat.reduceLeDiff, runX_cons, y15_127, aq, ↓ap, qe0, qe1, qe2, *, -hK, beq_self_eq_true, Bool.not_true]); try (refine hK _ _ ?_; clear hK K; (try simp only [nq, ↓reduceIte, Nat.reduceEqDiff])); repeat' (first
 | (refine wpX_stmtL rfl ?_; intro K hK; simp -implicitDefEqProofs (disch := first | omega | (simp only [qd] <;> omega)) only [xq, ↓xp, qc, Nat.reduceAdd, List.range, List.range.loop, fine, Nat.reduceEqDiff, ↓reduceIte, yielded, reduceCtorEq, Nat.reduceLT, Nat.reduceMul, Nat.reduceSub, one, Nat.reduceLeDiff, runX_cons, y15_127, aq, ↓ap, qe0, qe1, qe2, *, -hK, beq_self_eq_true, Bool.not_true]; try (refine hK _ _ ?_; clear hK K))
 | (refine wpX_lastL rfl ?_; intro K hK; simp -implicitDefEqProofs (disch := first | omega | (simp only [qd] <;> omega)) only [xq, ↓xp, qc, Nat.reduceAdd, List.range, List.range.loop, fine, Nat.reduceEqDiff, ↓reduceIte, yielded, reduceCtorEq, Nat.reduceLT, Nat.reduceMul, Nat.reduceSub, one, Nat.reduceLeDiff, runX_cons, y15_127, aq, ↓ap, qe0, qe1, qe2, *, -hK, beq_self_eq_true, Bool.not_true]; try (refine hK _ _ ?_; clear hK K; (try simp only [nq, ↓reduceIte, Nat.reduceEqDiff])))
 | (refine wpX_skip ?_; (try simp only [nq, ↓reduceIte, Nat.reduceEqDiff]))
 | (refine wpX_label ?_; (try simp only [nq, ↓reduceIte, Nat.reduceEqDiff]))
 | (refine wpX_exit ?_; (try simp only [nq, ↓reduceIte, Nat.reduceEqDiff]))
 | (refine wpX_goto ?_; (try simp only [nq, ↓reduceIte, Nat.reduceEqDiff]))
 | (refine wpX_condK (by simp only [act_eval, upd_get, Nat.reduceEqDiff, Nat.reduceLT, ↓reduceIte, *]; rfl) ?_ ?_ <;> (intro hc; first | (exfalso; simp -implicitDefEqProofs (disch := omega) only [*, bq, reduceCtorEq] at hc; done) | (simp only [dq, qe3, qe4, qe5, qe6] at hc) | skip))
 | (refine wpX_scope0 ?_)
 | (refine wpX_block ?_)
 | (refine wpX_seq ?_))
     all_goals (try exact absurd rfl ‹true ≠ true›)
     all_goals (try exact absurd rfl ‹false ≠ false›)
     refine ⟨_, by omega, _, k + 1, rfl, by omega, by omega, rfl, e3, e6, e7, e8, e9, e10, rfl, hd7, vhb7⟩
   obtain rfl : k = 21 := by omega
   (refine @unH _ ?_; refine zA y15_127 ?_; (repeat (refine inC ?_; intro hc)); try (refine inK ?_; intro K hK))
   refine wpX_loop (fun w a' H' => ∃ e, ∃ k : Nat, ∃ r : Int, w = 31 - k /\ k <= 31 /\ a' = act 117 e [] /\ e 3 = .pointer (some ⟨hb, 0, none⟩) /\ e 6 = .int .i64 mi /\ e 9 = .int .i64 z /\ e 10 = .int .i64 0 /\ e 14 = .int .i64 (k : Nat) /\ HaulIn H' n ⟨.slice a1 n1 c1, .slice a2 n2 c2, .slice a3 n3 c3, .slice a4 n4 c4⟩ /\
    H' hb = some (true, .cells #[.int .i64 n.places, .int .i64 n.pieces, .slice a1 n1 c1, .slice a2 n2 c2, .slice a3 n3 c3, .int .i64 n.rule, .slice a4 n4 c4, .int .i64 r, .int .i64 n.load, .int .i64 n.barrows, .int .i64 n.lo, .int .i64 n.hi] 29 (0, 0))) (n := 31) ?_ ?_
   ·exact ⟨_, 0, n.notice, by omega, by omega, rfl, e3, e6, e9, e10, rfl, hd5, vhb5⟩
   clear hd5 vhb5 H5 e3 e6 e7 e8 e9 e10 e11
   rintro w a' H5 ⟨e, k, r, rfl, hk4, rfl, e3, e6, e9, e10, e14, hd5, vhb5⟩
   by_cases hlt : k <= 30
   ·have k0 : (0 : Int) <= (k : Int) := by omega
    have k3 : (k : Int) <= 30 := by omega
    have hpk := (show ∀ k : Int, 0 <= k -> k <= 30 -> (0 < C' k ↔ z <= (k : Int)) from hso2) k k0 k3
    replace hpk : SameP _ := hpk
    (refine @unH _ ?_; refine zA y15_127 ?_; (repeat (refine inC ?_; intro hc)); try (refine inK ?_; intro K hK))
    have hd6 := hd5.move (set_keeps vhb5 (by decide) (by decide) (o := (.cells #[.int .i64 n.places, .int .i64 n.pieces, .slice a1 n1 c1, .slice a2 n2 c2, .slice a3 n3 c3, .int .i64 n.rule, .slice a4 n4 c4, .int .i64 (k : Nat), .int .i64 n.load, .int .i64 n.barrows, .int .i64 n.lo, .int .i64 n.hi] 29 (0, 0))))
    have vhb6 : (H5.set hb (.cells #[.int .i64 n.places, .int .i64 n.pieces, .slice a1 n1 c1, .slice a2 n2 c2, .slice a3 n3 c3, .int .i64 n.rule, .slice a4 n4 c4, .int .i64 (k : Nat), .int .i64 n.load, .int .i64 n.barrows, .int .i64 n.lo, .int .i64 n.hi] 29 (0, 0))) hb = _ := set_at
    generalize H5.set hb (.cells #[.int .i64 n.places, .int .i64 n.pieces, .slice a1 n1 c1, .slice a2 n2 c2, .slice a3 n3 c3, .int .i64 n.rule, .slice a4 n4 c4, .int .i64 (k : Nat), .int .i64 n.load, .int .i64 n.barrows, .int .i64 n.lo, .int .i64 n.hi] 29 (0, 0)) = H6 at *
    clear hd5 vhb5
    have hr := (show ∀ H', HaulIn H' n _ -> ∀ k : Int, 0 <= k -> k <= 30 -> _ from hcs2) H6 hd6 k k0 k3
    refine hr.runs.mono ?_
    clear hr
    rintro _ H7 ⟨rfl, lH7⟩
    have hd7 := hd6.le lH7
    have vhb7 := lH7 _ _ vhb6
    clear hd6 vhb6 lH7
    generalize C' (k : Int) = ck at *
    have hpk : 0 < ck ↔ z <= (k : Int) := hpk
    by_cases hz : 0 < ck
    ·have hy := hpk.1 hz
     replace hz : (0 : Int) < (ck : Int) := by omega
     clear hpk
     first
     | (exact (show False from hy).elim)
     | (
      (try simp -implicitDefEqProofs (disch := first | omega | (simp only [qd] <;> omega)) only [xq, ↓xp, qc, Nat.reduceAdd, List.range, List.range.loop, fine, Nat.reduceEqDiff, ↓reduceIte, yielded, reduceCtorEq, Nat.reduceLT, Nat.reduceMul, Nat.reduceSub, one, Nat.reduceLeDiff, runX_cons, y15_127, aq, ↓ap, qe0, qe1, qe2, *, -hK, beq_self_eq_true, Bool.not_true]); try (refine hK _ _ ?_; clear hK K; (try simp only [nq, ↓reduceIte, Nat.reduceEqDiff])); repeat' (first
 | (refine wpX_stmtL rfl ?_; intro K hK; simp -implicitDefEqProofs (disch := first | omega | (simp only [qd] <;> omega)) only [xq, ↓xp, qc, Nat.reduceAdd, List.range, List.range.loop, fine, Nat.reduceEqDiff, ↓reduceIte, yielded, reduceCtorEq, Nat.reduceLT, Nat.reduceMul, Nat.reduceSub, one, Nat.reduceLeDiff, runX_cons, y15_127, aq, ↓ap, qe0, qe1, qe2, *, -hK, beq_self_eq_true, Bool.not_true]; try (refine hK _ _ ?_; clear hK K))
 | (refine wpX_lastL rfl ?_; intro K hK; simp -implicitDefEqProofs (disch := first | omega | (simp only [qd] <;> omega)) only [xq, ↓xp, qc, Nat.reduceAdd, List.range, List.range.loop, fine, Nat.reduceEqDiff, ↓reduceIte, yielded, reduceCtorEq, Nat.reduceLT, Nat.reduceMul, Nat.reduceSub, one, Nat.reduceLeDiff, runX_cons, y15_127, aq, ↓ap, qe0, qe1, qe2, *, -hK, beq_self_eq_true, Bool.not_true]; try (refine hK _ _ ?_; clear hK K; (try simp only [nq, ↓reduceIte, Nat.reduceEqDiff])))
 | (refine wpX_skip ?_; (try simp only [nq, ↓reduceIte, Nat.reduceEqDiff]))
 | (refine wpX_label ?_; (try simp only [nq, ↓reduceIte, Nat.reduceEqDiff]))
 | (refine wpX_exit ?_; (try simp only [nq, ↓reduceIte, Nat.reduceEqDiff]))
 | (refine wpX_goto ?_; (try simp only [nq, ↓reduceIte, Nat.reduceEqDiff]))
 | (refine wpX_condK (by simp only [act_eval, upd_get, Nat.reduceEqDiff, Nat.reduceLT, ↓reduceIte, *]; rfl) ?_ ?_ <;> (intro hc; first | (exfalso; simp -implicitDefEqProofs (disch := omega) only [*, bq, reduceCtorEq] at hc; done) | (simp only [dq, qe3, qe4, qe5, qe6] at hc) | skip))
 | (refine wpX_scope0 ?_)
 | (refine wpX_block ?_)
 | (refine wpX_seq ?_))
      all_goals (try exact absurd rfl ‹true ≠ true›)
      all_goals (try exact absurd rfl ‹false ≠ false›)
      refine ⟨_, by omega, _, k + 1, k, rfl, by omega, rfl, e3, e6, e9, e10, rfl, hd7, vhb7⟩)
    ·have hy := mt hpk.2 hz
     replace hz : ¬ (0 : Int) < (ck : Int) := by omega
     clear hpk
     (try simp -implicitDefEqProofs (disch := first | omega | (simp only [qd] <;> omega)) only [xq, ↓xp, qc, Nat.reduceAdd, List.range, List.range.loop, fine, Nat.reduceEqDiff, ↓reduceIte, yielded, reduceCtorEq, Nat.reduceLT, Nat.reduceMul, Nat.reduceSub, one, Nat.reduceLeDiff, runX_cons, y15_127, aq, ↓ap, qe0, qe1, qe2, *, -hK, beq_self_eq_true, Bool.not_true]); try (refine hK _ _ ?_; clear hK K; (try simp only [nq, ↓reduceIte, Nat.reduceEqDiff])); repeat' (first
 | (refine wpX_stmtL rfl ?_; intro K hK; simp -implicitDefEqProofs (disch := first | omega | (simp only [qd] <;> omega)) only [xq, ↓xp, qc, Nat.reduceAdd, List.range, List.range.loop, fine, Nat.reduceEqDiff, ↓reduceIte, yielded, reduceCtorEq, Nat.reduceLT, Nat.reduceMul, Nat.reduceSub, one, Nat.reduceLeDiff, runX_cons, y15_127, aq, ↓ap, qe0, qe1, qe2, *, -hK, beq_self_eq_true, Bool.not_true]; try (refine hK _ _ ?_; clear hK K))
 | (refine wpX_lastL rfl ?_; intro K hK; simp -implicitDefEqProofs (disch := first | omega | (simp only [qd] <;> omega)) only [xq, ↓xp, qc, Nat.reduceAdd, List.range, List.range.loop, fine, Nat.reduceEqDiff, ↓reduceIte, yielded, reduceCtorEq, Nat.reduceLT, Nat.reduceMul, Nat.reduceSub, one, Nat.reduceLeDiff, runX_cons, y15_127, aq, ↓ap, qe0, qe1, qe2, *, -hK, beq_self_eq_true, Bool.not_true]; try (refine hK _ _ ?_; clear hK K; (try simp only [nq, ↓reduceIte, Nat.reduceEqDiff])))
 | (refine wpX_skip ?_; (try simp only [nq, ↓reduceIte, Nat.reduceEqDiff]))
 | (refine wpX_label ?_; (try simp only [nq, ↓reduceIte, Nat.reduceEqDiff]))
 | (refine wpX_exit ?_; (try simp only [nq, ↓reduceIte, Nat.reduceEqDiff]))
 | (refine wpX_goto ?_; (try simp only [nq, ↓reduceIte, Nat.reduceEqDiff]))
 | (refine wpX_condK (by simp only [act_eval, upd_get, Nat.reduceEqDiff, Nat.reduceLT, ↓reduceIte, *]; rfl) ?_ ?_ <;> (intro hc; first | (exfalso; simp -implicitDefEqProofs (disch := omega) only [*, bq, reduceCtorEq] at hc; done) | (simp only [dq, qe3, qe4, qe5, qe6] at hc) | skip))
 | (refine wpX_scope0 ?_)
 | (refine wpX_block ?_)
 | (refine wpX_seq ?_))
     all_goals (try exact absurd rfl ‹true ≠ true›)
     all_goals (try exact absurd rfl ‹false ≠ false›)
     refine ⟨_, by omega, _, k + 1, k, rfl, by omega, rfl, e3, e6, e9, e10, rfl, hd7, vhb7⟩
   obtain rfl : k = 31 := by omega
   (refine @unH _ ?_; refine zA y15_127 ?_; (repeat (refine inC ?_; intro hc)); try (refine inK ?_; intro K hK))
   refine (driven_spec H5).runs.mono ?_
   rintro _ H8 ⟨rfl, lH8⟩
   ((try (refine @unH _ ?_; refine zX y15_127 ?_)); (try (refine hK _ _ ?_; clear hK K; (try simp only [nq, ↓reduceIte, Nat.reduceEqDiff]))); refine @unH _ ?_; refine zA y15_127 ?_; (repeat (refine inC ?_; intro hc)); try (refine inK ?_; intro K hK))
   (refine wpX_ret ?_; (try simp only [nq, ↓reduceIte, Nat.reduceEqDiff]); rw [bodyX_ret, results_one Tryz.results15 (by decide)]; simp only [upd_get, Nat.reduceEqDiff, ↓reduceIte])
  ·replace hso2 : SameP _ := hso2
   ((try (refine @unH _ ?_; refine zX y15_127 ?_)); (try (refine hK _ _ ?_; clear hK K; (try simp only [nq, ↓reduceIte, Nat.reduceEqDiff]))); refine @unH _ ?_; refine zA y15_127 ?_; (repeat (refine inC ?_; intro hc)); try (refine inK ?_; intro K hK))
   refine wpX_loop (fun w a' H' => ∃ e, ∃ k : Nat, w = 21 - k /\ 1 <= k /\ k <= 21 /\ a' = act 117 e [] /\ e 3 = .pointer (some ⟨hb, 0, none⟩) /\ e 6 = .int .i64 mi /\ e 7 = .int .i64 0 /\ e 8 = .int .i64 11 /\ e 9 = .int .i64 0 /\ e 10 = .int .i64 11 /\ e 11 = .int .i64 (k : Nat) /\ HaulIn H' n ⟨.slice a1 n1 c1, .slice a2 n2 c2, .slice a3 n3 c3, .slice a4 n4 c4⟩ /\
    H' hb = some (true, .cells #[.int .i64 n.places, .int .i64 n.pieces, .slice a1 n1 c1, .slice a2 n2 c2, .slice a3 n3 c3, .int .i64 n.rule, .slice a4 n4 c4, .int .i64 n.notice, .int .i64 n.load, .int .i64 n.barrows, .int .i64 n.lo, .int .i64 n.hi] 29 (0, 0))) (n := 20) ?_ ?_
   ·exact ⟨_, 1, by omega, by omega, by omega, rfl, rfl, rfl, rfl, rfl, rfl, rfl, rfl, hd5, vhb5⟩
   clear hd5 vhb5 H5 H4 H3
   rintro w a' H5 ⟨e, k, rfl, hk1, hk4, rfl, e3, e6, e7, e8, e9, e10, e11, hd5, vhb5⟩
   by_cases hlt : k <= 20
   ·have k0 : (1 : Int) <= (k : Int) := by omega
    have k3 : (k : Int) <= 20 := by omega
    have hpk := (show ∀ k : Int, 1 <= k -> k <= 20 -> (0 < C k ↔ False) from hso) k k0 k3
    replace hpk : SameP _ := hpk
    (refine @unH _ ?_; refine zA y15_127 ?_; (repeat (refine inC ?_; intro hc)); try (refine inK ?_; intro K hK))
    have hr := (show ∀ H', HaulIn H' n _ -> ∀ k : Int, 1 <= k -> k <= 20 -> _ from hcs) H5 hd5 k k0 k3
    refine hr.runs.mono ?_
    clear hr
    rintro _ H7 ⟨rfl, lH7⟩
    have hd7 := hd5.le lH7
    have vhb7 := lH7 _ _ vhb5
    clear hd5 vhb5 lH7
    generalize C (k : Int) = ck at *
    have hpk : 0 < ck ↔ False := hpk
    by_cases hz : 0 < ck
    ·have hy := hpk.1 hz
     replace hz : (0 : Int) < (ck : Int) := by omega
     clear hpk
     first
     | (exact (show False from hy).elim)
     | (
      (try simp -implicitDefEqProofs (disch := first | omega | (simp only [qd] <;> omega)) only [xq, ↓xp, qc, Nat.reduceAdd, List.range, List.range.loop, fine, Nat.reduceEqDiff, ↓reduceIte, yielded, reduceCtorEq, Nat.reduceLT, Nat.reduceMul, Nat.reduceSub, one, Nat.reduceLeDiff, runX_cons, y15_127, aq, ↓ap, qe0, qe1, qe2, *, -hK, beq_self_eq_true, Bool.not_true]); try (refine hK _ _ ?_; clear hK K; (try simp only [nq, ↓reduceIte, Nat.reduceEqDiff])); repeat' (first
 | (refine wpX_stmtL rfl ?_; intro K hK; simp -implicitDefEqProofs (disch := first | omega | (simp only [qd] <;> omega)) only [xq, ↓xp, qc, Nat.reduceAdd, List.range, List.range.loop, fine, Nat.reduceEqDiff, ↓reduceIte, yielded, reduceCtorEq, Nat.reduceLT, Nat.reduceMul, Nat.reduceSub, one, Nat.reduceLeDiff, runX_cons, y15_127, aq, ↓ap, qe0, qe1, qe2, *, -hK, beq_self_eq_true, Bool.not_true]; try (refine hK _ _ ?_; clear hK K))
 | (refine wpX_lastL rfl ?_; intro K hK; simp -implicitDefEqProofs (disch := first | omega | (simp only [qd] <;> omega)) only [xq, ↓xp, qc, Nat.reduceAdd, List.range, List.range.loop, fine, Nat.reduceEqDiff, ↓reduceIte, yielded, reduceCtorEq, Nat.reduceLT, Nat.reduceMul, Nat.reduceSub, one, Nat.reduceLeDiff, runX_cons, y15_127, aq, ↓ap, qe0, qe1, qe2, *, -hK, beq_self_eq_true, Bool.not_true]; try (refine hK _ _ ?_; clear hK K; (try simp only [nq, ↓reduceIte, Nat.reduceEqDiff])))
 | (refine wpX_skip ?_; (try simp only [nq, ↓reduceIte, Nat.reduceEqDiff]))
 | (refine wpX_label ?_; (try simp only [nq, ↓reduceIte, Nat.reduceEqDiff]))
 | (refine wpX_exit ?_; (try simp only [nq, ↓reduceIte, Nat.reduceEqDiff]))
 | (refine wpX_goto ?_; (try simp only [nq, ↓reduceIte, Nat.reduceEqDiff]))
 | (refine wpX_condK (by simp only [act_eval, upd_get, Nat.reduceEqDiff, Nat.reduceLT, ↓reduceIte, *]; rfl) ?_ ?_ <;> (intro hc; first | (exfalso; simp -implicitDefEqProofs (disch := omega) only [*, bq, reduceCtorEq] at hc; done) | (simp only [dq, qe3, qe4, qe5, qe6] at hc) | skip))
 | (refine wpX_scope0 ?_)
 | (refine wpX_block ?_)
 | (refine wpX_seq ?_))
      all_goals (try exact absurd rfl ‹true ≠ true›)
      all_goals (try exact absurd rfl ‹false ≠ false›)
      refine ⟨_, by omega, _, k + 1, rfl, by omega, by omega, rfl, e3, e6, e7, e8, e9, e10, rfl, hd7, vhb7⟩)
    ·have hy := mt hpk.2 hz
     replace hz : ¬ (0 : Int) < (ck : Int) := by omega
     clear hpk
     (try simp -implicitDefEqProofs (disch := first | omega | (simp only [qd] <;> omega)) only [xq, ↓xp, qc, Nat.reduceAdd, List.range, List.range.loop, fine, Nat.reduceEqDiff, ↓reduceIte, yielded, reduceCtorEq, Nat.reduceLT, Nat.reduceMul, Nat.reduceSub, one, Nat.reduceLeDiff, runX_cons, y15_127, aq, ↓ap, qe0, qe1, qe2, *, -hK, beq_self_eq_true, Bool.not_true]); try (refine hK _ _ ?_; clear hK K; (try simp only [nq, ↓reduceIte, Nat.reduceEqDiff])); repeat' (first
 | (refine wpX_stmtL rfl ?_; intro K hK; simp -implicitDefEqProofs (disch := first | omega | (simp only [qd] <;> omega)) only [xq, ↓xp, qc, Nat.reduceAdd, List.range, List.range.loop, fine, Nat.reduceEqDiff, ↓reduceIte, yielded, reduceCtorEq, Nat.reduceLT, Nat.reduceMul, Nat.reduceSub, one, Nat.reduceLeDiff, runX_cons, y15_127, aq, ↓ap, qe0, qe1, qe2, *, -hK, beq_self_eq_true, Bool.not_true]; try (refine hK _ _ ?_; clear hK K))
 | (refine wpX_lastL rfl ?_; intro K hK; simp -implicitDefEqProofs (disch := first | omega | (simp only [qd] <;> omega)) only [xq, ↓xp, qc, Nat.reduceAdd, List.range, List.range.loop, fine, Nat.reduceEqDiff, ↓reduceIte, yielded, reduceCtorEq, Nat.reduceLT, Nat.reduceMul, Nat.reduceSub, one, Nat.reduceLeDiff, runX_cons, y15_127, aq, ↓ap, qe0, qe1, qe2, *, -hK, beq_self_eq_true, Bool.not_true]; try (refine hK _ _ ?_; clear hK K; (try simp only [nq, ↓reduceIte, Nat.reduceEqDiff])))
 | (refine wpX_skip ?_; (try simp only [nq, ↓reduceIte, Nat.reduceEqDiff]))
 | (refine wpX_label ?_; (try simp only [nq, ↓reduceIte, Nat.reduceEqDiff]))
 | (refine wpX_exit ?_; (try simp only [nq, ↓reduceIte, Nat.reduceEqDiff]))
 | (refine wpX_goto ?_; (try simp only [nq, ↓reduceIte, Nat.reduceEqDiff]))
 | (refine wpX_condK (by simp only [act_eval, upd_get, Nat.reduceEqDiff, Nat.reduceLT, ↓reduceIte, *]; rfl) ?_ ?_ <;> (intro hc; first | (exfalso; simp -implicitDefEqProofs (disch := omega) only [*, bq, reduceCtorEq] at hc; done) | (simp only [dq, qe3, qe4, qe5, qe6] at hc) | skip))
 | (refine wpX_scope0 ?_)
 | (refine wpX_block ?_)
 | (refine wpX_seq ?_))
     all_goals (try exact absurd rfl ‹true ≠ true›)
     all_goals (try exact absurd rfl ‹false ≠ false›)
     refine ⟨_, by omega, _, k + 1, rfl, by omega, by omega, rfl, e3, e6, e7, e8, e9, e10, rfl, hd7, vhb7⟩
   obtain rfl : k = 21 := by omega
   (refine @unH _ ?_; refine zA y15_127 ?_; (repeat (refine inC ?_; intro hc)); try (refine inK ?_; intro K hK))
   refine wpX_loop (fun w a' H' => ∃ e, ∃ k : Nat, ∃ r : Int, w = 31 - k /\ k <= 31 /\ a' = act 117 e [] /\ e 3 = .pointer (some ⟨hb, 0, none⟩) /\ e 6 = .int .i64 mi /\ e 9 = .int .i64 0 /\ e 10 = .int .i64 11 /\ e 14 = .int .i64 (k : Nat) /\ HaulIn H' n ⟨.slice a1 n1 c1, .slice a2 n2 c2, .slice a3 n3 c3, .slice a4 n4 c4⟩ /\
    H' hb = some (true, .cells #[.int .i64 n.places, .int .i64 n.pieces, .slice a1 n1 c1, .slice a2 n2 c2, .slice a3 n3 c3, .int .i64 n.rule, .slice a4 n4 c4, .int .i64 r, .int .i64 n.load, .int .i64 n.barrows, .int .i64 n.lo, .int .i64 n.hi] 29 (0, 0))) (n := 31) ?_ ?_
   ·exact ⟨_, 0, n.notice, by omega, by omega, rfl, e3, e6, e9, e10, rfl, hd5, vhb5⟩
   clear hd5 vhb5 H5 e3 e6 e7 e8 e9 e10 e11
   rintro w a' H5 ⟨e, k, r, rfl, hk4, rfl, e3, e6, e9, e10, e14, hd5, vhb5⟩
   by_cases hlt : k <= 30
   ·have k0 : (0 : Int) <= (k : Int) := by omega
    have k3 : (k : Int) <= 30 := by omega
    have hpk := (show ∀ k : Int, 0 <= k -> k <= 30 -> (0 < C' k ↔ False) from hso2) k k0 k3
    replace hpk : SameP _ := hpk
    (refine @unH _ ?_; refine zA y15_127 ?_; (repeat (refine inC ?_; intro hc)); try (refine inK ?_; intro K hK))
    have hd6 := hd5.move (set_keeps vhb5 (by decide) (by decide) (o := (.cells #[.int .i64 n.places, .int .i64 n.pieces, .slice a1 n1 c1, .slice a2 n2 c2, .slice a3 n3 c3, .int .i64 n.rule, .slice a4 n4 c4, .int .i64 (k : Nat), .int .i64 n.load, .int .i64 n.barrows, .int .i64 n.lo, .int .i64 n.hi] 29 (0, 0))))
    have vhb6 : (H5.set hb (.cells #[.int .i64 n.places, .int .i64 n.pieces, .slice a1 n1 c1, .slice a2 n2 c2, .slice a3 n3 c3, .int .i64 n.rule, .slice a4 n4 c4, .int .i64 (k : Nat), .int .i64 n.load, .int .i64 n.barrows, .int .i64 n.lo, .int .i64 n.hi] 29 (0, 0))) hb = _ := set_at
    generalize H5.set hb (.cells #[.int .i64 n.places, .int .i64 n.pieces, .slice a1 n1 c1, .slice a2 n2 c2, .slice a3 n3 c3, .int .i64 n.rule, .slice a4 n4 c4, .int .i64 (k : Nat), .int .i64 n.load, .int .i64 n.barrows, .int .i64 n.lo, .int .i64 n.hi] 29 (0, 0)) = H6 at *
    clear hd5 vhb5
    have hr := (show ∀ H', HaulIn H' n _ -> ∀ k : Int, 0 <= k -> k <= 30 -> _ from hcs2) H6 hd6 k k0 k3
    refine hr.runs.mono ?_
    clear hr
    rintro _ H7 ⟨rfl, lH7⟩
    have hd7 := hd6.le lH7
    have vhb7 := lH7 _ _ vhb6
    clear hd6 vhb6 lH7
    generalize C' (k : Int) = ck at *
    have hpk : 0 < ck ↔ False := hpk
    by_cases hz : 0 < ck
    ·have hy := hpk.1 hz
     replace hz : (0 : Int) < (ck : Int) := by omega
     clear hpk
     first
     | (exact (show False from hy).elim)
     | (
      (try simp -implicitDefEqProofs (disch := first | omega | (simp only [qd] <;> omega)) only [xq, ↓xp, qc, Nat.reduceAdd, List.range, List.range.loop, fine, Nat.reduceEqDiff, ↓reduceIte, yielded, reduceCtorEq, Nat.reduceLT, Nat.reduceMul, Nat.reduceSub, one, Nat.reduceLeDiff, runX_cons, y15_127, aq, ↓ap, qe0, qe1, qe2, *, -hK, beq_self_eq_true, Bool.not_true]); try (refine hK _ _ ?_; clear hK K; (try simp only [nq, ↓reduceIte, Nat.reduceEqDiff])); repeat' (first
 | (refine wpX_stmtL rfl ?_; intro K hK; simp -implicitDefEqProofs (disch := first | omega | (simp only [qd] <;> omega)) only [xq, ↓xp, qc, Nat.reduceAdd, List.range, List.range.loop, fine, Nat.reduceEqDiff, ↓reduceIte, yielded, reduceCtorEq, Nat.reduceLT, Nat.reduceMul, Nat.reduceSub, one, Nat.reduceLeDiff, runX_cons, y15_127, aq, ↓ap, qe0, qe1, qe2, *, -hK, beq_self_eq_true, Bool.not_true]; try (refine hK _ _ ?_; clear hK K))
 | (refine wpX_lastL rfl ?_; intro K hK; simp -implicitDefEqProofs (disch := first | omega | (simp only [qd] <;> omega)) only [xq, ↓xp, qc, Nat.reduceAdd, List.range, List.range.loop, fine, Nat.reduceEqDiff, ↓reduceIte, yielded, reduceCtorEq, Nat.reduceLT, Nat.reduceMul, Nat.reduceSub, one, Nat.reduceLeDiff, runX_cons, y15_127, aq, ↓ap, qe0, qe1, qe2, *, -hK, beq_self_eq_true, Bool.not_true]; try (refine hK _ _ ?_; clear hK K; (try simp only [nq, ↓reduceIte, Nat.reduceEqDiff])))
 | (refine wpX_skip ?_; (try simp only [nq, ↓reduceIte, Nat.reduceEqDiff]))
 | (refine wpX_label ?_; (try simp only [nq, ↓reduceIte, Nat.reduceEqDiff]))
 | (refine wpX_exit ?_; (try simp only [nq, ↓reduceIte, Nat.reduceEqDiff]))
 | (refine wpX_goto ?_; (try simp only [nq, ↓reduceIte, Nat.reduceEqDiff]))
 | (refine wpX_condK (by simp only [act_eval, upd_get, Nat.reduceEqDiff, Nat.reduceLT, ↓reduceIte, *]; rfl) ?_ ?_ <;> (intro hc; first | (exfalso; simp -implicitDefEqProofs (disch := omega) only [*, bq, reduceCtorEq] at hc; done) | (simp only [dq, qe3, qe4, qe5, qe6] at hc) | skip))
 | (refine wpX_scope0 ?_)
 | (refine wpX_block ?_)
 | (refine wpX_seq ?_))
      all_goals (try exact absurd rfl ‹true ≠ true›)
      all_goals (try exact absurd rfl ‹false ≠ false›)
      refine ⟨_, by omega, _, k + 1, k, rfl, by omega, rfl, e3, e6, e9, e10, rfl, hd7, vhb7⟩)
    ·have hy := mt hpk.2 hz
     replace hz : ¬ (0 : Int) < (ck : Int) := by omega
     clear hpk
     (try simp -implicitDefEqProofs (disch := first | omega | (simp only [qd] <;> omega)) only [xq, ↓xp, qc, Nat.reduceAdd, List.range, List.range.loop, fine, Nat.reduceEqDiff, ↓reduceIte, yielded, reduceCtorEq, Nat.reduceLT, Nat.reduceMul, Nat.reduceSub, one, Nat.reduceLeDiff, runX_cons, y15_127, aq, ↓ap, qe0, qe1, qe2, *, -hK, beq_self_eq_true, Bool.not_true]); try (refine hK _ _ ?_; clear hK K; (try simp only [nq, ↓reduceIte, Nat.reduceEqDiff])); repeat' (first
 | (refine wpX_stmtL rfl ?_; intro K hK; simp -implicitDefEqProofs (disch := first | omega | (simp only [qd] <;> omega)) only [xq, ↓xp, qc, Nat.reduceAdd, List.range, List.range.loop, fine, Nat.reduceEqDiff, ↓reduceIte, yielded, reduceCtorEq, Nat.reduceLT, Nat.reduceMul, Nat.reduceSub, one, Nat.reduceLeDiff, runX_cons, y15_127, aq, ↓ap, qe0, qe1, qe2, *, -hK, beq_self_eq_true, Bool.not_true]; try (refine hK _ _ ?_; clear hK K))
 | (refine wpX_lastL rfl ?_; intro K hK; simp -implicitDefEqProofs (disch := first | omega | (simp only [qd] <;> omega)) only [xq, ↓xp, qc, Nat.reduceAdd, List.range, List.range.loop, fine, Nat.reduceEqDiff, ↓reduceIte, yielded, reduceCtorEq, Nat.reduceLT, Nat.reduceMul, Nat.reduceSub, one, Nat.reduceLeDiff, runX_cons, y15_127, aq, ↓ap, qe0, qe1, qe2, *, -hK, beq_self_eq_true, Bool.not_true]; try (refine hK _ _ ?_; clear hK K; (try simp only [nq, ↓reduceIte, Nat.reduceEqDiff])))
 | (refine wpX_skip ?_; (try simp only [nq, ↓reduceIte, Nat.reduceEqDiff]))
 | (refine wpX_label ?_; (try simp only [nq, ↓reduceIte, Nat.reduceEqDiff]))
 | (refine wpX_exit ?_; (try simp only [nq, ↓reduceIte, Nat.reduceEqDiff]))
 | (refine wpX_goto ?_; (try simp only [nq, ↓reduceIte, Nat.reduceEqDiff]))
 | (refine wpX_condK (by simp only [act_eval, upd_get, Nat.reduceEqDiff, Nat.reduceLT, ↓reduceIte, *]; rfl) ?_ ?_ <;> (intro hc; first | (exfalso; simp -implicitDefEqProofs (disch := omega) only [*, bq, reduceCtorEq] at hc; done) | (simp only [dq, qe3, qe4, qe5, qe6] at hc) | skip))
 | (refine wpX_scope0 ?_)
 | (refine wpX_block ?_)
 | (refine wpX_seq ?_))
     all_goals (try exact absurd rfl ‹true ≠ true›)
     all_goals (try exact absurd rfl ‹false ≠ false›)
     refine ⟨_, by omega, _, k + 1, k, rfl, by omega, rfl, e3, e6, e9, e10, rfl, hd7, vhb7⟩
   obtain rfl : k = 31 := by omega
   (refine @unH _ ?_; refine zA y15_127 ?_; (repeat (refine inC ?_; intro hc)); try (refine inK ?_; intro K hK))
   refine (driven_spec H5).runs.mono ?_
   rintro _ H8 ⟨rfl, lH8⟩
   ((try (refine @unH _ ?_; refine zX y15_127 ?_)); (try (refine hK _ _ ?_; clear hK K; (try simp only [nq, ↓reduceIte, Nat.reduceEqDiff]))); refine @unH _ ?_; refine zA y15_127 ?_; (repeat (refine inC ?_; intro hc)); try (refine inK ?_; intro K hK))
   (refine wpX_ret ?_; (try simp only [nq, ↓reduceIte, Nat.reduceEqDiff]); rw [bodyX_ret, results_one Tryz.results15 (by decide)]; simp only [upd_get, Nat.reduceEqDiff, ↓reduceIte])
end Go.Proofs.YtofmadjgbcopdaaGreatDoor
end
section
namespace Go.Proofs.YtofmadjgbcopdaaGreatDoor
open Go Go.X Go.ChangeShapes Go.WideShapes Go.RowKit
set_option maxRecDepth 100000 in
theorem law_lifted (os : Os) (started : os.Started) (H : Type) (enc : TypeId × Value -> H) :
  ReturnsInLeavingWide {} Tryz.checked os 15 .any (fun w args => (Rows.barrowSlowestSpec.pre enc Tryz.prog Tryz.f15 [] false w args /\ laidMetH Tryz.prog [("errors.errorType", Rows.laid_errors_errorType)] w) /\ sizedMet enc Tryz.prog Tryz.f15 (OpenSpec.ofChange Rows.barrowSlowestSpec) false w args)
   (Rows.barrowSlowestSpec.post enc Tryz.prog Tryz.f15 false true false false) := by
 refine leaving_of_change_and (C := Tryz.checked) (X := fun w _ => laidMetH Tryz.prog [("errors.errorType", Rows.laid_errors_errorType)] w) (fun _ _ _ hh h => h.of_heap hh) ownK started Tryz.func15
  (ChangeSpec.witness_at (enc := enc) (C := Tryz.checked) (os := os) (X := fun w _ => laidMetH Tryz.prog [("errors.errorType", Rows.laid_errors_errorType)] w) false (laidWorld os) #[.slice none 0 0] 8 rfl (by kernel_rfl) (by kernel_rfl) (by kernel_rfl) (by kernel_rfl) (by kernel_rfl) (laidWorld_met os _)) ?_
 intro W base args ds gs before hval0 hW hL
 have hval : ∀ (j : Nat) t v, Tryz.f15.params[j]? = some t -> args[j]? = some v -> Value.okWide Tryz.prog W .any base t v := hval0
 have hW' := hW
 obtain ⟨p, q, hA0, hV0, rfl, hfz, hnd⟩ := hW
 have hA : DataW.TrodAll enc Tryz.prog W 0 (fun _ => true) true Tryz.f15.params.toList args.toList ds p := hA0
 have hV : DataW.TrodVars enc Tryz.prog W (fun _ => true) [] gs q := hV0
 rw [Tryz.params15] at hA hval
 obtain ⟨v0, d0, rfl, rfl, h0⟩ := trodAll_one hA
 obtain ⟨a0, len, cap, rfl⟩ := okWide_slice Tryz.underlying22 (hval 0 22 v0 rfl rfl)
 have h0k := h0
 obtain ⟨fuel, hf⟩ := h0
 obtain ⟨rfl, rfl⟩ : gs = [] /\ q = [] := by
  cases gs with
  | nil => exact ⟨rfl, hV⟩
  | cons g r => exact absurd hV (by intro h; cases h)
 have e1 : Rows.barrowSlowestSpec.fn H ([d0] ++ []) = { results := [.lit (.bool true)], args := [d0] } := by simp [Rows.barrowSlowestSpec]
 have hcells : ∀ i : Nat, i < len -> ∃ sb so c e fr x, a0 = some ⟨sb, so, none⟩ /\ allShared W sb = some (false, .cells c e fr) /\ c[so + i]? = some (.int .i64 x) := by
  rcases open_ints Tryz.underlying22 Tryz.underlying3 cellsK hf with ⟨hcs, _⟩ | ⟨a, len', cap', zs, hcs, _, hl, hm, hz, hx, hcell, hwz⟩
  ·simp [Value.cells] at hcs
   intro i hi
   omega
  ·simp [Value.cells] at hcs
   obtain ⟨rfl, rfl, rfl⟩ := hcs
   intro i hi
   simp only [if_true] at hz
   have hc := hcell i (by omega)
   obtain ⟨b, off, spot⟩ := a
   have hspot : spot = none := by simpa [Addr.add] using World.cell?_spot (hcell 0 (by omega))
   subst hspot
   rw [add_plain] at hc
   unfold World.cell? at hc
   split at hc
   ·rename_i c e fr hb
    exact ⟨b, off, c, e, fr, _, rfl, by simp [allShared, hb], by simpa using hc⟩
   ·cases hc
 have hlt : ∀ x ∈ p, x.block < W.heap.size := fun x hx => by simpa using hW'.lt x (by simpa using hx)
 obtain ⟨N, last, o, w', t', r1, r2, r3, v, hv, ⟨rfl, hB⟩, r4⟩ := (bslowest_spec (allShared W) a0 len cap hcells).good Tryz.func15 (results_tmp Tryz.results15 _) (by kernel_rfl)
 refine ⟨N, last, o, w', t', r1, r2, r3, _, hv, ?_, r4⟩
 have hb := hB.below
 refine ⟨_, _, _, [], p, [], hW', ?_, ?_, ?_, hB.kept _, fun h => by cases h⟩
 ·rw [e1]; exact trodAll_mk1 (shut_bool Tryz.underlying4 true)
 ·rw [e1]
  have t := trodAll_mk1 (DataW.Trod.of_heap (w := { w' with tape := W.tape }) (w' := w') rfl (Below.trod laidOutK (by kernel_rfl) (of_decide_eq_true (by kernel_rfl)) h0k hb hlt))
  exact t
 ·rw [e1]; rfl
end Go.Proofs.YtofmadjgbcopdaaGreatDoor
end
section
namespace Go.Proofs.YtofmadjgbcopdaaGreatDoor
open Go Go.X Go.ChangeShapes Go.WideShapes Go.RowKit
theorem jEnter : Program.mayEnter Tryz.pinned.checked.prog = true := factEnter
theorem jLift : (Rows.barrowSlowestRow.lifted == Program.liftsFinal Tryz.pinned.checked.prog) = true := by rw [show Program.liftsFinal Tryz.pinned.checked.prog = Rows.barrowSlowestRow.lifted from factLift]; exact beq_self_eq_true _
theorem jMake : (Program.make Tryz.pinned.checked.prog == some Rows.barrowSlowestRow.make) = true := by rw [show Program.make Tryz.pinned.checked.prog = some Rows.barrowSlowestRow.make from factMake]; exact beq_self_eq_true _
set_option maxRecDepth 100000 in
theorem jf : joinedFacts Tryz.pinned.checked.prog 15 Tryz.f15 Rows.barrowSlowestSpec Rows.barrowSlowestRow = true := by
 unfold joinedFacts
 simp only [jEnter, jLift, jMake, Bool.and_true]
 kernel_rfl
set_option maxRecDepth 100000 in
theorem barrowSlowest_said : Rows.BarrowSlowestSaid :=
 OpenClaim.holds_of_wide_leaving 15 Tryz.f15 rfl rfl rfl rfl rfl rfl rfl ⟨rfl, rfl, rfl, rfl, rfl⟩ rfl rfl rfl rfl rfl (by kernel_rfl) Tryz.func15 jf
  (of_decide_eq_true (by kernel_rfl)) (by unfold Func.isWrapper; rw [if_neg (of_decide_eq_false (by kernel_rfl))]; exact ⟨rfl, rfl⟩)
  (fun os started H enc _ => law_lifted os started H enc)
end Go.Proofs.YtofmadjgbcopdaaGreatDoor
end
