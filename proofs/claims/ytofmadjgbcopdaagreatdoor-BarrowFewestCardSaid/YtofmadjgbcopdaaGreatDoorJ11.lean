/- Texts LawB BFewest PBarrowFewest SBarrowFewest. -/
import Derived.Test.YtofmadjgbcopdaaGreatDoorJ10
import Derived.Test.YtofmadjgbcopdaaGreatDoorAFactA
import Derived.Test.YtofmadjgbcopdaaGreatDoorAFactB
import Derived.Test.YtofmadjgbcopdaaGreatDoorAFactC
set_option linter.defProp false
set_option linter.unusedSimpArgs false
set_option linter.unusedVariables false
set_option maxRecDepth 100000
set_option maxHeartbeats 2000000
section
namespace Go.Proofs.YtofmadjgbcopdaaGreatDoor
open Go Go.X
theorem HaulIn.due_mono {H : Hp} {n : HN} {v : HV} (h : HaulIn H n v) : ∀ a b, a <= b -> b < n.jobs.length -> n.due n.jobs a <= n.due n.jobs b := by
 intro a b hab hb
 obtain ⟨_, hj2, hj3⟩ := h.jobs
 have ea : n.jobs.getD a 0 = n.jobs[a] := by simp [List.getD, List.getElem?_eq_getElem (show a < n.jobs.length by omega)]
 have eb : n.jobs.getD b 0 = n.jobs[b] := by simp [List.getD, List.getElem?_eq_getElem hb]
 have ha := hj2 _ (List.getElem_mem (show a < n.jobs.length by omega))
 have hbb := hj2 _ (List.getElem_mem hb)
 unfold HN.due
 rw [ea, eb]
 have hle : n.jobs[a] <= n.jobs[b] := by
  rcases Nat.lt_or_ge a b with hlt | hge
  ·exact Int.le_of_lt ((List.pairwise_iff_getElem.1 hj3) a b (by omega) hb hlt)
  ·obtain rfl : a = b := by omega
   exact Int.le_refl _
 generalize n.jobs[a] = x at *
 generalize n.jobs[b] = y at *
 have gx : n.xs.getD x.toNat 0 = n.xs[x.toNat]'(by omega) := by simp [List.getD, List.getElem?_eq_getElem (show x.toNat < n.xs.length by omega)]
 have gy : n.xs.getD y.toNat 0 = n.xs[y.toNat]'(by omega) := by simp [List.getD, List.getElem?_eq_getElem (show y.toNat < n.xs.length by omega)]
 rw [gx, gy]
 rcases Int.lt_or_le x y with hlt | hge
 ·exact (List.pairwise_iff_getElem.1 h.ok.2.1) x.toNat y.toNat (by omega) (by omega) (by omega)
 ·obtain rfl : x = y := by omega
  exact Int.le_refl _
theorem fineB_all {n : HN} {js : List Int} {mi : Int} {pl : List Nat} : fineB n js mi pl = true ↔ ∀ x ∈ lateG n js mi pl bs0 0, x = 0 := by
 unfold fineB
 rw [List.all_eq_true]
 exact ⟨fun h x hx => by simpa using h x hx, fun h x hx => by simpa using h x hx⟩
theorem countF_pos {n : HN} {mi : Int} : 0 < countF n mi ↔ ∃ pl : List Nat, pl.map (fun x : Nat => (x : Int)) ∈ comps n.load.toNat n.jobs.length /\ fineB n n.jobs mi pl = true := by
 unfold countF
 rw [List.length_pos_iff_exists_mem]
 constructor
 ·rintro ⟨l, hl⟩
  obtain ⟨h1, h2⟩ := List.mem_filter.1 hl
  obtain ⟨pl, rfl, _, _⟩ := comps_parts _ _ l h1
  exact ⟨pl, h1, by rwa [fineI_map] at h2⟩
 ·rintro ⟨pl, h1, h2⟩
  exact ⟨_, List.mem_filter.2 ⟨h1, by rwa [fineI_map]⟩⟩
theorem good_count {n : HN} {mi : Int} (hmono : ∀ a b, a <= b -> b < n.jobs.length -> n.due n.jobs a <= n.due n.jobs b) : goodF n n.jobs mi n.load.toNat n.jobs.length bs0 0 = true ↔ 0 < countF n mi := by
 rw [goodF_iff n n.jobs mi n.load.toNat hmono n.jobs.length bs0 0 (by omega), countF_pos]
 simp only [Nat.sub_zero, fineB_all]
theorem soF_count {n : HN} {mi p k : Int} {H : Hp} {v : HV} (h : HaulIn H (n.part p k) v) : soF n mi p k = true ↔ 0 < countF (n.part p k) mi := good_count h.due_mono
theorem numsL_cons (lo : Int) (k : Nat) : numsL lo (k + 1) = lo :: numsL (lo + 1) k := by
 unfold numsL
 rw [List.range_succ_eq_map, List.map_cons, List.map_map]
 congr 1
 ·simp
 ·refine List.map_congr_left fun i _ => ?_
  simp only [Function.comp]
  omega
def laterB (by_ : Int) (bs bs' : List Int) : Prop := bs.length = bs'.length /\ ∀ i, i < bs.length -> (bs.getD i 0 = -1048576 /\ bs'.getD i 0 = -1048576) ∨ (-1000 <= bs.getD i 0 /\ bs'.getD i 0 = bs.getD i 0 + by_)
theorem laterB.pick {by_ : Int} {bs bs' : List Int} (h0 : 0 <= by_) (h : laterB by_ bs bs') : ∀ B, B <= bs.length -> pickB bs' B = pickB bs B
 | 0, _ => rfl
 | B + 1, hB => by
  unfold pickB
  have ih := h.pick h0 B (by omega)
  rw [ih]
  by_cases hB0 : B = 0
  ·rw [if_pos hB0, if_pos hB0]
  ·rw [if_neg hB0, if_neg hB0]
   have hp := pickB_lt bs B (by omega)
   have h1 := h.2 B (by omega)
   have h2 := h.2 (pickB bs B) (by omega)
   have e : bs'.getD B 0 < bs'.getD (pickB bs B) 0 ↔ bs.getD B 0 < bs.getD (pickB bs B) 0 := by omega
   by_cases hc : bs.getD B 0 < bs.getD (pickB bs B) 0
   ·rw [if_pos hc, if_pos (e.2 hc)]
   ·rw [if_neg hc, if_neg (mt e.1 hc)]
def RideV.later (r : RideV) (by_ : Int) : RideV := ⟨r.barrow, r.out + by_, r.back + by_⟩
end Go.Proofs.YtofmadjgbcopdaaGreatDoor
end
section
namespace Go.Proofs.YtofmadjgbcopdaaGreatDoor
open Go Go.X
def y10_117 := And.intro @callF21 (And.intro @callF41 (And.intro (fun H => ex_alloc (H := H) (P := Tryz.prog) (h := Tryz.zeroValue29)) (And.intro (fun H => storeAt_agg (H := H) Tryz.sizeOf29) (And.intro (fun H => loadAt_aggE (H := H) Tryz.underlying29 rfl Tryz.sizeOf29) (And.intro @callF47 (And.intro (fun H => fieldAt_eq (H := H) Tryz.underlying29 (i := 6) rfl (off := 9) rfl Tryz.sizeOf3) (And.intro (fun H => storeAt_int (H := H) Tryz.sizeOf3) (And.intro @callF53 (And.intro @eqG_bool @callF20)))))))))
theorem fewest_step {P : Int -> Bool} {k : Nat} (h : 0 < k) (h4 : k <= 4) : (numsL k (4 - k + 1)).find? P = if P k = true then some (k : Int) else (numsL (k + 1) (4 - k)).find? P := by
 rw [numsL_cons, List.find?_cons]
 cases P k <;> simp
theorem bfewest_spec (H : Hp) (sa : Option Addr) (sl sc : Nat) (hs : ∀ i : Nat, i < sl -> ∃ sb so c e fr x, sa = some ⟨sb, so, none⟩ /\ H sb = some (false, .cells c e fr) /\ c[so + i]? = some (.int .i64 x)) :
  FnX Tryz.prog (.co Tryz.prog) 10 #[.slice sa sl sc] H fun e _ => e = .returned (.bool true) := by
 refine FnX_start Tryz.func10 rfl Tryz.ntmps10 (by simp) ?_
 (refine @unH _ ?_; refine zA y10_117 ?_; (repeat (refine inC ?_; intro hc)); try (refine inK ?_; intro K hK))
 refine (newTin_spec _ H sa sl sc hs 240 (by omega)).runs.mono ?_
 rintro _ H1 ⟨tb, rfl, l1, hT⟩
 ((try (refine @unH _ ?_; refine zX y10_117 ?_)); (try (refine hK _ _ ?_; clear hK K; (try simp only [nq, ↓reduceIte, Nat.reduceEqDiff]))); refine @unH _ ?_; refine zA y10_117 ?_; (repeat (refine inC ?_; intro hc)); try (refine inK ?_; intro K hK))
 refine (made_spec _ H1 tb 0 7 (by omega) hT).runs.mono ?_
 rintro _ H2 ⟨n, v, jv, pv, pl, mi, rfl, hd2, hx8, hj2, hp2, hok, hm1, hm20, _, _⟩
 clear hT hs l1
 obtain ⟨hj8, hjb, _⟩ := hd2.jobs
 have hrl := fun H' (h' : HaulIn H' n v) => fewest_spec (.co Tryz.prog) H' n v h' mi hm1 hm20
 have hin := fun H' (h' : HaulIn H' n v) (k : Int) (k0 : 1 <= k) (k4 : k <= 4) => ({ h' with b1 := k0, b4 := k4 } : HaulIn H' { n with barrows := k } v)
 have hcs := fun H' (h' : HaulIn H' n v) (k : Int) (k0 : 1 <= k) (k4 : k <= 4) => bcount_spec (.co Tryz.prog) H' { n with barrows := k } v (hin H' h' k k0 k4) mi hm1 hm20 hj8 hjb
 have hso : ∀ k : Int, 1 <= k -> k <= 4 -> (soF n mi 1 k = true ↔ 0 < countF { n with barrows := k } mi) := fun k k0 k4 => soF_count (p := 1) (hin H2 hd2 k k0 k4)
 generalize soF n mi 1 = P at *
 obtain ⟨C, hC⟩ : ∃ C : Int -> Nat, ∀ k, countF { n with barrows := k } mi = C k := ⟨_, fun _ => rfl⟩
 simp only [hC] at hcs hso
 clear hin hC
 obtain ⟨sv, cv, tv, xv⟩ := v
 obtain ⟨a1, n1, c1, hsv⟩ := hd2.day.st.isSlice
 obtain ⟨a2, n2, c2, hcv⟩ := hd2.day.calls.isSlice
 obtain ⟨a3, n3, c3, htv⟩ := hd2.day.truth.isSlice
 obtain ⟨a4, n4, c4, hxv⟩ := hd2.times.isSlice
 simp only [] at hsv hcv htv hxv
 subst hsv hcv htv hxv
 obtain ⟨a5, n5, c5, rfl⟩ := hj2.isSlice
 obtain ⟨a6, n6, c6, rfl⟩ := hp2.isSlice
 simp only [HN.agg] at hrl hcs ⊢
 replace hrl : SameP _ := hrl
 replace hcs : SameP _ := hcs
 replace hso : SameP _ := hso
 clear hjb hok hj2 hp2
 ((try (refine @unH _ ?_; refine zX y10_117 ?_)); (try (refine hK _ _ ?_; clear hK K; (try simp only [nq, ↓reduceIte, Nat.reduceEqDiff]))); refine @unH _ ?_; refine zA y10_117 ?_; (repeat (refine inC ?_; intro hc)); try (refine inK ?_; intro K hK))
 (intro hb hhb; generalize hG : Hp.set _ hb _ = H3; have lH3 := le_of_set hG hhb; have vhb := at_of_set hG; clear hG)
 have hd3 := hd2.le lH3
 clear hd2 lH3 hhb
 ((try (refine @unH _ ?_; refine zX y10_117 ?_)); (try (refine hK _ _ ?_; clear hK K; (try simp only [nq, ↓reduceIte, Nat.reduceEqDiff]))); refine @unH _ ?_; refine zA y10_117 ?_; (repeat (refine inC ?_; intro hc)); try (refine inK ?_; intro K hK))
 have hr := (show ∀ H', HaulIn H' n _ -> _ from hrl) H3 hd3
 refine hr.runs.mono ?_
 clear hr hrl
 rintro _ H4 ⟨lH4, y, cc, rfl, hyc⟩
 have hd4 := hd3.le lH4
 have vhb4 := lH4 _ _ vhb
 clear hd3 vhb lH4
 have hcc : (∃ x, (numsL 1 4).find? P = some x /\ y = x /\ cc = 0 /\ 0 < x) ∨ ((numsL 1 4).find? P = none /\ y = 0 /\ cc = 11) := by
  cases hm : (numsL 1 4).find? P with
  | none => rw [hm] at hyc; exact .inr ⟨rfl, hyc.1, hyc.2⟩
  | some x =>
   rw [hm] at hyc
   obtain ⟨i, hi, rfl⟩ := List.mem_map.1 (List.mem_of_find?_eq_some hm)
   exact .inl ⟨_, rfl, hyc.1, hyc.2, by omega⟩
 clear hyc
 rcases hcc with ⟨x, hm, rfl, rfl, hx0⟩ | ⟨hm, rfl, rfl⟩
 ·replace hm : SameP _ := hm
  ((try (refine @unH _ ?_; refine zX y10_117 ?_)); (try (refine hK _ _ ?_; clear hK K; (try simp only [nq, ↓reduceIte, Nat.reduceEqDiff]))); refine @unH _ ?_; refine zA y10_117 ?_; (repeat (refine inC ?_; intro hc)); try (refine inK ?_; intro K hK))
  refine wpX_loop (fun w a' H' => ∃ e, ∃ k : Nat, ∃ r : Int, w = k /\ k <= 4 /\ a' = act 63 e [] /\ e 3 = .pointer (some ⟨hb, 0, none⟩) /\ e 6 = .int .i64 mi /\ e 7 = .int .i64 y /\ e 8 = .int .i64 0 /\ e 9 = .int .i64 (((numsL (k + 1) (4 - k)).find? P).getD 0) /\ e 10 = .int .i64 (k : Nat) /\ HaulIn H' n ⟨.slice a1 n1 c1, .slice a2 n2 c2, .slice a3 n3 c3, .slice a4 n4 c4⟩ /\
   H' hb = some (true, .cells #[.int .i64 n.places, .int .i64 n.pieces, .slice a1 n1 c1, .slice a2 n2 c2, .slice a3 n3 c3, .int .i64 n.rule, .slice a4 n4 c4, .int .i64 n.notice, .int .i64 n.load, .int .i64 r, .int .i64 n.lo, .int .i64 n.hi] 29 (0, 0))) (n := 4) ?_ ?_
  ·exact ⟨_, 4, n.barrows, rfl, by omega, rfl, rfl, rfl, rfl, rfl, rfl, rfl, hd4, vhb4⟩
  ·clear hd4 vhb4 H4 H3
   rintro w a' H5 ⟨e, k, r, rfl, hk4, rfl, e3, e6, e7, e8, e9, e10, hd5, vhb5⟩
   by_cases hlt : 0 < w
   ·have k0 : (1 : Int) <= (w : Int) := by omega
    have k3 : (w : Int) <= 4 := by omega
    have hpk := (show ∀ k : Int, 1 <= k -> k <= 4 -> (P k = true ↔ 0 < C k) from hso) w k0 k3
    have hst := fewest_step (P := P) hlt hk4
    rw [<- show 4 - (w - 1) = 4 - w + 1 by omega] at hst
    replace hst : SameP _ := hst
    replace hpk : SameP _ := hpk
    generalize hdue : ((numsL (w + 1) (4 - w)).find? P).getD 0 = due at e9
    replace hdue : SameP _ := hdue
    (refine @unH _ ?_; refine zA y10_117 ?_; (repeat (refine inC ?_; intro hc)); try (refine inK ?_; intro K hK))
    have hd6 := hd5.move (set_keeps vhb5 (by decide) (by decide) (o := (.cells #[.int .i64 n.places, .int .i64 n.pieces, .slice a1 n1 c1, .slice a2 n2 c2, .slice a3 n3 c3, .int .i64 n.rule, .slice a4 n4 c4, .int .i64 n.notice, .int .i64 n.load, .int .i64 (w : Nat), .int .i64 n.lo, .int .i64 n.hi] 29 (0, 0))))
    have vhb6 : (H5.set hb (.cells #[.int .i64 n.places, .int .i64 n.pieces, .slice a1 n1 c1, .slice a2 n2 c2, .slice a3 n3 c3, .int .i64 n.rule, .slice a4 n4 c4, .int .i64 n.notice, .int .i64 n.load, .int .i64 (w : Nat), .int .i64 n.lo, .int .i64 n.hi] 29 (0, 0))) hb = some (true, (.cells #[.int .i64 n.places, .int .i64 n.pieces, .slice a1 n1 c1, .slice a2 n2 c2, .slice a3 n3 c3, .int .i64 n.rule, .slice a4 n4 c4, .int .i64 n.notice, .int .i64 n.load, .int .i64 (w : Nat), .int .i64 n.lo, .int .i64 n.hi] 29 (0, 0))) := set_at
    generalize H5.set hb (.cells #[.int .i64 n.places, .int .i64 n.pieces, .slice a1 n1 c1, .slice a2 n2 c2, .slice a3 n3 c3, .int .i64 n.rule, .slice a4 n4 c4, .int .i64 n.notice, .int .i64 n.load, .int .i64 (w : Nat), .int .i64 n.lo, .int .i64 n.hi] 29 (0, 0)) = H6 at *
    clear hd5 vhb5
    have hr := (show ∀ H', HaulIn H' n _ -> ∀ k : Int, 1 <= k -> k <= 4 -> _ from hcs) H6 hd6 w k0 k3
    refine hr.runs.mono ?_
    clear hr
    rintro _ H7 ⟨rfl, lH7⟩
    have hd7 := hd6.le lH7
    have vhb7 := lH7 _ _ vhb6
    clear hd6 vhb6 lH7
    generalize C (w : Int) = ck at *
    by_cases hz : 0 < ck
    ·have hp : P w = true := (show P w = true ↔ 0 < ck from hpk).2 hz
     have hst' : (numsL w (4 - (w - 1))).find? P = some (w : Int) := by have h : (numsL w (4 - (w - 1))).find? P = if P w = true then some (w : Int) else _ := hst; rwa [if_pos hp] at h
     replace hst' : SameP _ := hst'
     replace hz : (0 : Int) < (ck : Int) := by omega
     clear hst hpk hp
     ((try (refine @unH _ ?_; refine zX y10_117 ?_)); (try (refine hK _ _ ?_; clear hK K; (try simp only [nq, ↓reduceIte, Nat.reduceEqDiff]))); refine @unH _ ?_; refine zA y10_117 ?_; (repeat (refine inC ?_; intro hc)); try (refine inK ?_; intro K hK))
     refine ⟨w - 1, by omega, _, w - 1, w, rfl, by omega, rfl, e3, e6, e7, e8, ?_, ?_, hd7, vhb7⟩
     ·rw [show ((w - 1 : Nat) : Int) + 1 = (w : Int) by omega, show (numsL w (4 - (w - 1))).find? P = _ from hst']; rfl
     ·show Value.int .i64 _ = Value.int .i64 _
      congr 1
      omega
    ·have hst' : (numsL w (4 - (w - 1))).find? P = (numsL (w + 1) (4 - w)).find? P := by have h : (numsL w (4 - (w - 1))).find? P = if P w = true then some (w : Int) else (numsL (w + 1) (4 - w)).find? P := hst; rwa [if_neg (mt (show P w = true ↔ 0 < ck from hpk).1 hz)] at h
     replace hst' : SameP _ := hst'
     replace hz : ¬ (0 : Int) < (ck : Int) := by omega
     clear hst hpk
     ((try (refine @unH _ ?_; refine zX y10_117 ?_)); (try (refine hK _ _ ?_; clear hK K; (try simp only [nq, ↓reduceIte, Nat.reduceEqDiff]))); refine @unH _ ?_; refine zA y10_117 ?_; (repeat (refine inC ?_; intro hc)); try (refine inK ?_; intro K hK))
     refine ⟨w - 1, by omega, _, w - 1, w, rfl, by omega, rfl, e3, e6, e7, e8, ?_, ?_, hd7, vhb7⟩
     ·rw [show ((w - 1 : Nat) : Int) + 1 = (w : Int) by omega, show (numsL w (4 - (w - 1))).find? P = _ from hst', show ((numsL (w + 1) (4 - w)).find? P).getD 0 = due from hdue]; exact e9
     ·show Value.int .i64 _ = Value.int .i64 _
      congr 1
      omega
   ·obtain rfl : w = 0 := by omega
    have hm2 : (((numsL ((0 : Nat) + 1 : Int) (4 - 0)).find? P).getD 0) = y := by rw [show ((0 : Nat) + 1 : Int) = 1 from rfl, show (numsL 1 (4 - 0)).find? P = _ from hm]; rfl
    rw [hm2] at e9
    clear hm2
    (refine @unH _ ?_; refine zA y10_117 ?_; (repeat (refine inC ?_; intro hc)); try (refine inK ?_; intro K hK))
    refine (driven_spec H5).runs.mono ?_
    rintro _ H8 ⟨rfl, lH8⟩
    ((try (refine @unH _ ?_; refine zX y10_117 ?_)); (try (refine hK _ _ ?_; clear hK K; (try simp only [nq, ↓reduceIte, Nat.reduceEqDiff]))); refine @unH _ ?_; refine zA y10_117 ?_; (repeat (refine inC ?_; intro hc)); try (refine inK ?_; intro K hK))
    (refine wpX_ret ?_; (try simp only [nq, ↓reduceIte, Nat.reduceEqDiff]); rw [bodyX_ret, results_one Tryz.results10 (by decide)]; simp only [upd_get, Nat.reduceEqDiff, ↓reduceIte])
 ·replace hm : SameP _ := hm
  ((try (refine @unH _ ?_; refine zX y10_117 ?_)); (try (refine hK _ _ ?_; clear hK K; (try simp only [nq, ↓reduceIte, Nat.reduceEqDiff]))); refine @unH _ ?_; refine zA y10_117 ?_; (repeat (refine inC ?_; intro hc)); try (refine inK ?_; intro K hK))
  refine wpX_loop (fun w a' H' => ∃ e, ∃ k : Nat, ∃ r : Int, w = k /\ k <= 4 /\ a' = act 63 e [] /\ e 3 = .pointer (some ⟨hb, 0, none⟩) /\ e 6 = .int .i64 mi /\ e 7 = .int .i64 0 /\ e 8 = .int .i64 11 /\ e 9 = .int .i64 (((numsL (k + 1) (4 - k)).find? P).getD 0) /\ e 10 = .int .i64 (k : Nat) /\ HaulIn H' n ⟨.slice a1 n1 c1, .slice a2 n2 c2, .slice a3 n3 c3, .slice a4 n4 c4⟩ /\
   H' hb = some (true, .cells #[.int .i64 n.places, .int .i64 n.pieces, .slice a1 n1 c1, .slice a2 n2 c2, .slice a3 n3 c3, .int .i64 n.rule, .slice a4 n4 c4, .int .i64 n.notice, .int .i64 n.load, .int .i64 r, .int .i64 n.lo, .int .i64 n.hi] 29 (0, 0))) (n := 4) ?_ ?_
  ·exact ⟨_, 4, n.barrows, rfl, by omega, rfl, rfl, rfl, rfl, rfl, rfl, rfl, hd4, vhb4⟩
  ·clear hd4 vhb4 H4 H3
   rintro w a' H5 ⟨e, k, r, rfl, hk4, rfl, e3, e6, e7, e8, e9, e10, hd5, vhb5⟩
   by_cases hlt : 0 < w
   ·have k0 : (1 : Int) <= (w : Int) := by omega
    have k3 : (w : Int) <= 4 := by omega
    have hpk := (show ∀ k : Int, 1 <= k -> k <= 4 -> (P k = true ↔ 0 < C k) from hso) w k0 k3
    have hst := fewest_step (P := P) hlt hk4
    rw [<- show 4 - (w - 1) = 4 - w + 1 by omega] at hst
    replace hst : SameP _ := hst
    replace hpk : SameP _ := hpk
    generalize hdue : ((numsL (w + 1) (4 - w)).find? P).getD 0 = due at e9
    replace hdue : SameP _ := hdue
    (refine @unH _ ?_; refine zA y10_117 ?_; (repeat (refine inC ?_; intro hc)); try (refine inK ?_; intro K hK))
    have hd6 := hd5.move (set_keeps vhb5 (by decide) (by decide) (o := (.cells #[.int .i64 n.places, .int .i64 n.pieces, .slice a1 n1 c1, .slice a2 n2 c2, .slice a3 n3 c3, .int .i64 n.rule, .slice a4 n4 c4, .int .i64 n.notice, .int .i64 n.load, .int .i64 (w : Nat), .int .i64 n.lo, .int .i64 n.hi] 29 (0, 0))))
    have vhb6 : (H5.set hb (.cells #[.int .i64 n.places, .int .i64 n.pieces, .slice a1 n1 c1, .slice a2 n2 c2, .slice a3 n3 c3, .int .i64 n.rule, .slice a4 n4 c4, .int .i64 n.notice, .int .i64 n.load, .int .i64 (w : Nat), .int .i64 n.lo, .int .i64 n.hi] 29 (0, 0))) hb = some (true, (.cells #[.int .i64 n.places, .int .i64 n.pieces, .slice a1 n1 c1, .slice a2 n2 c2, .slice a3 n3 c3, .int .i64 n.rule, .slice a4 n4 c4, .int .i64 n.notice, .int .i64 n.load, .int .i64 (w : Nat), .int .i64 n.lo, .int .i64 n.hi] 29 (0, 0))) := set_at
    generalize H5.set hb (.cells #[.int .i64 n.places, .int .i64 n.pieces, .slice a1 n1 c1, .slice a2 n2 c2, .slice a3 n3 c3, .int .i64 n.rule, .slice a4 n4 c4, .int .i64 n.notice, .int .i64 n.load, .int .i64 (w : Nat), .int .i64 n.lo, .int .i64 n.hi] 29 (0, 0)) = H6 at *
    clear hd5 vhb5
    have hr := (show ∀ H', HaulIn H' n _ -> ∀ k : Int, 1 <= k -> k <= 4 -> _ from hcs) H6 hd6 w k0 k3
    refine hr.runs.mono ?_
    clear hr
    rintro _ H7 ⟨rfl, lH7⟩
    have hd7 := hd6.le lH7
    have vhb7 := lH7 _ _ vhb6
    clear hd6 vhb6 lH7
    generalize C (w : Int) = ck at *
    by_cases hz : 0 < ck
    ·have hp : P w = true := (show P w = true ↔ 0 < ck from hpk).2 hz
     have hst' : (numsL w (4 - (w - 1))).find? P = some (w : Int) := by have h : (numsL w (4 - (w - 1))).find? P = if P w = true then some (w : Int) else _ := hst; rwa [if_pos hp] at h
     replace hst' : SameP _ := hst'
     replace hz : (0 : Int) < (ck : Int) := by omega
     clear hst hpk hp
     ((try (refine @unH _ ?_; refine zX y10_117 ?_)); (try (refine hK _ _ ?_; clear hK K; (try simp only [nq, ↓reduceIte, Nat.reduceEqDiff]))); refine @unH _ ?_; refine zA y10_117 ?_; (repeat (refine inC ?_; intro hc)); try (refine inK ?_; intro K hK))
     refine ⟨w - 1, by omega, _, w - 1, w, rfl, by omega, rfl, e3, e6, e7, e8, ?_, ?_, hd7, vhb7⟩
     ·rw [show ((w - 1 : Nat) : Int) + 1 = (w : Int) by omega, show (numsL w (4 - (w - 1))).find? P = _ from hst']; rfl
     ·show Value.int .i64 _ = Value.int .i64 _
      congr 1
      omega
    ·have hst' : (numsL w (4 - (w - 1))).find? P = (numsL (w + 1) (4 - w)).find? P := by have h : (numsL w (4 - (w - 1))).find? P = if P w = true then some (w : Int) else (numsL (w + 1) (4 - w)).find? P := hst; rwa [if_neg (mt (show P w = true ↔ 0 < ck from hpk).1 hz)] at h
     replace hst' : SameP _ := hst'
     replace hz : ¬ (0 : Int) < (ck : Int) := by omega
     clear hst hpk
     ((try (refine @unH _ ?_; refine zX y10_117 ?_)); (try (refine hK _ _ ?_; clear hK K; (try simp only [nq, ↓reduceIte, Nat.reduceEqDiff]))); refine @unH _ ?_; refine zA y10_117 ?_; (repeat (refine inC ?_; intro hc)); try (refine inK ?_; intro K hK))
     refine ⟨w - 1, by omega, _, w - 1, w, rfl, by omega, rfl, e3, e6, e7, e8, ?_, ?_, hd7, vhb7⟩
     ·rw [show ((w - 1 : Nat) : Int) + 1 = (w : Int) by omega, show (numsL w (4 - (w - 1))).find? P = _ from hst', show ((numsL (w + 1) (4 - w)).find? P).getD 0 = due from hdue]; exact e9
     ·show Value.int .i64 _ = Value.int .i64 _
      congr 1
      omega
   ·obtain rfl : w = 0 := by omega
    have hm2 : (((numsL ((0 : Nat) + 1 : Int) (4 - 0)).find? P).getD 0) = 0 := by rw [show ((0 : Nat) + 1 : Int) = 1 from rfl, show (numsL 1 (4 - 0)).find? P = _ from hm]; rfl
    rw [hm2] at e9
    clear hm2
    (refine @unH _ ?_; refine zA y10_117 ?_; (repeat (refine inC ?_; intro hc)); try (refine inK ?_; intro K hK))
    refine (driven_spec H5).runs.mono ?_
    rintro _ H8 ⟨rfl, lH8⟩
    ((try (refine @unH _ ?_; refine zX y10_117 ?_)); (try (refine hK _ _ ?_; clear hK K; (try simp only [nq, ↓reduceIte, Nat.reduceEqDiff]))); refine @unH _ ?_; refine zA y10_117 ?_; (repeat (refine inC ?_; intro hc)); try (refine inK ?_; intro K hK))
    (refine wpX_ret ?_; (try simp only [nq, ↓reduceIte, Nat.reduceEqDiff]); rw [bodyX_ret, results_one Tryz.results10 (by decide)]; simp only [upd_get, Nat.reduceEqDiff, ↓reduceIte])
end Go.Proofs.YtofmadjgbcopdaaGreatDoor
end
section
namespace Go.Proofs.YtofmadjgbcopdaaGreatDoor
open Go Go.X Go.ChangeShapes Go.WideShapes Go.RowKit
set_option maxRecDepth 100000 in
theorem law_lifted (os : Os) (started : os.Started) (H : Type) (enc : TypeId × Value -> H) :
  ReturnsInLeavingWide {} Tryz.checked os 10 .any (fun w args => (Rows.barrowFewestSpec.pre enc Tryz.prog Tryz.f10 [] false w args /\ laidMetH Tryz.prog [("errors.errorType", Rows.laid_errors_errorType)] w) /\ sizedMet enc Tryz.prog Tryz.f10 (OpenSpec.ofChange Rows.barrowFewestSpec) false w args)
   (Rows.barrowFewestSpec.post enc Tryz.prog Tryz.f10 false true false false) := by
 refine leaving_of_change_and (C := Tryz.checked) (X := fun w _ => laidMetH Tryz.prog [("errors.errorType", Rows.laid_errors_errorType)] w) (fun _ _ _ hh h => h.of_heap hh) ownK started Tryz.func10
  (ChangeSpec.witness_at (enc := enc) (C := Tryz.checked) (os := os) (X := fun w _ => laidMetH Tryz.prog [("errors.errorType", Rows.laid_errors_errorType)] w) false (laidWorld os) #[.slice none 0 0] 8 rfl (by kernel_rfl) (by kernel_rfl) (by kernel_rfl) (by kernel_rfl) (by kernel_rfl) (laidWorld_met os _)) ?_
 intro W base args ds gs before hval0 hW hL
 have hval : ∀ (j : Nat) t v, Tryz.f10.params[j]? = some t -> args[j]? = some v -> Value.okWide Tryz.prog W .any base t v := hval0
 have hW' := hW
 obtain ⟨p, q, hA0, hV0, rfl, hfz, hnd⟩ := hW
 have hA : DataW.TrodAll enc Tryz.prog W 0 (fun _ => true) true Tryz.f10.params.toList args.toList ds p := hA0
 have hV : DataW.TrodVars enc Tryz.prog W (fun _ => true) [] gs q := hV0
 rw [Tryz.params10] at hA hval
 obtain ⟨v0, d0, rfl, rfl, h0⟩ := trodAll_one hA
 obtain ⟨a0, len, cap, rfl⟩ := okWide_slice Tryz.underlying22 (hval 0 22 v0 rfl rfl)
 have h0k := h0
 obtain ⟨fuel, hf⟩ := h0
 obtain ⟨rfl, rfl⟩ : gs = [] /\ q = [] := by
  cases gs with
  | nil => exact ⟨rfl, hV⟩
  | cons g r => exact absurd hV (by intro h; cases h)
 have e1 : Rows.barrowFewestSpec.fn H ([d0] ++ []) = { results := [.lit (.bool true)], args := [d0] } := by simp [Rows.barrowFewestSpec]
 have hcells : ∀ i : Nat, i < len -> ∃ sb so c e fr x, a0 = some ⟨sb, so, none⟩ /\ allShared W sb = some (false, .cells c e fr) /\ c[so + i]? = some (.int .i64 x) := by
  rcases open_ints Tryz.underlying22 Tryz.underlying3 cellsK hf with ⟨hcs, _⟩ | ⟨a, len', cap', zs, hcs, _, hl, hm, hz, hx, hcell, hwz⟩
  ·simp [Value.cells] at hcs
   intro i hi
   omega
  ·simp [Value.cells] at hcs
   obtain ⟨rfl, rfl, rfl⟩ := hcs
   intro i hi
   simp only [if_true] at hz
   have hc := hcell i (by omega)
   obtain ⟨b, off, spot⟩ := a
   have hspot : spot = none := by simpa [Addr.add] using World.cell?_spot (hcell 0 (by omega))
   subst hspot
   rw [add_plain] at hc
   unfold World.cell? at hc
   split at hc
   ·rename_i c e fr hb
    exact ⟨b, off, c, e, fr, _, rfl, by simp [allShared, hb], by simpa using hc⟩
   ·cases hc
 have hlt : ∀ x ∈ p, x.block < W.heap.size := fun x hx => by simpa using hW'.lt x (by simpa using hx)
 obtain ⟨N, last, o, w', t', r1, r2, r3, v, hv, ⟨rfl, hB⟩, r4⟩ := (bfewest_spec (allShared W) a0 len cap hcells).good Tryz.func10 (results_tmp Tryz.results10 _) (by kernel_rfl)
 refine ⟨N, last, o, w', t', r1, r2, r3, _, hv, ?_, r4⟩
 have hb := hB.below
 refine ⟨_, _, _, [], p, [], hW', ?_, ?_, ?_, hB.kept _, fun h => by cases h⟩
 ·rw [e1]; exact trodAll_mk1 (shut_bool Tryz.underlying4 true)
 ·rw [e1]
  have t := trodAll_mk1 (DataW.Trod.of_heap (w := { w' with tape := W.tape }) (w' := w') rfl (Below.trod laidOutK (by kernel_rfl) (of_decide_eq_true (by kernel_rfl)) h0k hb hlt))
  exact t
 ·rw [e1]; rfl
end Go.Proofs.YtofmadjgbcopdaaGreatDoor
end
section
namespace Go.Proofs.YtofmadjgbcopdaaGreatDoor
open Go Go.X Go.ChangeShapes Go.WideShapes Go.RowKit
theorem jEnter : Program.mayEnter Tryz.pinned.checked.prog = true := factEnter
theorem jLift : (Rows.barrowFewestRow.lifted == Program.liftsFinal Tryz.pinned.checked.prog) = true := by rw [show Program.liftsFinal Tryz.pinned.checked.prog = Rows.barrowFewestRow.lifted from factLift]; exact beq_self_eq_true _
theorem jMake : (Program.make Tryz.pinned.checked.prog == some Rows.barrowFewestRow.make) = true := by rw [show Program.make Tryz.pinned.checked.prog = some Rows.barrowFewestRow.make from factMake]; exact beq_self_eq_true _
set_option maxRecDepth 100000 in
theorem jf : joinedFacts Tryz.pinned.checked.prog 10 Tryz.f10 Rows.barrowFewestSpec Rows.barrowFewestRow = true := by
 unfold joinedFacts
 simp only [jEnter, jLift, jMake, Bool.and_true]
 kernel_rfl
set_option maxRecDepth 100000 in
theorem barrowFewest_said : Rows.BarrowFewestSaid :=
 OpenClaim.holds_of_wide_leaving 10 Tryz.f10 rfl rfl rfl rfl rfl rfl rfl ⟨rfl, rfl, rfl, rfl, rfl⟩ rfl rfl rfl rfl rfl (by kernel_rfl) Tryz.func10 jf
  (of_decide_eq_true (by kernel_rfl)) (by unfold Func.isWrapper; rw [if_neg (of_decide_eq_false (by kernel_rfl))]; exact ⟨rfl, rfl⟩)
  (fun os started H enc _ => law_lifted os started H enc)
end Go.Proofs.YtofmadjgbcopdaaGreatDoor
end
