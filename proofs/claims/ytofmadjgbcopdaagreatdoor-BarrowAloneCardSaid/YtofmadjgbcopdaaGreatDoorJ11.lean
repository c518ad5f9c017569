/- Texts LawB BAlone PBarrowAlone SBarrowAlone. -/
import Derived.Test.YtofmadjgbcopdaaGreatDoorJ10
import Derived.Test.YtofmadjgbcopdaaGreatDoorAFactA
import Derived.Test.YtofmadjgbcopdaaGreatDoorAFactB
import Derived.Test.YtofmadjgbcopdaaGreatDoorAFactC
set_option linter.defProp false
set_option linter.unusedSimpArgs false
set_option linter.unusedVariables false
set_option maxRecDepth 100000
set_option maxHeartbeats 2000000
section
namespace Go.Proofs.YtofmadjgbcopdaaGreatDoor
open Go Go.X
theorem HaulIn.due_mono {H : Hp} {n : HN} {v : HV} (h : HaulIn H n v) : ∀ a b, a <= b -> b < n.jobs.length -> n.due n.jobs a <= n.due n.jobs b := by
 intro a b hab hb
 obtain ⟨_, hj2, hj3⟩ := h.jobs
 have ea : n.jobs.getD a 0 = n.jobs[a] := by simp [List.getD, List.getElem?_eq_getElem (show a < n.jobs.length by omega)]
 have eb : n.jobs.getD b 0 = n.jobs[b] := by simp [List.getD, List.getElem?_eq_getElem hb]
 have ha := hj2 _ (List.getElem_mem (show a < n.jobs.length by omega))
 have hbb := hj2 _ (List.getElem_mem hb)
 unfold HN.due
 rw [ea, eb]
 have hle : n.jobs[a] <= n.jobs[b] := by
  rcases Nat.lt_or_ge a b with hlt | hge
  ·exact Int.le_of_lt ((List.pairwise_iff_getElem.1 hj3) a b (by omega) hb hlt)
  ·obtain rfl : a = b := by omega
   exact Int.le_refl _
 generalize n.jobs[a] = x at *
 generalize n.jobs[b] = y at *
 have gx : n.xs.getD x.toNat 0 = n.xs[x.toNat]'(by omega) := by simp [List.getD, List.getElem?_eq_getElem (show x.toNat < n.xs.length by omega)]
 have gy : n.xs.getD y.toNat 0 = n.xs[y.toNat]'(by omega) := by simp [List.getD, List.getElem?_eq_getElem (show y.toNat < n.xs.length by omega)]
 rw [gx, gy]
 rcases Int.lt_or_le x y with hlt | hge
 ·exact (List.pairwise_iff_getElem.1 h.ok.2.1) x.toNat y.toNat (by omega) (by omega) (by omega)
 ·obtain rfl : x = y := by omega
  exact Int.le_refl _
theorem fineB_all {n : HN} {js : List Int} {mi : Int} {pl : List Nat} : fineB n js mi pl = true ↔ ∀ x ∈ lateG n js mi pl bs0 0, x = 0 := by
 unfold fineB
 rw [List.all_eq_true]
 exact ⟨fun h x hx => by simpa using h x hx, fun h x hx => by simpa using h x hx⟩
theorem countF_pos {n : HN} {mi : Int} : 0 < countF n mi ↔ ∃ pl : List Nat, pl.map (fun x : Nat => (x : Int)) ∈ comps n.load.toNat n.jobs.length /\ fineB n n.jobs mi pl = true := by
 unfold countF
 rw [List.length_pos_iff_exists_mem]
 constructor
 ·rintro ⟨l, hl⟩
  obtain ⟨h1, h2⟩ := List.mem_filter.1 hl
  obtain ⟨pl, rfl, _, _⟩ := comps_parts _ _ l h1
  exact ⟨pl, h1, by rwa [fineI_map] at h2⟩
 ·rintro ⟨pl, h1, h2⟩
  exact ⟨_, List.mem_filter.2 ⟨h1, by rwa [fineI_map]⟩⟩
theorem ones_fine (n : HN) (js : List Int) (mi : Int) (hn : mi <= n.notice) (hd : ∀ k, -1048000 <= n.due js k - n.notice) : ∀ (k : Nat) (bs : List Int) (f : Nat), bs.length = 4 -> n.barrows.toNat <= 4 -> k <= cntB bs n.barrows.toNat (-1048576) -> ∀ x ∈ lateG n js mi (List.replicate k 1) bs f, x = 0
 | 0, _, _, _, _, _, x, hx => by simp [lateG] at hx
 | k + 1, bs, f, hl, hb4, hc, x, hx => by
  have h1 : 1 <= cntB bs n.barrows.toNat (-1048576) := by omega
  have hmin := cntB_min h1
  have hB : 0 < n.barrows.toNat := by
   rcases Nat.eq_zero_or_pos n.barrows.toNat with h | h
   ·rw [h] at h1; simp [cntB] at h1
   ·exact h
  have hdk := hd f
  have hp := pickB_lt bs n.barrows.toNat hB
  have hback : (rideF n js bs f 1 mi).back = n.due js f - n.notice + mi := by
   simp only [rideF]
   rw [show f + 1 - 1 = f by omega]
   omega
  rw [List.replicate_succ, lateG, List.mem_append] at hx
  rcases hx with hx | hx
  ·rw [lateR, List.mem_map] at hx
   obtain ⟨j, hj, rfl⟩ := hx
   rw [List.mem_range] at hj
   obtain rfl : j = 0 := by omega
   rw [hback, Nat.add_zero]
   omega
  ·refine ones_fine n js mi hn hd k _ _ (by simp [nextB, hl]) hb4 ?_ x hx
   have h2 := cntB_set bs (pickB bs n.barrows.toNat) (rideF n js bs f 1 mi).back (-1048576) (by omega) n.barrows.toNat
   simp only [hp, true_and, if_pos hmin] at h2
   unfold nextB
   omega
theorem first_late (n : HN) (js : List Int) (mi : Int) (hmono : ∀ a b, a <= b -> b < js.length -> n.due js a <= n.due js b) {m : Nat} {pl : List Nat} (hm : 1 <= m) (hl : m <= js.length) (h : ∀ x ∈ lateG n js mi (m :: pl) bs0 0, x = 0) : mi <= n.notice := by
 have := h (max 0 ((rideF n js bs0 0 m mi).back - n.due js (0 + 0))) (by rw [lateG, List.mem_append]; exact .inl (List.mem_map.2 ⟨0, List.mem_range.2 (by omega), rfl⟩))
 have h2 := hmono 0 (0 + m - 1) (by omega) (by omega)
 simp only [rideF] at this
 simp only [Nat.zero_add, Nat.add_zero] at this h2
 omega
theorem alone_law {n : HN} (hmono : ∀ a b, a <= b -> b < n.jobs.length -> n.due n.jobs a <= n.due n.jobs b) (hx : ∀ x ∈ n.xs, 0 <= x /\ x <= 99) (n30 : n.notice <= 30) (l1 : 1 <= n.load) (hb : n.barrows = max 1 (n.jobs.length : Int)) (h4 : n.jobs.length <= 4) (mi : Int) :
  0 < countF n mi ↔ n.jobs.length = 0 ∨ mi <= n.notice := by
 have hdue : ∀ k, -1048000 <= n.due n.jobs k - n.notice := fun k => by
  have : 0 <= n.due n.jobs k := by
   unfold HN.due
   generalize (n.jobs.getD k 0).toNat = i
   rw [List.getD_eq_getElem?_getD]
   cases hi : n.xs[i]? with
   | none => simp
   | some x => exact (hx x (List.mem_of_getElem? hi)).1
  omega
 rw [countF_pos]
 constructor
 ·rintro ⟨pl, h1, h2⟩
  rw [fineB_all] at h2
  cases pl with
  | nil =>
   obtain ⟨pl', h3, h4', h5⟩ := comps_parts _ _ _ h1
   cases pl' with
   | nil => exact .inl (by simpa using h5.symm)
   | cons => simp at h3
  | cons m pl =>
   obtain ⟨pl', h3, h4', h5⟩ := comps_parts _ _ _ h1
   have : pl' = m :: pl := by
    have := congrArg natsOf h3
    rw [natsOf_map, natsOf_map] at this
    exact this.symm
   subst this
   refine .inr (first_late n n.jobs mi hmono (h4' m (by simp)) ?_ h2)
   rw [<- h5]; simp
 ·intro h
  refine ⟨List.replicate n.jobs.length 1, ?_, ?_⟩
  ·exact comps_ones _ (by omega) _
  ·rw [fineB_all]
   rcases h with h | h
   ·rw [h]; intro x hx; simp [lateG] at hx
   ·refine ones_fine n n.jobs mi h hdue _ bs0 0 rfl (by omega) ?_
    have : n.jobs.length <= n.barrows.toNat := by omega
    have hall : ∀ B, B <= 4 -> cntB bs0 B (-1048576) = B := by decide
    rw [hall _ (by omega)]
    exact this
def laterB (by_ : Int) (bs bs' : List Int) : Prop := bs.length = bs'.length /\ ∀ i, i < bs.length -> (bs.getD i 0 = -1048576 /\ bs'.getD i 0 = -1048576) ∨ (-1000 <= bs.getD i 0 /\ bs'.getD i 0 = bs.getD i 0 + by_)
theorem laterB.pick {by_ : Int} {bs bs' : List Int} (h0 : 0 <= by_) (h : laterB by_ bs bs') : ∀ B, B <= bs.length -> pickB bs' B = pickB bs B
 | 0, _ => rfl
 | B + 1, hB => by
  unfold pickB
  have ih := h.pick h0 B (by omega)
  rw [ih]
  by_cases hB0 : B = 0
  ·rw [if_pos hB0, if_pos hB0]
  ·rw [if_neg hB0, if_neg hB0]
   have hp := pickB_lt bs B (by omega)
   have h1 := h.2 B (by omega)
   have h2 := h.2 (pickB bs B) (by omega)
   have e : bs'.getD B 0 < bs'.getD (pickB bs B) 0 ↔ bs.getD B 0 < bs.getD (pickB bs B) 0 := by omega
   by_cases hc : bs.getD B 0 < bs.getD (pickB bs B) 0
   ·rw [if_pos hc, if_pos (e.2 hc)]
   ·rw [if_neg hc, if_neg (mt e.1 hc)]
def RideV.later (r : RideV) (by_ : Int) : RideV := ⟨r.barrow, r.out + by_, r.back + by_⟩
end Go.Proofs.YtofmadjgbcopdaaGreatDoor
end
section
namespace Go.Proofs.YtofmadjgbcopdaaGreatDoor
open Go Go.X
def y11_110 := And.intro @callF21 (And.intro @callF41 (And.intro (fun H => ex_alloc (H := H) (P := Tryz.prog) (h := Tryz.zeroValue29)) (And.intro (fun H => storeAt_agg (H := H) Tryz.sizeOf29) (And.intro (fun H => len_slice (H := H) Tryz.underlying22) (And.intro @callF20 (And.intro @max_int (And.intro (fun H => fieldAt_eq (H := H) Tryz.underlying29 (i := 6) rfl (off := 9) rfl Tryz.sizeOf3) (And.intro (fun H => storeAt_int (H := H) Tryz.sizeOf3) (And.intro (fun H => loadAt_aggE (H := H) Tryz.underlying29 rfl Tryz.sizeOf29) (And.intro @callF53 (And.intro (fun H => fieldAt_eq (H := H) Tryz.underlying29 (i := 4) rfl (off := 7) rfl Tryz.sizeOf3) (And.intro (fun H => loadAt_one (H := H) Tryz.underlying3 rfl) @eqG_bool))))))))))))
theorem balone_spec (H : Hp) (sa : Option Addr) (sl sc : Nat) (hs : ∀ i : Nat, i < sl -> ∃ sb so c e fr x, sa = some ⟨sb, so, none⟩ /\ H sb = some (false, .cells c e fr) /\ c[so + i]? = some (.int .i64 x)) :
  FnX Tryz.prog (.co Tryz.prog) 11 #[.slice sa sl sc] H fun e _ => e = .returned (.bool true) := by
 refine FnX_start Tryz.func11 rfl Tryz.ntmps11 (by simp) ?_
 (refine @unH _ ?_; refine zA y11_110 ?_; (repeat (refine inC ?_; intro hc)); try (refine inK ?_; intro K hK))
 refine (newTin_spec _ H sa sl sc hs 240 (by omega)).runs.mono ?_
 rintro _ H1 ⟨tb, rfl, l1, hT⟩
 ((try (refine @unH _ ?_; refine zX y11_110 ?_)); (try (refine hK _ _ ?_; clear hK K; (try simp only [nq, ↓reduceIte, Nat.reduceEqDiff]))); refine @unH _ ?_; refine zA y11_110 ?_; (repeat (refine inC ?_; intro hc)); try (refine inK ?_; intro K hK))
 refine (made_spec _ H1 tb 0 6 (by omega) hT).runs.mono ?_
 rintro _ H2 ⟨n, v, jv, pv, pl, mi, rfl, hd2, hx8, hj2, hp2, hok, hm1, hm20, _, _⟩
 clear hT hs l1
 obtain ⟨hj8, hjb, _⟩ := hd2.jobs
 obtain ⟨bx, hbx⟩ : ∃ bx : Int, bx = max 1 (n.jobs.length : Int) := ⟨_, rfl⟩
 have hcs := fun (h4 : n.jobs.length <= 4) H' (h' : HaulIn H' n v) => bcount_spec (.co Tryz.prog) H' { n with barrows := bx } v { h' with b1 := by show 1 <= bx; omega, b4 := by show bx <= 4; omega } mi hm1 hm20 hj8 hjb
 have hlaw := fun (h4 : n.jobs.length <= 4) => alone_law (n := { n with barrows := bx }) hd2.due_mono hd2.ok.2.2 hd2.n30 hd2.l1 hbx h4 mi
 generalize countF { n with barrows := bx } mi = C at *
 replace hlaw : n.jobs.length <= 4 -> (0 < C ↔ n.jobs.length = 0 ∨ mi <= n.notice) := hlaw
 obtain ⟨sv, cv, tv, xv⟩ := v
 obtain ⟨a1, n1, c1, hsv⟩ := hd2.day.st.isSlice
 obtain ⟨a2, n2, c2, hcv⟩ := hd2.day.calls.isSlice
 obtain ⟨a3, n3, c3, htv⟩ := hd2.day.truth.isSlice
 obtain ⟨a4, n4, c4, hxv⟩ := hd2.times.isSlice
 simp only [] at hsv hcv htv hxv
 subst hsv hcv htv hxv
 obtain ⟨a5, c5, rfl, _, _⟩ := id hj2
 obtain ⟨a6, n6, c6, rfl⟩ := hp2.isSlice
 generalize n.jobs.length = J at *
 simp only [HN.agg] at hcs ⊢
 replace hcs : SameP _ := hcs
 replace hlaw : SameP _ := hlaw
 replace hbx : SameP _ := hbx
 clear hjb hok hj2 hp2
 ((try (refine @unH _ ?_; refine zX y11_110 ?_)); (try (refine hK _ _ ?_; clear hK K; (try simp only [nq, ↓reduceIte, Nat.reduceEqDiff]))); refine @unH _ ?_; refine zA y11_110 ?_; (repeat (refine inC ?_; intro hc)); try (refine inK ?_; intro K hK))
 (intro hb hhb; generalize hG : Hp.set _ hb _ = H3; have lH3 := le_of_set hG hhb; have vhb := at_of_set hG; clear hG)
 have hd3 := hd2.le lH3
 clear hd2 lH3 hhb
 by_cases h4 : J <= 4
 ·have hmx : (if (1 : Int) < (J : Int) then (J : Int) else 1) = bx := by rw [show bx = _ from hbx]; split <;> omega
  have hl := (show J <= 4 -> (0 < C ↔ J = 0 ∨ mi <= n.notice) from hlaw) h4
  replace hl : SameP _ := hl
  ((try (refine @unH _ ?_; refine zX y11_110 ?_)); (try (refine hK _ _ ?_; clear hK K; (try simp only [nq, ↓reduceIte, Nat.reduceEqDiff]))); refine @unH _ ?_; refine zA y11_110 ?_; (repeat (refine inC ?_; intro hc)); try (refine inK ?_; intro K hK))
  have hd4 := hd3.move (set_keeps vhb (by decide) (by decide) (o := .cells #[.int .i64 n.places, .int .i64 n.pieces, .slice a1 n1 c1, .slice a2 n2 c2, .slice a3 n3 c3, .int .i64 n.rule, .slice a4 n4 c4, .int .i64 n.notice, .int .i64 n.load, .int .i64 bx, .int .i64 n.lo, .int .i64 n.hi] 29 (0, 0)))
  have vhb4 : (H3.set hb (.cells #[.int .i64 n.places, .int .i64 n.pieces, .slice a1 n1 c1, .slice a2 n2 c2, .slice a3 n3 c3, .int .i64 n.rule, .slice a4 n4 c4, .int .i64 n.notice, .int .i64 n.load, .int .i64 bx, .int .i64 n.lo, .int .i64 n.hi] 29 (0, 0))) hb = _ := set_at
  generalize H3.set hb _ = H4 at *
  clear hd3 vhb hmx
  have hr := (show J <= 4 -> ∀ H', HaulIn H' n _ -> _ from hcs) h4 H4 hd4
  refine hr.runs.mono ?_
  clear hr hcs
  rintro _ H5 ⟨rfl, lH5⟩
  have vhb5 := lH5 _ _ vhb4
  clear vhb4
  by_cases hc : (0 : Int) < (C : Int)
  ·have hor : J = 0 ∨ mi <= n.notice := (show 0 < C ↔ J = 0 ∨ mi <= n.notice from hl).1 (by omega)
   by_cases hj : J = 0
   ·subst hj
    ((try (refine @unH _ ?_; refine zX y11_110 ?_)); (try (refine hK _ _ ?_; clear hK K; (try simp only [nq, ↓reduceIte, Nat.reduceEqDiff]))); refine @unH _ ?_; refine zA y11_110 ?_; (repeat (refine inC ?_; intro hc)); try (refine inK ?_; intro K hK))
    refine (driven_spec H5).runs.mono ?_
    rintro _ H8 ⟨rfl, lH8⟩
    ((try (refine @unH _ ?_; refine zX y11_110 ?_)); (try (refine hK _ _ ?_; clear hK K; (try simp only [nq, ↓reduceIte, Nat.reduceEqDiff]))); refine @unH _ ?_; refine zA y11_110 ?_; (repeat (refine inC ?_; intro hc)); try (refine inK ?_; intro K hK))
    (refine wpX_ret ?_; (try simp only [nq, ↓reduceIte, Nat.reduceEqDiff]); rw [bodyX_ret, results_one Tryz.results11 (by decide)]; simp only [upd_get, Nat.reduceEqDiff, ↓reduceIte])
   ·have hjb : ((J : Int) == 0) = false := by simp; omega
    have hle : mi <= n.notice := hor.resolve_left hj
    clear hor
    ((try (refine @unH _ ?_; refine zX y11_110 ?_)); (try (refine hK _ _ ?_; clear hK K; (try simp only [nq, ↓reduceIte, Nat.reduceEqDiff]))); refine @unH _ ?_; refine zA y11_110 ?_; (repeat (refine inC ?_; intro hc)); try (refine inK ?_; intro K hK))
    refine (driven_spec H5).runs.mono ?_
    rintro _ H8 ⟨rfl, lH8⟩
    ((try (refine @unH _ ?_; refine zX y11_110 ?_)); (try (refine hK _ _ ?_; clear hK K; (try simp only [nq, ↓reduceIte, Nat.reduceEqDiff]))); refine @unH _ ?_; refine zA y11_110 ?_; (repeat (refine inC ?_; intro hc)); try (refine inK ?_; intro K hK))
    (refine wpX_ret ?_; (try simp only [nq, ↓reduceIte, Nat.reduceEqDiff]); rw [bodyX_ret, results_one Tryz.results11 (by decide)]; simp only [upd_get, Nat.reduceEqDiff, ↓reduceIte])
  ·have hor : ¬ (J = 0 ∨ mi <= n.notice) := fun h => hc (by have := (show 0 < C ↔ J = 0 ∨ mi <= n.notice from hl).2 h; omega)
   have hjb : ((J : Int) == 0) = false := by simp; omega
   have hle : ¬ mi <= n.notice := fun h => hor (.inr h)
   clear hor
   ((try (refine @unH _ ?_; refine zX y11_110 ?_)); (try (refine hK _ _ ?_; clear hK K; (try simp only [nq, ↓reduceIte, Nat.reduceEqDiff]))); refine @unH _ ?_; refine zA y11_110 ?_; (repeat (refine inC ?_; intro hc)); try (refine inK ?_; intro K hK))
   refine (driven_spec H5).runs.mono ?_
   rintro _ H8 ⟨rfl, lH8⟩
   ((try (refine @unH _ ?_; refine zX y11_110 ?_)); (try (refine hK _ _ ?_; clear hK K; (try simp only [nq, ↓reduceIte, Nat.reduceEqDiff]))); refine @unH _ ?_; refine zA y11_110 ?_; (repeat (refine inC ?_; intro hc)); try (refine inK ?_; intro K hK))
   (refine wpX_ret ?_; (try simp only [nq, ↓reduceIte, Nat.reduceEqDiff]); rw [bodyX_ret, results_one Tryz.results11 (by decide)]; simp only [upd_get, Nat.reduceEqDiff, ↓reduceIte])
 ·((try (refine @unH _ ?_; refine zX y11_110 ?_)); (try (refine hK _ _ ?_; clear hK K; (try simp only [nq, ↓reduceIte, Nat.reduceEqDiff]))); refine @unH _ ?_; refine zA y11_110 ?_; (repeat (refine inC ?_; intro hc)); try (refine inK ?_; intro K hK))
  refine (driven_spec H3).runs.mono ?_
  rintro _ H8 ⟨rfl, lH8⟩
  ((try (refine @unH _ ?_; refine zX y11_110 ?_)); (try (refine hK _ _ ?_; clear hK K; (try simp only [nq, ↓reduceIte, Nat.reduceEqDiff]))); refine @unH _ ?_; refine zA y11_110 ?_; (repeat (refine inC ?_; intro hc)); try (refine inK ?_; intro K hK))
  (refine wpX_ret ?_; (try simp only [nq, ↓reduceIte, Nat.reduceEqDiff]); rw [bodyX_ret, results_one Tryz.results11 (by decide)]; simp only [upd_get, Nat.reduceEqDiff, ↓reduceIte])
end Go.Proofs.YtofmadjgbcopdaaGreatDoor
end
section
namespace Go.Proofs.YtofmadjgbcopdaaGreatDoor
open Go Go.X Go.ChangeShapes Go.WideShapes Go.RowKit
set_option maxRecDepth 100000 in
theorem law_lifted (os : Os) (started : os.Started) (H : Type) (enc : TypeId × Value -> H) :
  ReturnsInLeavingWide {} Tryz.checked os 11 .any (fun w args => (Rows.barrowAloneSpec.pre enc Tryz.prog Tryz.f11 [] false w args /\ laidMetH Tryz.prog [("errors.errorType", Rows.laid_errors_errorType)] w) /\ sizedMet enc Tryz.prog Tryz.f11 (OpenSpec.ofChange Rows.barrowAloneSpec) false w args)
   (Rows.barrowAloneSpec.post enc Tryz.prog Tryz.f11 false true false false) := by
 refine leaving_of_change_and (C := Tryz.checked) (X := fun w _ => laidMetH Tryz.prog [("errors.errorType", Rows.laid_errors_errorType)] w) (fun _ _ _ hh h => h.of_heap hh) ownK started Tryz.func11
  (ChangeSpec.witness_at (enc := enc) (C := Tryz.checked) (os := os) (X := fun w _ => laidMetH Tryz.prog [("errors.errorType", Rows.laid_errors_errorType)] w) false (laidWorld os) #[.slice none 0 0] 8 rfl (by kernel_rfl) (by kernel_rfl) (by kernel_rfl) (by kernel_rfl) (by kernel_rfl) (laidWorld_met os _)) ?_
 intro W base args ds gs before hval0 hW hL
 have hval : ∀ (j : Nat) t v, Tryz.f11.params[j]? = some t -> args[j]? = some v -> Value.okWide Tryz.prog W .any base t v := hval0
 have hW' := hW
 obtain ⟨p, q, hA0, hV0, rfl, hfz, hnd⟩ := hW
 have hA : DataW.TrodAll enc Tryz.prog W 0 (fun _ => true) true Tryz.f11.params.toList args.toList ds p := hA0
 have hV : DataW.TrodVars enc Tryz.prog W (fun _ => true) [] gs q := hV0
 rw [Tryz.params11] at hA hval
 obtain ⟨v0, d0, rfl, rfl, h0⟩ := trodAll_one hA
 obtain ⟨a0, len, cap, rfl⟩ := okWide_slice Tryz.underlying22 (hval 0 22 v0 rfl rfl)
 have h0k := h0
 obtain ⟨fuel, hf⟩ := h0
 obtain ⟨rfl, rfl⟩ : gs = [] /\ q = [] := by
  cases gs with
  | nil => exact ⟨rfl, hV⟩
  | cons g r => exact absurd hV (by intro h; cases h)
 have e1 : Rows.barrowAloneSpec.fn H ([d0] ++ []) = { results := [.lit (.bool true)], args := [d0] } := by simp [Rows.barrowAloneSpec]
 have hcells : ∀ i : Nat, i < len -> ∃ sb so c e fr x, a0 = some ⟨sb, so, none⟩ /\ allShared W sb = some (false, .cells c e fr) /\ c[so + i]? = some (.int .i64 x) := by
  rcases open_ints Tryz.underlying22 Tryz.underlying3 cellsK hf with ⟨hcs, _⟩ | ⟨a, len', cap', zs, hcs, _, hl, hm, hz, hx, hcell, hwz⟩
  ·simp [Value.cells] at hcs
   intro i hi
   omega
  ·simp [Value.cells] at hcs
   obtain ⟨rfl, rfl, rfl⟩ := hcs
   intro i hi
   simp only [if_true] at hz
   have hc := hcell i (by omega)
   obtain ⟨b, off, spot⟩ := a
   have hspot : spot = none := by simpa [Addr.add] using World.cell?_spot (hcell 0 (by omega))
   subst hspot
   rw [add_plain] at hc
   unfold World.cell? at hc
   split at hc
   ·rename_i c e fr hb
    exact ⟨b, off, c, e, fr, _, rfl, by simp [allShared, hb], by simpa using hc⟩
   ·cases hc
 have hlt : ∀ x ∈ p, x.block < W.heap.size := fun x hx => by simpa using hW'.lt x (by simpa using hx)
 obtain ⟨N, last, o, w', t', r1, r2, r3, v, hv, ⟨rfl, hB⟩, r4⟩ := (balone_spec (allShared W) a0 len cap hcells).good Tryz.func11 (results_tmp Tryz.results11 _) (by kernel_rfl)
 refine ⟨N, last, o, w', t', r1, r2, r3, _, hv, ?_, r4⟩
 have hb := hB.below
 refine ⟨_, _, _, [], p, [], hW', ?_, ?_, ?_, hB.kept _, fun h => by cases h⟩
 ·rw [e1]; exact trodAll_mk1 (shut_bool Tryz.underlying4 true)
 ·rw [e1]
  have t := trodAll_mk1 (DataW.Trod.of_heap (w := { w' with tape := W.tape }) (w' := w') rfl (Below.trod laidOutK (by kernel_rfl) (of_decide_eq_true (by kernel_rfl)) h0k hb hlt))
  exact t
 ·rw [e1]; rfl
end Go.Proofs.YtofmadjgbcopdaaGreatDoor
end
section
namespace Go.Proofs.YtofmadjgbcopdaaGreatDoor
open Go Go.X Go.ChangeShapes Go.WideShapes Go.RowKit
theorem jEnter : Program.mayEnter Tryz.pinned.checked.prog = true := factEnter
theorem jLift : (Rows.barrowAloneRow.lifted == Program.liftsFinal Tryz.pinned.checked.prog) = true := by rw [show Program.liftsFinal Tryz.pinned.checked.prog = Rows.barrowAloneRow.lifted from factLift]; exact beq_self_eq_true _
theorem jMake : (Program.make Tryz.pinned.checked.prog == some Rows.barrowAloneRow.make) = true := by rw [show Program.make Tryz.pinned.checked.prog = some Rows.barrowAloneRow.make from factMake]; exact beq_self_eq_true _
set_option maxRecDepth 100000 in
theorem jf : joinedFacts Tryz.pinned.checked.prog 11 Tryz.f11 Rows.barrowAloneSpec Rows.barrowAloneRow = true := by
 unfold joinedFacts
 simp only [jEnter, jLift, jMake, Bool.and_true]
 kernel_rfl
set_option maxRecDepth 100000 in
theorem barrowAlone_said : Rows.BarrowAloneSaid :=
 OpenClaim.holds_of_wide_leaving 11 Tryz.f11 rfl rfl rfl rfl rfl rfl rfl ⟨rfl, rfl, rfl, rfl, rfl⟩ rfl rfl rfl rfl rfl (by kernel_rfl) Tryz.func11 jf
  (of_decide_eq_true (by kernel_rfl)) (by unfold Func.isWrapper; rw [if_neg (of_decide_eq_false (by kernel_rfl))]; exact ⟨rfl, rfl⟩)
  (fun os started H enc _ => law_lifted os started H enc)
end Go.Proofs.YtofmadjgbcopdaaGreatDoor
end
