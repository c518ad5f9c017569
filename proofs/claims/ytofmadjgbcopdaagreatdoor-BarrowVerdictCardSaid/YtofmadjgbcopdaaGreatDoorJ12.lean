/- Texts LawB BVerdict PBarrowVerdict SBarrowVerdict. -/
import Derived.Test.YtofmadjgbcopdaaGreatDoorJ11
import Derived.Test.YtofmadjgbcopdaaGreatDoorAFactA
import Derived.Test.YtofmadjgbcopdaaGreatDoorAFactB
import Derived.Test.YtofmadjgbcopdaaGreatDoorAFactC
section
set_option linter.unusedSimpArgs false
set_option maxRecDepth 100000
set_option maxHeartbeats 1000000
set_option linter.unusedVariables false
namespace Go.Proofs.YtofmadjgbcopdaaGreatDoor
open Go Go.X
theorem fine_minutes {n : HN} (b1 : 1 ≤ n.barrows) (b4 : n.barrows ≤ 4) (js : List Int) {mi mi' : Int} (hm : mi' ≤ mi) (h1 : 1 ≤ mi') {pl : List Nat} (hf : fineB n js mi pl = true) : fineB n js mi' pl = true :=
  fine_mono (n := n) (n' := n) js mi mi' rfl (Int.le_refl _) b1 b4 (Int.le_refl _) b4 hm h1 pl hf
theorem allF_iff {n : HN} (b1 : 1 ≤ n.barrows) (b4 : n.barrows ≤ 4) (t1 : 1 ≤ n.lo) (t2 : n.lo ≤ n.hi) (js : List Int) (pl : List Nat) : allF n js pl = true ↔ fineB n js n.hi pl = true := by
  unfold allF
  rw [List.all_eq_true]
  constructor
  · intro h
    have := h (n.hi - n.lo).toNat (List.mem_range.2 (by omega))
    rwa [show n.lo + ((n.hi - n.lo).toNat : Nat) = n.hi by omega] at this
  · intro h i hi
    rw [List.mem_range] at hi
    exact fine_minutes b1 b4 js (by omega) (by omega) h
theorem someF_iff {n : HN} (b1 : 1 ≤ n.barrows) (b4 : n.barrows ≤ 4) (t1 : 1 ≤ n.lo) (t2 : n.lo ≤ n.hi) (js : List Int) (pl : List Nat) : someF n js pl = true ↔ fineB n js n.lo pl = true := by
  unfold someF
  rw [List.any_eq_true]
  constructor
  · rintro ⟨i, hi, h⟩
    exact fine_minutes b1 b4 js (by omega) t1 h
  · intro h
    exact ⟨0, List.mem_range.2 (by omega), by simpa using h⟩
theorem verdict_law {n : HN} (b1 : 1 ≤ n.barrows) (b4 : n.barrows ≤ 4) (t1 : 1 ≤ n.lo) (t2 : n.lo ≤ n.hi) (pl : List Nat) :
    verdictF n pl = if worst (lateG n n.jobs n.hi pl bs0 0) = 0 then 1 else if 0 < worst (lateG n n.jobs n.lo pl bs0 0) then 2 else 3 := by
  have h1 := (allF_iff b1 b4 t1 t2 n.jobs pl).trans (fineB_worst n n.jobs n.hi pl)
  have h2 := (someF_iff b1 b4 t1 t2 n.jobs pl).trans (fineB_worst n n.jobs n.lo pl)
  have h0 := worst_nonneg (lateG n n.jobs n.lo pl bs0 0)
  unfold verdictF
  by_cases ha : allF n n.jobs pl = true
  · rw [if_pos ha, if_pos (h1.1 ha)]
  · rw [if_neg ha, if_neg (mt h1.2 ha)]
    by_cases hs : someF n n.jobs pl = true
    · rw [if_pos hs, if_neg (by have := h2.1 hs; omega)]
    · rw [if_neg hs, if_pos (by have := mt h2.2 hs; omega)]
def laterB (by_ : Int) (bs bs' : List Int) : Prop := bs.length = bs'.length ∧ ∀ i, i < bs.length → (bs.getD i 0 = -1048576 ∧ bs'.getD i 0 = -1048576) ∨ (-1000 ≤ bs.getD i 0 ∧ bs'.getD i 0 = bs.getD i 0 + by_)
theorem laterB.pick {by_ : Int} {bs bs' : List Int} (h0 : 0 ≤ by_) (h : laterB by_ bs bs') : ∀ B, B ≤ bs.length → pickB bs' B = pickB bs B
  | 0, _ => rfl
  | B + 1, hB => by
    unfold pickB
    have ih := h.pick h0 B (by omega)
    rw [ih]
    by_cases hB0 : B = 0
    · rw [if_pos hB0, if_pos hB0]
    · rw [if_neg hB0, if_neg hB0]
      have hp := pickB_lt bs B (by omega)
      have h1 := h.2 B (by omega)
      have h2 := h.2 (pickB bs B) (by omega)
      have e : bs'.getD B 0 < bs'.getD (pickB bs B) 0 ↔ bs.getD B 0 < bs.getD (pickB bs B) 0 := by omega
      by_cases hc : bs.getD B 0 < bs.getD (pickB bs B) 0
      · rw [if_pos hc, if_pos (e.2 hc)]
      · rw [if_neg hc, if_neg (mt e.1 hc)]
def RideV.later (r : RideV) (by_ : Int) : RideV := ⟨r.barrow, r.out + by_, r.back + by_⟩
end Go.Proofs.YtofmadjgbcopdaaGreatDoor
end
section
set_option linter.unusedSimpArgs false
set_option maxRecDepth 100000
set_option maxHeartbeats 2000000
set_option linter.unusedVariables false
namespace Go.Proofs.YtofmadjgbcopdaaGreatDoor
open Go Go.X
set_option linter.defProp false
def y8_101 := And.intro @callF21 (And.intro @callF41 (And.intro (fun H => ex_alloc (H := H) (P := Tryz.prog) (h := Tryz.zeroValue29)) (And.intro (fun H => storeAt_agg (H := H) Tryz.sizeOf29) (And.intro (fun H => loadAt_aggE (H := H) Tryz.underlying29 rfl Tryz.sizeOf29) (And.intro @callF43 (And.intro (fun H => fieldAt_eq (H := H) Tryz.underlying29 (i := 7) rfl (off := 10) rfl Tryz.sizeOf27) (And.intro (fun H => fieldAt_eq (H := H) Tryz.underlying27 (i := 1) rfl (off := 1) rfl Tryz.sizeOf3) (And.intro (fun H => loadAt_one (H := H) Tryz.underlying3 rfl) (And.intro @callF34 (And.intro (fun H => fieldAt_eq (H := H) Tryz.underlying27 (i := 0) rfl (off := 0) rfl Tryz.sizeOf3) (And.intro @callF44 @callF20)))))))))))
theorem bverdict_spec (H : Hp) (sa : Option Addr) (sl sc : Nat) (hs : ∀ i : Nat, i < sl → ∃ sb so c e fr x, sa = some ⟨sb, so, none⟩ ∧ H sb = some (false, .cells c e fr) ∧ c[so + i]? = some (.int .i64 x)) :
    FnX Tryz.prog (.co Tryz.prog) 8 #[.slice sa sl sc] H fun e _ => e = .returned (.bool true) := by
  refine FnX_start Tryz.func8 rfl Tryz.ntmps8 (by simp) ?_
  (refine @Hid.out _ ?_; refine zA y8_101 ?_; (repeat (refine inC ?_; intro hc)); try (refine inK ?_; intro K hK))
  refine (newTin_spec _ H sa sl sc hs 240 (by omega)).runs.mono ?_
  rintro _ H1 ⟨tb, rfl, l1, hT⟩
  ((try (refine @Hid.out _ ?_; refine zX y8_101 ?_)); (try (refine hK _ _ ?_; clear hK K; (try simp only [nq, ↓reduceIte, Nat.reduceEqDiff]))); refine @Hid.out _ ?_; refine zA y8_101 ?_; (repeat (refine inC ?_; intro hc)); try (refine inK ?_; intro K hK))
  refine (made_spec _ H1 tb 0 8 (by omega) hT).runs.mono ?_
  rintro _ H2 ⟨n, v, jv, pv, pl, mi, rfl, hd2, hx8, hj2, hp2, hok, hm1, hm20, _, _⟩
  obtain ⟨hj8, hjb, _⟩ := hd2.jobs
  have hlaw := verdict_law hd2.b1 hd2.b4 hd2.t1 hd2.t2 pl
  have hvs := fun H' h' hp' => Verdict_spec H' n v h' pv pl hp' hok hj8 hjb
  have hls := fun H' h' hp' => Late_spec (.co Tryz.prog) H' n v h' pv pl hp' hok hj8 hjb n.hi (by have := hd2.t1; have := hd2.t2; omega) hd2.t20
  have hlf := fun H' h' hp' => Late_spec (.co Tryz.prog) H' n v h' pv pl hp' hok hj8 hjb n.lo hd2.t1 (by have := hd2.t20; have := hd2.t2; omega)
  have hlen : ∀ m, (lateG n n.jobs m pl bs0 0).length ≤ 1000 := fun m => by rw [lateG_length]; have := hok.ps; omega
  have hlen1 := hlen n.hi
  have hlen2 := hlen n.lo
  clear hlen
  generalize lateG n n.jobs n.hi pl bs0 0 = Lh at *
  generalize lateG n n.jobs n.lo pl bs0 0 = Lf at *
  generalize verdictF n pl = V at *
  obtain ⟨sv, cv, tv, xv⟩ := v
  obtain ⟨a1, n1, c1, hsv⟩ := hd2.day.st.isSlice
  obtain ⟨a2, n2, c2, hcv⟩ := hd2.day.calls.isSlice
  obtain ⟨a3, n3, c3, htv⟩ := hd2.day.truth.isSlice
  obtain ⟨a4, n4, c4, hxv⟩ := hd2.times.isSlice
  simp only [] at hsv hcv htv hxv
  subst hsv hcv htv hxv
  obtain ⟨a5, n5, c5, rfl⟩ := hj2.isSlice
  obtain ⟨a6, n6, c6, rfl⟩ := hp2.isSlice
  simp only [HN.agg] at hvs hls hlf ⊢
  replace hvs : SameP _ := hvs
  replace hls : SameP _ := hls
  replace hlf : SameP _ := hlf
  replace hlaw : SameP _ := hlaw
  clear hT hs l1 hjb hok hj2
  ((try (refine @Hid.out _ ?_; refine zX y8_101 ?_)); (try (refine hK _ _ ?_; clear hK K; (try simp only [nq, ↓reduceIte, Nat.reduceEqDiff]))); refine @Hid.out _ ?_; refine zA y8_101 ?_; (repeat (refine inC ?_; intro hc)); try (refine inK ?_; intro K hK))
  (intro hb hhb; generalize hG : Hp.set _ hb _ = H3; have lH3 := le_of_set hG hhb; have vhb := at_of_set hG; clear hG)
  have hd3 := hd2.le lH3
  have hp3 := hp2.le lH3
  clear hd2 hp2 lH3 hhb
  ((try (refine @Hid.out _ ?_; refine zX y8_101 ?_)); (try (refine hK _ _ ?_; clear hK K; (try simp only [nq, ↓reduceIte, Nat.reduceEqDiff]))); refine @Hid.out _ ?_; refine zA y8_101 ?_; (repeat (refine inC ?_; intro hc)); try (refine inK ?_; intro K hK))
  have hr := (show ∀ H', HaulIn H' n _ → SlI H' _ _ → _ from hvs) H3 hd3 hp3
  refine hr.runs.mono ?_
  clear hr hvs
  rintro _ H4 ⟨rfl, lH4⟩
  have hd4 := hd3.le lH4
  have hp4 := hp3.le lH4
  have vhb4 := lH4 _ _ vhb
  clear hd3 hp3 vhb lH4
  ((try (refine @Hid.out _ ?_; refine zX y8_101 ?_)); (try (refine hK _ _ ?_; clear hK K; (try simp only [nq, ↓reduceIte, Nat.reduceEqDiff]))); refine @Hid.out _ ?_; refine zA y8_101 ?_; (repeat (refine inC ?_; intro hc)); try (refine inK ?_; intro K hK))
  have hr := (show ∀ H', HaulIn H' n _ → SlI H' _ _ → _ from hls) H4 hd4 hp4
  refine hr.runs.mono ?_
  clear hr hls
  rintro _ H5 ⟨lv, rfl, lH5, hl5⟩
  have hd5 := hd4.le lH5
  have hp5 := hp4.le lH5
  have vhb5 := lH5 _ _ vhb4
  clear hd4 hp4 vhb4 lH5
  obtain ⟨a7, n7, c7, rfl⟩ := hl5.isSlice
  ((try (refine @Hid.out _ ?_; refine zX y8_101 ?_)); (try (refine hK _ _ ?_; clear hK K; (try simp only [nq, ↓reduceIte, Nat.reduceEqDiff]))); refine @Hid.out _ ?_; refine zA y8_101 ?_; (repeat (refine inC ?_; intro hc)); try (refine inK ?_; intro K hK))
  have hr := (show ∀ H', HaulIn H' n _ → SlI H' _ _ → _ from hlf) H5 hd5 hp5
  refine hr.runs.mono ?_
  clear hr hlf
  rintro _ H6 ⟨fv, rfl, lH6, hf6⟩
  have hl6 := hl5.le lH6
  clear hd5 hp5 vhb5 lH6 hl5
  obtain ⟨a8, n8, c8, rfl⟩ := hf6.isSlice
  ((try (refine @Hid.out _ ?_; refine zX y8_101 ?_)); (try (refine hK _ _ ?_; clear hK K; (try simp only [nq, ↓reduceIte, Nat.reduceEqDiff]))); refine @Hid.out _ ?_; refine zA y8_101 ?_; (repeat (refine inC ?_; intro hc)); try (refine inK ?_; intro K hK))
  refine (worst_spec _ H6 _ Lh hl6 hlen1).runs.mono ?_
  rintro _ HQ ⟨rfl, hHQ⟩; rw [hHQ]; clear hHQ HQ
  generalize worst Lh = wh at *
  by_cases hw : wh = 0
  · have hV : V = 1 := by have h : V = if wh = 0 then (1 : Int) else _ := hlaw; rwa [if_pos hw] at h
    subst hV hw
    ((try (refine @Hid.out _ ?_; refine zX y8_101 ?_)); (try (refine hK _ _ ?_; clear hK K; (try simp only [nq, ↓reduceIte, Nat.reduceEqDiff]))); refine @Hid.out _ ?_; refine zA y8_101 ?_; (repeat (refine inC ?_; intro hc)); try (refine inK ?_; intro K hK))
    refine (driven_spec H6).runs.mono ?_
    rintro _ H8 ⟨rfl, lH8⟩
    ((try (refine @Hid.out _ ?_; refine zX y8_101 ?_)); (try (refine hK _ _ ?_; clear hK K; (try simp only [nq, ↓reduceIte, Nat.reduceEqDiff]))); refine @Hid.out _ ?_; refine zA y8_101 ?_; (repeat (refine inC ?_; intro hc)); try (refine inK ?_; intro K hK))
    (refine wpX_ret ?_; (try simp only [nq, ↓reduceIte, Nat.reduceEqDiff]); rw [bodyX_ret, results_one Tryz.results8 (by decide)]; simp only [upd_get, Nat.reduceEqDiff, ↓reduceIte])
  · have hwb : (wh == 0) = false := by simp [hw]
    have hV : V = if 0 < worst Lf then 2 else 3 := by have h : V = if wh = 0 then (1 : Int) else _ := hlaw; rwa [if_neg hw] at h
    replace hV : SameP _ := hV
    ((try (refine @Hid.out _ ?_; refine zX y8_101 ?_)); (try (refine hK _ _ ?_; clear hK K; (try simp only [nq, ↓reduceIte, Nat.reduceEqDiff]))); refine @Hid.out _ ?_; refine zA y8_101 ?_; (repeat (refine inC ?_; intro hc)); try (refine inK ?_; intro K hK))
    refine (worst_spec _ H6 _ Lf hf6 hlen2).runs.mono ?_
    rintro _ HQ ⟨rfl, hHQ⟩; rw [hHQ]; clear hHQ HQ
    generalize worst Lf = wf at *
    by_cases hw2 : 0 < wf
    · have hV2 : V = 2 := by have h : V = if 0 < wf then (2 : Int) else 3 := hV; rwa [if_pos hw2] at h
      subst hV2
      ((try (refine @Hid.out _ ?_; refine zX y8_101 ?_)); (try (refine hK _ _ ?_; clear hK K; (try simp only [nq, ↓reduceIte, Nat.reduceEqDiff]))); refine @Hid.out _ ?_; refine zA y8_101 ?_; (repeat (refine inC ?_; intro hc)); try (refine inK ?_; intro K hK))
      refine (driven_spec H6).runs.mono ?_
      rintro _ H8 ⟨rfl, lH8⟩
      ((try (refine @Hid.out _ ?_; refine zX y8_101 ?_)); (try (refine hK _ _ ?_; clear hK K; (try simp only [nq, ↓reduceIte, Nat.reduceEqDiff]))); refine @Hid.out _ ?_; refine zA y8_101 ?_; (repeat (refine inC ?_; intro hc)); try (refine inK ?_; intro K hK))
      (refine wpX_ret ?_; (try simp only [nq, ↓reduceIte, Nat.reduceEqDiff]); rw [bodyX_ret, results_one Tryz.results8 (by decide)]; simp only [upd_get, Nat.reduceEqDiff, ↓reduceIte])
    · have hV2 : V = 3 := by have h : V = if 0 < wf then (2 : Int) else 3 := hV; rwa [if_neg hw2] at h
      subst hV2
      ((try (refine @Hid.out _ ?_; refine zX y8_101 ?_)); (try (refine hK _ _ ?_; clear hK K; (try simp only [nq, ↓reduceIte, Nat.reduceEqDiff]))); refine @Hid.out _ ?_; refine zA y8_101 ?_; (repeat (refine inC ?_; intro hc)); try (refine inK ?_; intro K hK))
      refine (driven_spec H6).runs.mono ?_
      rintro _ H8 ⟨rfl, lH8⟩
      ((try (refine @Hid.out _ ?_; refine zX y8_101 ?_)); (try (refine hK _ _ ?_; clear hK K; (try simp only [nq, ↓reduceIte, Nat.reduceEqDiff]))); refine @Hid.out _ ?_; refine zA y8_101 ?_; (repeat (refine inC ?_; intro hc)); try (refine inK ?_; intro K hK))
      (refine wpX_ret ?_; (try simp only [nq, ↓reduceIte, Nat.reduceEqDiff]); rw [bodyX_ret, results_one Tryz.results8 (by decide)]; simp only [upd_get, Nat.reduceEqDiff, ↓reduceIte])
end Go.Proofs.YtofmadjgbcopdaaGreatDoor
end
section
set_option linter.unusedSimpArgs false
set_option linter.unusedVariables false
namespace Go.Proofs.YtofmadjgbcopdaaGreatDoor
open Go Go.X Go.ChangeShapes Go.WideShapes Go.RowKit
set_option maxRecDepth 100000 in
theorem law_lifted (os : Os) (started : os.Started) (H : Type) (enc : TypeId × Value → H) :
    ReturnsInLeavingWide {} Tryz.checked os 8 .any (fun w args => (Rows.barrowVerdictSpec.pre enc Tryz.prog Tryz.f8 [] false w args ∧ laidMetH Tryz.prog [("errors.errorType", Rows.laid_errors_errorType)] w) ∧ sizedMet enc Tryz.prog Tryz.f8 (OpenSpec.ofChange Rows.barrowVerdictSpec) false w args)
      (Rows.barrowVerdictSpec.post enc Tryz.prog Tryz.f8 false true false false) := by
  refine leaving_of_change_and (C := Tryz.checked) (X := fun w _ => laidMetH Tryz.prog [("errors.errorType", Rows.laid_errors_errorType)] w) (fun _ _ _ hh h => h.of_heap hh) ownK started Tryz.func8
    (ChangeSpec.witness_at (enc := enc) (C := Tryz.checked) (os := os) (X := fun w _ => laidMetH Tryz.prog [("errors.errorType", Rows.laid_errors_errorType)] w) false (laidWorld os) #[.slice none 0 0] 8 rfl (by kernel_rfl) (by kernel_rfl) (by kernel_rfl) (by kernel_rfl) (by kernel_rfl) (laidWorld_met os _)) ?_
  intro W base args ds gs before hval0 hW hL
  have hval : ∀ (j : Nat) t v, Tryz.f8.params[j]? = some t → args[j]? = some v → Value.okWide Tryz.prog W .any base t v := hval0
  have hW' := hW
  obtain ⟨p, q, hA0, hV0, rfl, hfz, hnd⟩ := hW
  have hA : DataW.TrodAll enc Tryz.prog W 0 (fun _ => true) true Tryz.f8.params.toList args.toList ds p := hA0
  have hV : DataW.TrodVars enc Tryz.prog W (fun _ => true) [] gs q := hV0
  rw [Tryz.params8] at hA hval
  obtain ⟨v0, d0, rfl, rfl, h0⟩ := trodAll_one hA
  obtain ⟨a0, len, cap, rfl⟩ := okWide_slice Tryz.underlying22 (hval 0 22 v0 rfl rfl)
  have h0k := h0
  obtain ⟨fuel, hf⟩ := h0
  obtain ⟨rfl, rfl⟩ : gs = [] ∧ q = [] := by
    cases gs with
    | nil => exact ⟨rfl, hV⟩
    | cons g r => exact absurd hV (by intro h; cases h)
  have e1 : Rows.barrowVerdictSpec.fn H ([d0] ++ []) = { results := [.lit (.bool true)], args := [d0] } := by simp [Rows.barrowVerdictSpec]
  have hcells : ∀ i : Nat, i < len → ∃ sb so c e fr x, a0 = some ⟨sb, so, none⟩ ∧ allShared W sb = some (false, .cells c e fr) ∧ c[so + i]? = some (.int .i64 x) := by
    rcases open_ints Tryz.underlying22 Tryz.underlying3 cellsK hf with ⟨hcs, _⟩ | ⟨a, len', cap', zs, hcs, _, hl, hm, hz, hx, hcell, hwz⟩
    · simp [Value.cells] at hcs
      intro i hi
      omega
    · simp [Value.cells] at hcs
      obtain ⟨rfl, rfl, rfl⟩ := hcs
      intro i hi
      simp only [if_true] at hz
      have hc := hcell i (by omega)
      obtain ⟨b, off, spot⟩ := a
      have hspot : spot = none := by simpa [Addr.add] using World.cell?_spot (hcell 0 (by omega))
      subst hspot
      rw [add_plain] at hc
      unfold World.cell? at hc
      split at hc
      · rename_i c e fr hb
        exact ⟨b, off, c, e, fr, _, rfl, by simp [allShared, hb], by simpa using hc⟩
      · cases hc
  have hlt : ∀ x ∈ p, x.block < W.heap.size := fun x hx => by simpa using hW'.lt x (by simpa using hx)
  obtain ⟨N, last, o, w', t', r1, r2, r3, v, hv, ⟨rfl, hB⟩, r4⟩ := (bverdict_spec (allShared W) a0 len cap hcells).good Tryz.func8 (results_tmp Tryz.results8 _) (by kernel_rfl)
  refine ⟨N, last, o, w', t', r1, r2, r3, _, hv, ?_, r4⟩
  have hb := hB.below
  refine ⟨_, _, _, [], p, [], hW', ?_, ?_, ?_, hB.kept _, fun h => by cases h⟩
  · rw [e1]; exact trodAll_mk1 (shut_bool Tryz.underlying4 true)
  · rw [e1]
    have t := trodAll_mk1 (DataW.Trod.of_heap (w := { w' with tape := W.tape }) (w' := w') rfl (Below.trod laidOutK (by kernel_rfl) (of_decide_eq_true (by kernel_rfl)) h0k hb hlt))
    exact t
  · rw [e1]; rfl
end Go.Proofs.YtofmadjgbcopdaaGreatDoor
end
section
set_option linter.unusedSimpArgs false
set_option linter.unusedVariables false
namespace Go.Proofs.YtofmadjgbcopdaaGreatDoor
open Go Go.X Go.ChangeShapes Go.WideShapes Go.RowKit
theorem jEnter : Program.mayEnter Tryz.pinned.checked.prog = true := factEnter
theorem jLift : (Rows.barrowVerdictRow.lifted == Program.liftsFinal Tryz.pinned.checked.prog) = true := by rw [show Program.liftsFinal Tryz.pinned.checked.prog = Rows.barrowVerdictRow.lifted from factLift]; exact beq_self_eq_true _
theorem jMake : (Program.make Tryz.pinned.checked.prog == some Rows.barrowVerdictRow.make) = true := by rw [show Program.make Tryz.pinned.checked.prog = some Rows.barrowVerdictRow.make from factMake]; exact beq_self_eq_true _
set_option maxRecDepth 100000 in
theorem jf : joinedFacts Tryz.pinned.checked.prog 8 Tryz.f8 Rows.barrowVerdictSpec Rows.barrowVerdictRow = true := by
  unfold joinedFacts
  simp only [jEnter, jLift, jMake, Bool.and_true]
  kernel_rfl
set_option maxRecDepth 100000 in
theorem barrowVerdict_said : Rows.BarrowVerdictSaid :=
  OpenClaim.holds_of_wide_leaving 8 Tryz.f8 rfl rfl rfl rfl rfl rfl rfl ⟨rfl, rfl, rfl, rfl, rfl⟩ rfl rfl rfl rfl rfl (by kernel_rfl) Tryz.func8 jf
    (of_decide_eq_true (by kernel_rfl)) (by unfold Func.isWrapper; rw [if_neg (of_decide_eq_false (by kernel_rfl))]; exact ⟨rfl, rfl⟩)
    (fun os started H enc _ => law_lifted os started H enc)
end Go.Proofs.YtofmadjgbcopdaaGreatDoor
end
