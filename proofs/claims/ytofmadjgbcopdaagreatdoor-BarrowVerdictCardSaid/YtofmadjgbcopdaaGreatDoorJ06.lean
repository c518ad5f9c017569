/- Texts NewHaul Open Drive Ride Structs Drv Fine Range. -/
import Derived.Test.YtofmadjgbcopdaaGreatDoorJ05
section
set_option linter.unusedSimpArgs false
set_option maxRecDepth 100000
set_option maxHeartbeats 1000000
set_option linter.unusedVariables false
namespace Go.Proofs.YtofmadjgbcopdaaGreatDoor
open Go Go.X
set_option linter.defProp false
def y110_38 := And.intro (fun H => loadAt_aggE (H := H) Tryz.underlying29 rfl Tryz.sizeOf29) (And.intro @bld_85_0_0 (And.intro (fun H => fieldAt_eq (H := H) Tryz.underlying85 (i := 0) rfl (off := 0) rfl Tryz.sizeOf29) (And.intro (fun H => fieldAt_eq (H := H) Tryz.underlying29 (i := 0) rfl (off := 0) rfl Tryz.sizeOf25) (And.intro (fun H => loadAt_aggE (H := H) Tryz.underlying25 rfl Tryz.sizeOf25) (And.intro (fun H => fieldAt_eq (H := H) Tryz.underlying29 (i := 1) rfl (off := 4) rfl Tryz.sizeOf22) (And.intro (fun H => loadAt_one (H := H) Tryz.underlying22 rfl) (And.intro (fun H => fieldAt_eq (H := H) Tryz.underlying29 (i := 2) rfl (off := 5) rfl Tryz.sizeOf3) (And.intro (fun H => loadAt_one (H := H) Tryz.underlying3 rfl) (And.intro @callF39 (And.intro (fun H => ex_alloc (H := H) (P := Tryz.prog) (h := Tryz.zeroValue22)) (And.intro (fun H => storeAt_slice (H := H) Tryz.sizeOf22) (And.intro (fun H => fieldAt_eq (H := H) Tryz.underlying25 (i := 2) rfl (off := 2) rfl Tryz.sizeOf22) (And.intro @callF87 (And.intro (fun H => len_slice (H := H) Tryz.underlying22) (And.intro (fun H => indexAt_slice (H := H) Tryz.underlying22 Tryz.sizeOf3) (And.intro (fun H => ex_alloc (H := H) (P := Tryz.prog) (h := Tryz.zeroValue3)) (And.intro (fun H => storeAt_int (H := H) Tryz.sizeOf3) (And.intro @callF145 (And.intro (fun H => fieldAt_eq (H := H) Tryz.underlying85 (i := 1) rfl (off := 12) rfl Tryz.sizeOf22) (And.intro @lit_22_1_0_0 @callF146))))))))))))))))))))
def y147_38 := And.intro (fun H => loadAt_one (H := H) Tryz.underlying22 rfl) (And.intro (fun H => loadAt_one (H := H) Tryz.underlying3 rfl) (fun H => indexAt_slice (H := H) Tryz.underlying22 Tryz.sizeOf3))
theorem sentIs_spec (m : Md) (H : Hp) (x : Int) (tb ib i : Nat) (w : Value) (ss : List Int) (ht : H tb = some (true, .cells #[w] 22 (0, 0))) (hi : H ib = some (true, .cells #[.int .i64 i] 3 (0, 0))) (hw : SlI H w ss) (hil : i < ss.length) (hl : ss.length ≤ 1000) :
    FnX Tryz.prog m 147 #[.int .i64 x, .pointer (some ⟨tb, 0, none⟩), .pointer (some ⟨ib, 0, none⟩)] H fun e H' => e = .returned (.bool (x == ss.getD i 0)) ∧ H' = H := by
  obtain ⟨b, o, cap, p, c, fr, rfl, _, hb, hx⟩ := hw.cons (fun h => absurd (congrArg List.length h) (by simp only [List.length_nil]; omega))
  have hxi := hx i ss[i] (List.getElem?_eq_getElem hil)
  have hg : ss.getD i 0 = ss[i] := by simp [List.getD, List.getElem?_eq_getElem hil]
  rw [hg]
  generalize ss[i] = y at hxi
  refine FnX_start Tryz.func147 rfl Tryz.ntmps147 (by simp) ?_
  (refine @Hid.out _ ?_; refine zA y147_38 ?_; (repeat (refine inC ?_; intro hc)); try (refine inK ?_; intro K hK))
  (refine @Hid.out _ ?_; refine z9 Tryz.results147 ?_)
  (refine ⟨?_, ?_⟩ <;> first | rfl | trivial | assumption)
def nhS (ts ss start : List Int) : Nat → List Int × List Int
  | 0 => (start, [])
  | i + 1 => if ts.getD i 0 ∈ (nhS ts ss start i).1 then nhS ts ss start i else
    (((nhS ts ss start i).1.filter fun x => !(x == ss.getD i 0)) ++ [ts.getD i 0], (nhS ts ss start i).2 ++ [(i : Int)])
theorem nhS_len (ts ss start : List Int) : ∀ i, (nhS ts ss start i).1.length ≤ start.length + i ∧ (nhS ts ss start i).2.length ≤ i
  | 0 => by simp [nhS]
  | i + 1 => by
    have ih := nhS_len ts ss start i
    unfold nhS
    split
    · omega
    · have := List.length_filter_le (fun x => !(x == ss.getD i 0)) (nhS ts ss start i).1
      simp only [List.length_append, List.length_cons, List.length_nil]
      omega
def HN.obj (n : HN) (v : HV) (jv : Value) : Obj := .cells #[.int .i64 n.places, .int .i64 n.pieces, v.sv, v.cv, v.tv, .int .i64 n.rule, v.xv, .int .i64 n.notice, .int .i64 n.load, .int .i64 n.barrows, .int .i64 n.lo, .int .i64 n.hi, jv] 85 (0, 0)
def HN.sents (n : HN) : List Int := (rrun n.places n.rule n.ts (rs0 n.start) n.ts.length).cl.take n.ts.length
def HN.jobs (n : HN) : List Int := (nhS n.ts n.sents n.start n.ts.length).2
theorem row_keep {t : Option Nat} {H₀ H H' : Hp} {v w : Value} {e : TypeId} {cs : List Value} (h : RowX t H₀ H v e cs) (hk : ∀ x u, H x = some u → rowB w ≠ some x → H' x = some u) (hn : ∀ x, rowB v = some x → rowB w ≠ some x) (hl : Lex t H₀ H') : RowX t H₀ H' v e cs := by
  refine ⟨hl, h.2.imp id ?_⟩
  rintro ⟨b, c, cap, h0, hb, rfl, h3⟩
  exact ⟨b, c, cap, h0, hk _ _ hb (hn b rfl), rfl, h3⟩
theorem row_new {t : Option Nat} {H₀ H : Hp} {v : Value} {e : TypeId} {cs : List Value} (h : RowX t H₀ H v e cs) {x : Nat} (hx : rowB v = some x) : H₀ x = none ∧ ∃ u, H x = some u := by
  rcases h.2 with ⟨rfl, _⟩ | ⟨b, c, cap, h0, hb, rfl, _⟩
  · cases hx
  · simp only [rowB, Option.some.injEq] at hx
    subst hx
    exact ⟨h0, _, hb⟩
theorem row_sep {t : Option Nat} {H₀ H : Hp} {v : Value} {e : TypeId} {cs : List Value} (h : RowX t H₀ H v e cs) {x : Nat} {u : Bool × Obj} (hx : H₀ x = some u) : rowB v ≠ some x := fun e' => by
  have := (row_new h e').1
  rw [hx] at this; cases this
theorem row_set {t : Option Nat} {H₀ H : Hp} {v : Value} {e : TypeId} {cs : List Value} {b : Nat} {o : Obj} (h : RowX t H₀ H v e cs) (hb : rowB v ≠ some b) (hl : Lex t H₀ (H.set b o)) : RowX t H₀ (H.set b o) v e cs := by
  refine ⟨hl, h.2.imp id ?_⟩
  rintro ⟨b', c, cap, h0, hb', rfl, h3⟩
  exact ⟨b', c, cap, h0, by rw [set_ne (fun e => hb (by rw [← e]; rfl))]; exact hb', rfl, h3⟩
theorem newHaul_spec (main : Md) (H : Hp) (n : HN) (v : HV) (hd : HaulIn H n v) :
    FnX Tryz.prog main 110 #[n.agg v] H fun e H' => ∃ hb jv, e = .returned (.pointer (some ⟨hb, 0, none⟩)) ∧ H.le H' ∧ H' hb = some (true, n.obj v jv) ∧ SlI H' jv n.jobs := by
  obtain ⟨sv, cv, tv, xv⟩ := v
  have hsents : n.sents = (rrun n.places n.rule n.ts (rs0 n.start) n.ts.length).cl.take n.ts.length := rfl
  have hjobs : n.jobs = (nhS n.ts n.sents n.start n.ts.length).2 := rfl
  generalize n.sents = ss at hsents hjobs
  generalize hjj : n.jobs = jj at hjobs ⊢
  clear hjj
  obtain ⟨places, pieces, rule, notice, load, barrows, lo, hi, start, xss, ts, xs⟩ := n
  obtain ⟨hday, htimes, hok, r0, r3, n0, n30, l1, l3, b1, b4, t1, t2, t20⟩ := hd
  simp only [] at hday htimes hok r0 r3 n0 n30 l1 l3 b1 b4 t1 t2 t20 hsents hjobs
  have hday0 := hday
  obtain ⟨sa, sc, rfl, hsc, _⟩ := hday.st
  obtain ⟨ca, cn, cc, rfl⟩ := hday0.calls.isSlice
  have htv := hday0.truth
  obtain ⟨ta, tc, rfl, htc, _⟩ := htv
  obtain ⟨xa, xn, xc, rfl⟩ := htimes.isSlice
  simp only [HN.agg, HN.obj]
  have htl : ts.length ≤ 8 := by have h1 := hday0.true.1; have h2 := hday0.few; omega
  refine FnX_start Tryz.func110 rfl Tryz.ntmps110 (by simp) ?_
  (refine @Hid.out _ ?_; refine zA y110_38 ?_; (repeat (refine inC ?_; intro hc)); try (refine inK ?_; intro K hK))
  (intro ab hab; generalize hG : Hp.set _ ab _ = H1; have lH1 := le_of_set hG hab; have vab := at_of_set hG; clear hG)
  ((try (refine @Hid.out _ ?_; refine zX y110_38 ?_)); (try (refine hK _ _ ?_; clear hK K; (try simp only [nq, ↓reduceIte, Nat.reduceEqDiff]))); refine @Hid.out _ ?_; refine zA y110_38 ?_; (repeat (refine inC ?_; intro hc)); try (refine inK ?_; intro K hK))
  (intro hb hhb; generalize hG : Hp.set _ hb _ = H2; have lH2 := le_of_set hG hhb; have vhb := at_of_set hG; clear hG)
  have lH12 := Hp.le_trans lH1 lH2
  have h0b : H hb = none := Hp.le_none lH1 hhb
  have hday2 := hday.le lH12
  clear vab lH1 lH2 hab hhb
  ((try (refine @Hid.out _ ?_; refine zX y110_38 ?_)); (try (refine hK _ _ ?_; clear hK K; (try simp only [nq, ↓reduceIte, Nat.reduceEqDiff]))); refine @Hid.out _ ?_; refine zS y110_38 ?_; (repeat (refine inC ?_; intro hc)); try (refine inK ?_; intro K hK))
  refine wpX_cut (fun a' H' => ∃ e w tb, a' = act 73 e [] ∧ e 3 = .pointer (some ⟨hb, 0, none⟩) ∧ e 4 = .pointer (some ⟨tb, 0, none⟩) ∧ H' tb = some (true, .cells #[w] 22 (0, 0)) ∧ SlI H' w ss ∧ H2.le H') ?_ ?_
  · refine wpX_tlast (fun HX => HX hb = some (true, .cells #[.int .i64 places, .int .i64 pieces, .slice sa start.length sc, .slice ca cn cc, .slice ta ts.length tc, .int .i64 rule, .slice xa xn xc, .int .i64 notice, .int .i64 load, .int .i64 barrows, .int .i64 lo, .int .i64 hi, .slice none 0 0] 85 (0, 0))) (.take 0 (.take 1 (.take 2 (.take 3 (.take 4 (.take 5 (.take 6 (.take 7 (.take 8 (.take 9 (.take 10 (.take 11 (.take 12 (.take 13 (.take 14 (.two 15 (.take 16 (.take 17 (.take 18 (.take 19 (.one 20 (.one 21 (.take 22 (.take 23 .nil)))))))) 20 (.one 15 (.take 16 (.take 17 (.take 18 (.take 19 (.one 21 (.take 22 (.take 23 .nil)))))))))))))))))))))))) (by kernel_rfl) (by kernel_rfl) (by decide) (by kernel_rfl) ?_; intro K hK
    (iterate 15 (refine @Hid.out _ ?_; refine z4 y110_38 ?_))
    refine planT_two ?_ ?_
    · (refine @Hid.out _ ?_; refine zX y110_38 ?_)
      refine (vrun_spec main H2 places pieces _ _ _ start xss ts hday2 rule r0 r3).runs.mono ?_
      rintro _ H3 ⟨w, rfl, lH3, hw⟩
      rw [← hsents] at hw
      have vhb3 := lH3 _ _ vhb
      (refine @Hid.out _ ?_; refine zX y110_38 ?_)
      (iterate 4 (refine @Hid.out _ ?_; refine z4 y110_38 ?_))
      refine planT_one ?_
      (refine @Hid.out _ ?_; refine zX y110_38 ?_)
      intro tb htb
      have nht : hb ≠ tb := ne_new vhb3 htb
      (refine @Hid.out _ ?_; refine zX y110_38 ?_)
      refine planT_one ?_
      have vhb4 : (H3.set tb (.cells #[.slice none 0 0] 22 (0, 0))) hb = _ := (set_ne nht).trans vhb3
      have lH4 : H3.le (H3.set tb (.cells #[w] 22 (0, 0))) := Hp.le_set htb
      obtain ⟨wa, wn, wc, rfl⟩ := hw.isSlice
      (refine @Hid.out _ ?_; refine zX y110_38 ?_)
      have vhb5 : (H3.set tb (.cells #[.slice wa wn wc] 22 (0, 0))) hb = _ := (set_ne nht).trans vhb3
      (iterate 2 (refine @Hid.out _ ?_; refine z4 y110_38 ?_))
      refine planT_nil (hK _ _ ?_); clear hK K
      (try simp only [nq, ↓reduceIte, Nat.reduceEqDiff])
      exact ⟨_, _, tb, rfl, rfl, rfl, set_at, hw.le lH4, Hp.le_trans lH3 lH4⟩
    · (refine @Hid.out _ ?_; refine zX y110_38 ?_)
      intro tb htb
      have nht : hb ≠ tb := ne_new vhb htb
      have lH3 : H2.le (H2.set tb (.cells #[.slice none 0 0] 22 (0, 0))) := Hp.le_set htb
      have vtb3 : (H2.set tb (.cells #[.slice none 0 0] 22 (0, 0))) tb = _ := set_at
      have vhb3 : (H2.set tb (.cells #[.slice none 0 0] 22 (0, 0))) hb = _ := (set_ne nht).trans vhb
      generalize H2.set tb (.cells #[.slice none 0 0] 22 (0, 0)) = H3 at *
      have hday3 := hday2.le lH3
      (refine @Hid.out _ ?_; refine zX y110_38 ?_)
      refine planT_one ?_
      (refine @Hid.out _ ?_; refine zX y110_38 ?_)
      refine (vrun_spec main H3 places pieces _ _ _ start xss ts hday3 rule r0 r3).runs.mono ?_
      rintro _ H4 ⟨w, rfl, lH4, hw⟩
      rw [← hsents] at hw
      have vhb4 := lH4 _ _ vhb3
      have vtb4 := lH4 _ _ vtb3
      obtain ⟨wa, wn, wc, rfl⟩ := hw.isSlice
      (refine @Hid.out _ ?_; refine zX y110_38 ?_)
      (iterate 4 (refine @Hid.out _ ?_; refine z4 y110_38 ?_))
      refine planT_one ?_
      (refine @Hid.out _ ?_; refine zX y110_38 ?_)
      have vhb5 : (H4.set tb (.cells #[.slice wa wn wc] 22 (0, 0))) hb = _ := (set_ne nht).trans vhb4
      (iterate 2 (refine @Hid.out _ ?_; refine z4 y110_38 ?_))
      refine planT_nil (hK _ _ ?_); clear hK K
      (try simp only [nq, ↓reduceIte, Nat.reduceEqDiff])
      refine ⟨_, _, tb, rfl, rfl, rfl, set_at, hw.set (fun p c fr h => by rw [vtb4] at h; cases h), ?_⟩
      intro x u hx
      rw [set_ne (fun e => by rw [e, htb] at hx; cases hx)]
      exact lH4 _ _ (lH3 _ _ hx)
  · rintro a' H5 ⟨e, w, tb, rfl, e3, e4, vtb, hw, lH5⟩
    have vhb5 := lH5 _ _ vhb
    have lHH5 : H.le H5 := Hp.le_trans lH12 lH5
    have hday5 := hday2.le lH5
    have ntb : tb ≠ hb := fun e => by rw [e, vhb5] at vtb; cases vtb
    clear hday2 vhb
    (refine @Hid.out _ ?_; refine zA y110_38 ?_; (repeat (refine inC ?_; intro hc)); try (refine inK ?_; intro K hK))
    refine (clone_spec main H5 _ start hday5.st (by have := hday5.ok.2.2.2.2.1; have := hday5.ok.2.1; omega)).runs.mono ?_
    rintro _ H6 ⟨ov, rfl, hov⟩
    have vhb6 := hov.1.toLe _ _ vhb5
    have vtb6 := hov.1.toLe _ _ vtb
    have hday6 := hday5.le hov.1.toLe
    ((try (refine @Hid.out _ ?_; refine zX y110_38 ?_)); (try (refine hK _ _ ?_; clear hK K; (try simp only [nq, ↓reduceIte, Nat.reduceEqDiff]))); refine @Hid.out _ ?_; refine zA y110_38 ?_; (repeat (refine inC ?_; intro hc)); try (refine inK ?_; intro K hK))
    have hw5 := hw
    have htv5 := hday5.truth
    have hss : ss.length = ts.length := by
      rw [hsents, List.length_take, (rrun_ok places rule ts start (fun t ht => by
        have h1 := hday5.ok.2.2.2.2.2.2.1 t ht
        have h2 := hday5.ok.2.2.2.1
        omega) (hday5.true.bnd hday5.ok) (by omega) ts.length (Nat.le_refl _)).cl]
      omega
    have hstl : start.length ≤ 1000 := by have := hday5.ok.2.2.2.2.1; have := hday5.ok.2.1; omega
    have htyp : ∀ p c fr, H5 hb ≠ some (p, .cells c 3 fr) := fun p c fr h => by rw [vhb5] at h; cases h
    refine wpX_loop (fun w' a' H' => ∃ e i ov jv off jobs, w' = ts.length - i ∧ i ≤ ts.length ∧ nhS ts ss start i = (off, jobs) ∧ a' = act 73 e [] ∧ e 3 = .pointer (some ⟨hb, 0, none⟩) ∧ e 4 = .pointer (some ⟨tb, 0, none⟩) ∧ e 7 = ov ∧ e 44 = .slice ta ts.length tc ∧ e 45 = .int .i64 ts.length ∧ e 46 = .int .i64 (i : Nat) ∧
      RowX (some hb) H5 H' ov 3 (ints off) ∧ RowX (some hb) H5 H' jv 3 (ints jobs) ∧ (∀ x, rowB jv = some x → rowB ov ≠ some x) ∧ H' hb = some (true, .cells #[.int .i64 places, .int .i64 pieces, .slice sa start.length sc, .slice ca cn cc, .slice ta ts.length tc, .int .i64 rule, .slice xa xn xc, .int .i64 notice, .int .i64 load, .int .i64 barrows, .int .i64 lo, .int .i64 hi, jv] 85 (0, 0))) (n := ts.length) ?_ ?_
    · exact ⟨_, 0, ov, .slice none 0 0, start, [], rfl, by omega, rfl, rfl, e3, e4, rfl, rfl, rfl, rfl, ⟨Lex.of hov.1.toLe, hov.2⟩, ⟨Lex.of hov.1.toLe, .inl ⟨rfl, rfl⟩⟩, (fun x hx => by cases hx), vhb6⟩
    · clear hov vhb6 vtb6 hday6 e3 e4 hday hday0 htimes lH12 hday5
      rename_i eold
      clear eold
      rintro w' a' H7 ⟨e, i, ov, jv, off, jobs, rfl, hile, hnh, rfl, e3, e4, e7, e44, e45, e46, hov, hjv, hsep, vhb7⟩
      have vtb7 := hov.1.keeps vtb ntb
      have htv7 := htv5.lexO hov.1 htyp
      have hw7 := hw5.lexO hov.1 htyp
      have hlen := nhS_len ts ss start i
      rw [hnh] at hlen
      simp only [] at hlen
      by_cases hlt : i < ts.length
      · have hsucc : nhS ts ss start (i + 1) = if ts[i] ∈ off then (off, jobs) else ((off.filter fun x => !(x == ss.getD i 0)) ++ [ts[i]], jobs ++ [(i : Int)]) := by
          have hg : ts.getD i 0 = ts[i] := by simp [List.getD, List.getElem?_eq_getElem hlt]
          simp only [nhS, hnh, hg]
        obtain ⟨b, o, cap', p, c, fr, hve, _, hb', hx⟩ := htv7.cons (fun h => absurd (congrArg List.length h) (by simp only [List.length_nil]; omega))
        cases hve
        have hxi := hx i ts[i] (List.getElem?_eq_getElem hlt)
        generalize ts[i] = t at hsucc hxi
        generalize hn1 : nhS ts ss start (i + 1) = N1 at hsucc
        (refine @Hid.out _ ?_; refine zA y110_38 ?_; (repeat (refine inC ?_; intro hc)); try (refine inK ?_; intro K hK))
        (intro ib hib; generalize hG : Hp.set _ ib _ = H8; have lH8 := le_of_set hG hib; have vib := at_of_set hG; clear hG)
        have vhb8 := lH8 _ _ vhb7
        have vtb8 := lH8 _ _ vtb7
        have hov8 := hov.le lH8
        have hjv8 := hjv.le lH8
        have nbi : ib ≠ hb := fun e => by rw [e, vhb7] at hib; cases hib
        have nti : ib ≠ tb := fun e => by rw [e, vtb7] at hib; cases hib
        have noi : rowB ov ≠ some ib := fun e => by obtain ⟨_, u, hu⟩ := row_new hov e; rw [hib] at hu; cases hu
        have nji : rowB jv ≠ some ib := fun e => by obtain ⟨_, u, hu⟩ := row_new hjv e; rw [hib] at hu; cases hu
        clear vhb7 vtb7 hb' hxi hx htv7 hw7
        obtain ⟨oa, oc, rfl⟩ := hov.len
        ((try (refine @Hid.out _ ?_; refine zX y110_38 ?_)); (try (refine hK _ _ ?_; clear hK K; (try simp only [nq, ↓reduceIte, Nat.reduceEqDiff]))); refine @Hid.out _ ?_; refine zA y110_38 ?_; (repeat (refine inC ?_; intro hc)); try (refine inK ?_; intro K hK))
        refine (contains_spec main H8 _ off t hov8.ints (by omega)).runs.mono ?_
        rintro _ HQ ⟨rfl, hHQ⟩; rw [hHQ]; clear hHQ HQ
        by_cases hmem : t ∈ off
        · rw [if_pos hmem] at hsucc
          ((try (refine @Hid.out _ ?_; refine zX y110_38 ?_)); (try (refine hK _ _ ?_; clear hK K; (try simp only [nq, ↓reduceIte, Nat.reduceEqDiff]))); refine @Hid.out _ ?_; refine zA y110_38 ?_; (repeat (refine inC ?_; intro hc)); try (refine inK ?_; intro K hK))
          exact ⟨_, by omega, _, i + 1, _, jv, off, jobs, rfl, hlt, by rw [hn1, hsucc], rfl, e3, e4, e7, e44, e45, rfl, hov8, hjv8, hsep, vhb8⟩
        · rw [if_neg hmem] at hsucc
          ((try (refine @Hid.out _ ?_; refine zX y110_38 ?_)); (try (refine hK _ _ ?_; clear hK K; (try simp only [nq, ↓reduceIte, Nat.reduceEqDiff]))); refine @Hid.out _ ?_; refine zA y110_38 ?_; (repeat (refine inC ?_; intro hc)); try (refine inK ?_; intro K hK))
          refine wpX_dlast (fun HX => HX hb = some (true, .cells #[.int .i64 places, .int .i64 pieces, .slice sa start.length sc, .slice ca cn cc, .slice (some ⟨b, o, none⟩) ts.length tc, .int .i64 rule, .slice xa xn xc, .int .i64 notice, .int .i64 load, .int .i64 barrows, .int .i64 lo, .int .i64 hi, jv] 85 (0, 0)) ∧ HX ib = some (true, .cells #[.int .i64 i] 3 (0, 0))) 10 [(true, 0), (true, 1), (true, 2), (true, 3), (true, 4), (true, 5), (false, 6), (false, 7), (true, 8), (true, 9), (false, 10)] (by kernel_rfl) (by kernel_rfl) (by simp) (by kernel_rfl) ?_; intro K hK
          (iterate 6 (apply plan_takeS rfl rfl rfl (by exact ⟨vhb8, vib⟩); (focus (intro HX hHX; have hX1 := hHX.1; have hX2 := hHX.2; clear hHX; simp -implicitDefEqProofs (disch := first | omega | (simp only [qd] <;> omega)) only [xq, ↓xp, qc, Nat.reduceAdd, List.range, List.range.loop, fine, Nat.reduceEqDiff, ↓reduceIte, yielded, reduceCtorEq, Nat.reduceLT, Nat.reduceMul, Nat.reduceSub, one, Nat.reduceLeDiff, runX_cons, y110_38, aq, ↓ap, qe0, qe1, qe2, *, -hK, YN_value] <;> (first | exact rfl | exact ⟨rfl, rfl⟩ | exact ⟨rfl, trivial⟩))); simp -implicitDefEqProofs (disch := first | omega | (simp only [qd] <;> omega)) only [act_put, act_put_none]))
          refine planX_act ?_
          (refine @Hid.out _ ?_; refine zX y110_38 ?_)
          intro g hg
          have ngb : hb ≠ g := ne_new vhb8 hg
          have ngi : ib ≠ g := ne_new vib hg
          refine ⟨.inr ⟨by rw [if_neg ngb], by rw [if_neg ngi]⟩, ?_⟩
          refine planX_act ?_
          obtain ⟨ja, jc, rfl⟩ := hjv8.len
          (refine @Hid.out _ ?_; refine zX y110_38 ?_)
          have hjl : (ints jobs).length ≤ 1000000 := by rw [ints_len]; omega
          refine append_row2 Tryz.underlying22 Tryz.sizeOf3 Tryz.zeroValue3 rfl Tryz.typeInfo3 (by decide) (by decide) hjv8 hg rfl hjl _ _ _ _ (fun jv' H9 hjv9 hkeep hnew => ?_)
          have vhb9 := hkeep hb _ vhb8 (row_sep hjv8 vhb5)
          have vib9 := hkeep ib _ vib nji
          have vtb9 := hkeep tb _ vtb8 (row_sep hjv8 vtb)
          have hov9 := row_keep hov8 hkeep (fun x h1 h2 => hsep x h2 h1) hjv9.1
          have hsep9 : ∀ x, rowB jv' = some x → rowB (.slice oa (ints off).length oc) ≠ some x := fun x h1 h2 => by
            rcases hnew x h1 with h | h
            · exact hsep x h h2
            · obtain ⟨_, u, hu⟩ := row_new hov8 h2
              rw [h] at hu; cases hu
          have nji9 : rowB jv' ≠ some ib := fun h1 => by
            rcases hnew ib h1 with h | h
            · exact nji h
            · rw [vib] at h; cases h
          have hj1 : ints jobs ++ [Value.int .i64 (i : Int)] = ints (jobs ++ [(i : Int)]) := by rw [ints_app]; rfl
          rw [hj1] at hjv9
          clear vhb8 vtb8 hov8 hjv8 hkeep hnew hsep nji hg ngb ngi vib lH8 hib hjl
          obtain ⟨ja', jc', rfl⟩ := hjv9.len
          refine ⟨.inr ⟨vhb9, vib9⟩, ?_⟩
          simp (disch := omega) only [act_put]
          (iterate 2 (apply plan_takeS rfl rfl rfl (by exact ⟨vhb9, vib9⟩); (focus (intro HX hHX; have hX1 := hHX.1; have hX2 := hHX.2; clear hHX; simp -implicitDefEqProofs (disch := first | omega | (simp only [qd] <;> omega)) only [xq, ↓xp, qc, Nat.reduceAdd, List.range, List.range.loop, fine, Nat.reduceEqDiff, ↓reduceIte, yielded, reduceCtorEq, Nat.reduceLT, Nat.reduceMul, Nat.reduceSub, one, Nat.reduceLeDiff, runX_cons, y110_38, aq, ↓ap, qe0, qe1, qe2, *, -hK, YN_value] <;> (first | exact rfl | exact ⟨rfl, rfl⟩ | exact ⟨rfl, trivial⟩))); simp -implicitDefEqProofs (disch := first | omega | (simp only [qd] <;> omega)) only [act_put, act_put_none]))
          refine planX_act ?_
          (refine @Hid.out _ ?_; refine zX y110_38 ?_)
          refine ⟨by simp, plan_nil (hK _ _ ?_)⟩
          clear hK K
          (try simp only [nq, ↓reduceIte, Nat.reduceEqDiff])
          have vhb10 : (H9.set hb (.cells #[.int .i64 places, .int .i64 pieces, .slice sa start.length sc, .slice ca cn cc, .slice (some ⟨b, o, none⟩) ts.length tc, .int .i64 rule, .slice xa xn xc, .int .i64 notice, .int .i64 load, .int .i64 barrows, .int .i64 lo, .int .i64 hi, .slice ja' (ints (jobs ++ [(i : Int)])).length jc'] 85 (0, 0))) hb = _ := set_at
          have lex10 : Lex (some hb) H5 (H9.set hb (.cells #[.int .i64 places, .int .i64 pieces, .slice sa start.length sc, .slice ca cn cc, .slice (some ⟨b, o, none⟩) ts.length tc, .int .i64 rule, .slice xa xn xc, .int .i64 notice, .int .i64 load, .int .i64 barrows, .int .i64 lo, .int .i64 hi, .slice ja' (ints (jobs ++ [(i : Int)])).length jc'] 85 (0, 0))) := hjv9.1.set
          have vtb10 : (H9.set hb (.cells #[.int .i64 places, .int .i64 pieces, .slice sa start.length sc, .slice ca cn cc, .slice (some ⟨b, o, none⟩) ts.length tc, .int .i64 rule, .slice xa xn xc, .int .i64 notice, .int .i64 load, .int .i64 barrows, .int .i64 lo, .int .i64 hi, .slice ja' (ints (jobs ++ [(i : Int)])).length jc'] 85 (0, 0))) tb = _ := (set_ne ntb).trans vtb9
          have vib10 : (H9.set hb (.cells #[.int .i64 places, .int .i64 pieces, .slice sa start.length sc, .slice ca cn cc, .slice (some ⟨b, o, none⟩) ts.length tc, .int .i64 rule, .slice xa xn xc, .int .i64 notice, .int .i64 load, .int .i64 barrows, .int .i64 lo, .int .i64 hi, .slice ja' (ints (jobs ++ [(i : Int)])).length jc'] 85 (0, 0))) ib = _ := (set_ne nbi).trans vib9
          have hov10 := row_set hov9 (row_sep hov9 vhb5) lex10
          have hjv10 := row_set hjv9 (row_sep hjv9 vhb5) lex10
          generalize H9.set hb (.cells #[.int .i64 places, .int .i64 pieces, .slice sa start.length sc, .slice ca cn cc, .slice (some ⟨b, o, none⟩) ts.length tc, .int .i64 rule, .slice xa xn xc, .int .i64 notice, .int .i64 load, .int .i64 barrows, .int .i64 lo, .int .i64 hi, .slice ja' (ints (jobs ++ [(i : Int)])).length jc'] 85 (0, 0)) = H10 at *
          clear vhb9 vib9 vtb9 hov9 hjv9
          (refine @Hid.out _ ?_; refine zA y110_38 ?_; (repeat (refine inC ?_; intro hc)); try (refine inK ?_; intro K hK))
          have htells : ∀ b', rowB (.slice oa (ints off).length oc) = some b' → H5 b' = none → Tells main b' H10 147 [.pointer (some ⟨tb, 0, none⟩), .pointer (some ⟨ib, 0, none⟩)] (fun x => x == ss.getD i 0) := fun b' hrb hb0 H' x hl => by
            refine sentIs_spec main H' x tb ib i _ ss (hl.keeps vtb10 (ne_new vtb hb0)) (hl.keeps vib10 (fun h9 => noi (by rw [h9]; exact hrb))) (hw5.move fun x p c fr hx => hl.keeps (lex10.keeps hx (fun h9 => htyp p c fr (by rw [← h9]; exact hx))) (ne_new hx hb0)) (by omega) (by omega)
          refine (deleteRow_spec main (some hb) H5 H10 _ off _ [.pointer (some ⟨tb, 0, none⟩), .pointer (some ⟨ib, 0, none⟩)] (fun x => x == ss.getD i 0) (fun a H K E => callF147 a K E) hov10 htells (by omega)).runs.mono ?_
          rintro _ H11 ⟨ov', rfl, hov11, hrB, hkeep⟩
          have vhb11 := hkeep hb _ vhb10 (row_sep hov10 vhb5)
          have hjv11 := row_keep hjv10 hkeep hsep9 hov11.1
          rw [← hrB] at hsep9 hkeep
          have hfl := List.length_filter_le (fun x => !(x == ss.getD i 0)) off
          generalize hoff : off.filter (fun x => !(x == ss.getD i 0)) = off' at *
          clear htells hov10 hjv10 vib10 vtb10 vhb10 lex10 hkeep
          obtain ⟨oa', oc', rfl⟩ := hov11.len
          ((try (refine @Hid.out _ ?_; refine zX y110_38 ?_)); (try (refine hK _ _ ?_; clear hK K; (try simp only [nq, ↓reduceIte, Nat.reduceEqDiff]))); refine @Hid.out _ ?_; refine zA y110_38 ?_; (repeat (refine inC ?_; intro hc)); try (refine inK ?_; intro K hK))
          intro g hg
          have hol : (ints off').length ≤ 1000000 := by rw [ints_len]; omega
          have ngb : hb ≠ g := ne_new vhb11 hg
          ((try (refine @Hid.out _ ?_; refine zX y110_38 ?_)); (try (refine hK _ _ ?_; clear hK K; (try simp only [nq, ↓reduceIte, Nat.reduceEqDiff]))); refine @Hid.out _ ?_; refine zA y110_38 ?_; (repeat (refine inC ?_; intro hc)); try (refine inK ?_; intro K hK))
          refine append_row2 Tryz.underlying22 Tryz.sizeOf3 Tryz.zeroValue3 rfl Tryz.typeInfo3 (by decide) (by decide) hov11 hg rfl hol _ _ _ _ (fun ov'' H12 hov12 hkeep hnew => ?_)
          have vhb12 := hkeep hb _ vhb11 (row_sep hov11 vhb5)
          have hjv12 := row_keep hjv11 hkeep hsep9 hov12.1
          have ho1 : ints off' ++ [Value.int .i64 t] = ints (off' ++ [t]) := by rw [ints_app]; rfl
          rw [ho1] at hov12
          have hsep12 : ∀ x, rowB (.slice ja' (ints (jobs ++ [(i : Int)])).length jc') = some x → rowB ov'' ≠ some x := fun x h1 h2 => by
            rcases hnew x h2 with h | h
            · exact hsep9 x h1 h
            · obtain ⟨_, u, hu⟩ := row_new hjv11 h1
              rw [h] at hu; cases hu
          ((try (refine @Hid.out _ ?_; refine zX y110_38 ?_)); (try (refine hK _ _ ?_; clear hK K; (try simp only [nq, ↓reduceIte, Nat.reduceEqDiff]))); refine @Hid.out _ ?_; refine zA y110_38 ?_; (repeat (refine inC ?_; intro hc)); try (refine inK ?_; intro K hK))
          exact ⟨_, by omega, _, i + 1, ov'', _, off' ++ [t], jobs ++ [(i : Int)], rfl, hlt, by rw [hn1, hsucc], rfl, e3, e4, rfl, e44, e45, rfl, hov12, hjv12, hsep12, vhb12⟩
      · obtain rfl : i = ts.length := by omega
        (refine @Hid.out _ ?_; refine zA y110_38 ?_; (repeat (refine inC ?_; intro hc)); try (refine inK ?_; intro K hK))
        (refine @Hid.out _ ?_; refine z9 Tryz.results110 ?_)
        refine ⟨hb, jv, rfl, fun x u hx => hov.1.keeps (lHH5 _ _ hx) (fun e => by rw [e, h0b] at hx; cases hx), vhb7, ?_⟩
        rw [hjobs, hnh]
        exact hjv.ints
end Go.Proofs.YtofmadjgbcopdaaGreatDoor
end
section
set_option linter.unusedSimpArgs false
set_option maxRecDepth 100000
set_option maxHeartbeats 1000000
set_option linter.unusedVariables false
namespace Go.Proofs.YtofmadjgbcopdaaGreatDoor
open Go Go.X
set_option linter.defProp false
def y26_39 := And.intro (fun H => loadAt_aggE (H := H) Tryz.underlying29 rfl Tryz.sizeOf29) (And.intro @callF68 (And.intro (fun H => fieldAt_eq (H := H) Tryz.underlying85 (i := 1) rfl (off := 12) rfl Tryz.sizeOf22) (fun H => loadAt_one (H := H) Tryz.underlying22 rfl)))
def y68_39 := And.intro (fun H => loadAt_aggE (H := H) Tryz.underlying29 rfl Tryz.sizeOf29) (And.intro @callF28 @callF110)
def y98_39 := And.intro (fun H => loadAt_aggE (H := H) Tryz.underlying29 rfl Tryz.sizeOf29) (And.intro @callF68 @callF71)
theorem bopen_spec (main : Md) (H : Hp) (n : HN) (v : HV) (hd : HaulIn H n v) :
    FnX Tryz.prog main 68 #[n.agg v] H fun e H' => ∃ hb jv, e = .returned (.tuple #[.pointer (some ⟨hb, 0, none⟩), .int .i64 0]) ∧ H.le H' ∧ H' hb = some (true, n.obj v jv) ∧ SlI H' jv n.jobs := by
  simp only [HN.agg]
  refine FnX_start Tryz.func68 rfl Tryz.ntmps68 (by simp) ?_
  have hc := fun H' h' => bcheck_spec main H' n v h'
  have hn := fun H' h' => newHaul_spec main H' n v h'
  simp only [HN.agg] at hc hn
  (refine @Hid.out _ ?_; refine zA y68_39 ?_; (repeat (refine inC ?_; intro hc)); try (refine inK ?_; intro K hK))
  (intro ab hab; generalize hG : Hp.set _ ab _ = H1; have lH1 := le_of_set hG hab; have vab := at_of_set hG; clear hG)
  have hd1 := hd.le lH1
  ((try (refine @Hid.out _ ?_; refine zX y68_39 ?_)); (try (refine hK _ _ ?_; clear hK K; (try simp only [nq, ↓reduceIte, Nat.reduceEqDiff]))); refine @Hid.out _ ?_; refine zA y68_39 ?_; (repeat (refine inC ?_; intro hc)); try (refine inK ?_; intro K hK))
  refine (hc H1 hd1).runs.mono ?_
  rintro _ H2 ⟨rfl, lH2⟩
  have hd2 := hd1.le lH2
  have vab2 := lH2 _ _ vab
  ((try (refine @Hid.out _ ?_; refine zX y68_39 ?_)); (try (refine hK _ _ ?_; clear hK K; (try simp only [nq, ↓reduceIte, Nat.reduceEqDiff]))); refine @Hid.out _ ?_; refine zA y68_39 ?_; (repeat (refine inC ?_; intro hc)); try (refine inK ?_; intro K hK))
  refine (hn H2 hd2).runs.mono ?_
  rintro _ H3 ⟨hb, jv, rfl, lH3, vhb, hj⟩
  ((try (refine @Hid.out _ ?_; refine zX y68_39 ?_)); (try (refine hK _ _ ?_; clear hK K; (try simp only [nq, ↓reduceIte, Nat.reduceEqDiff]))); refine @Hid.out _ ?_; refine zA y68_39 ?_; (repeat (refine inC ?_; intro hc)); try (refine inK ?_; intro K hK))
  (refine @Hid.out _ ?_; refine zB Tryz.results68 ?_)
  exact ⟨hb, jv, rfl, Hp.le_trans lH1 (Hp.le_trans lH2 lH3), vhb, hj⟩
theorem jobs_spec (main : Md) (H : Hp) (n : HN) (v : HV) (hd : HaulIn H n v) :
    FnX Tryz.prog main 26 #[n.agg v] H fun e H' => ∃ jv, e = .returned (.tuple #[jv, .int .i64 0]) ∧ H.le H' ∧ SlI H' jv n.jobs := by
  simp only [HN.agg]
  refine FnX_start Tryz.func26 rfl Tryz.ntmps26 (by simp) ?_
  have hc := fun H' h' => bopen_spec main H' n v h'
  simp only [HN.agg] at hc
  (refine @Hid.out _ ?_; refine zA y26_39 ?_; (repeat (refine inC ?_; intro hc)); try (refine inK ?_; intro K hK))
  (intro ab hab; generalize hG : Hp.set _ ab _ = H1; have lH1 := le_of_set hG hab; have vab := at_of_set hG; clear hG)
  have hd1 := hd.le lH1
  ((try (refine @Hid.out _ ?_; refine zX y26_39 ?_)); (try (refine hK _ _ ?_; clear hK K; (try simp only [nq, ↓reduceIte, Nat.reduceEqDiff]))); refine @Hid.out _ ?_; refine zA y26_39 ?_; (repeat (refine inC ?_; intro hc)); try (refine inK ?_; intro K hK))
  refine (hc H1 hd1).runs.mono ?_
  rintro _ H2 ⟨hb, jv, rfl, lH2, vhb, hj⟩
  simp only [HN.obj] at vhb
  ((try (refine @Hid.out _ ?_; refine zX y26_39 ?_)); (try (refine hK _ _ ?_; clear hK K; (try simp only [nq, ↓reduceIte, Nat.reduceEqDiff]))); refine @Hid.out _ ?_; refine zA y26_39 ?_; (repeat (refine inC ?_; intro hc)); try (refine inK ?_; intro K hK))
  (refine @Hid.out _ ?_; refine zB Tryz.results26 ?_)
  exact ⟨jv, rfl, Hp.le_trans lH1 lH2, hj⟩
theorem driving_spec (main : Md) (H : Hp) (n : HN) (v : HV) (hd : HaulIn H n v) (mi : Int) (h1 : 1 ≤ mi) (h20 : mi ≤ 20) :
    FnX Tryz.prog main 98 #[n.agg v, .int .i64 mi] H fun e H' => ∃ hb jv, e = .returned (.tuple #[.pointer (some ⟨hb, 0, none⟩), .int .i64 0]) ∧ H.le H' ∧ H' hb = some (true, n.obj v jv) ∧ SlI H' jv n.jobs := by
  simp only [HN.agg]
  refine FnX_start Tryz.func98 rfl Tryz.ntmps98 (by simp) ?_
  have hc := fun H' h' => bopen_spec main H' n v h'
  simp only [HN.agg] at hc
  (refine @Hid.out _ ?_; refine zA y98_39 ?_; (repeat (refine inC ?_; intro hc)); try (refine inK ?_; intro K hK))
  (intro ab hab; generalize hG : Hp.set _ ab _ = H1; have lH1 := le_of_set hG hab; have vab := at_of_set hG; clear hG)
  have hd1 := hd.le lH1
  ((try (refine @Hid.out _ ?_; refine zX y98_39 ?_)); (try (refine hK _ _ ?_; clear hK K; (try simp only [nq, ↓reduceIte, Nat.reduceEqDiff]))); refine @Hid.out _ ?_; refine zA y98_39 ?_; (repeat (refine inC ?_; intro hc)); try (refine inK ?_; intro K hK))
  refine (hc H1 hd1).runs.mono ?_
  rintro _ H2 ⟨hb, jv, rfl, lH2, vhb, hj⟩
  ((try (refine @Hid.out _ ?_; refine zX y98_39 ?_)); (try (refine hK _ _ ?_; clear hK K; (try simp only [nq, ↓reduceIte, Nat.reduceEqDiff]))); refine @Hid.out _ ?_; refine zA y98_39 ?_; (repeat (refine inC ?_; intro hc)); try (refine inK ?_; intro K hK))
  refine (binside_spec main H2 mi 1 20 h1 h20).runs.mono ?_; rintro _ HQ ⟨rfl, hHQ⟩; rw [hHQ]; clear hHQ HQ; ((try (refine @Hid.out _ ?_; refine zX y98_39 ?_)); (try (refine hK _ _ ?_; clear hK K; (try simp only [nq, ↓reduceIte, Nat.reduceEqDiff]))); refine @Hid.out _ ?_; refine zA y98_39 ?_; (repeat (refine inC ?_; intro hc)); try (refine inK ?_; intro K hK))
  (refine @Hid.out _ ?_; refine zB Tryz.results98 ?_)
  exact ⟨hb, jv, rfl, Hp.le_trans lH1 lH2, vhb, hj⟩
end Go.Proofs.YtofmadjgbcopdaaGreatDoor
end
section
set_option linter.unusedSimpArgs false
set_option maxRecDepth 100000
set_option maxHeartbeats 1000000
set_option linter.unusedVariables false
namespace Go.Proofs.YtofmadjgbcopdaaGreatDoor
open Go Go.X
set_option linter.defProp false
def y116_40 := And.intro (fun H => ex_alloc (H := H) (P := Tryz.prog) (h := Tryz.zeroValue145)) (And.intro (fun H => indexAt_array (H := H) Tryz.underlying145 Tryz.sizeOf3) (And.intro (fun H => storeAt_int (H := H) Tryz.sizeOf3) (And.intro (fun H => loadAt_aggE (H := H) Tryz.underlying145 rfl Tryz.sizeOf145) (fun H => storeAt_agg (H := H) Tryz.sizeOf145))))
def y153_40 := And.intro (fun H => fieldAt_eq (H := H) Tryz.underlying85 (i := 0) rfl (off := 0) rfl Tryz.sizeOf29) (And.intro (fun H => fieldAt_eq (H := H) Tryz.underlying29 (i := 6) rfl (off := 9) rfl Tryz.sizeOf3) (And.intro (fun H => loadAt_one (H := H) Tryz.underlying3 rfl) (fun H => indexAt_array (H := H) Tryz.underlying145 Tryz.sizeOf3)))
theorem resting_spec (main : Md) (H : Hp) :
    FnX Tryz.prog main 116 #[] H fun e H' => e = .returned (.agg (ints (List.replicate 4 (-1048576))).toArray) ∧ H.le H' := by
  refine FnX_start (args := []) Tryz.func116 rfl Tryz.ntmps116 (by simp) ?_
  (refine @Hid.out _ ?_; refine zA y116_40 ?_; (repeat (refine inC ?_; intro hc)); try (refine inK ?_; intro K hK))
  (intro rb hrb; generalize hG : Hp.set _ rb _ = H1; have lH1 := le_of_set hG hrb; have vrb := at_of_set hG; clear hG)
  ((try (refine @Hid.out _ ?_; refine zX y116_40 ?_)); (try (refine hK _ _ ?_; clear hK K; (try simp only [nq, ↓reduceIte, Nat.reduceEqDiff]))); refine @Hid.out _ ?_; refine zA y116_40 ?_; (repeat (refine inC ?_; intro hc)); try (refine inK ?_; intro K hK))
  (intro bb hbb; generalize hG : Hp.set _ bb _ = H2; have lH2 := le_of_set hG hbb; have vbb := at_of_set hG; clear hG)
  have vrb2 := lH2 _ _ vrb
  have hbb0 : H bb = none := Hp.le_none lH1 hbb
  have nbr : bb ≠ rb := (ne_new vrb hbb).symm
  have nbr' := nbr.symm
  ((try (refine @Hid.out _ ?_; refine zX y116_40 ?_)); (try (refine hK _ _ ?_; clear hK K; (try simp only [nq, ↓reduceIte, Nat.reduceEqDiff]))); refine @Hid.out _ ?_; refine zA y116_40 ?_; (repeat (refine inC ?_; intro hc)); try (refine inK ?_; intro K hK))
  refine wpX_loop (fun w a' H' => ∃ e j L, w = 4 - j ∧ j ≤ 4 ∧ L.length = 4 ∧ (∀ k : Nat, k < j → L[k]? = some (-1048576 : Int)) ∧ a' = act 10 e [] ∧ e 0 = .pointer (some ⟨rb, 0, none⟩) ∧ e 1 = .pointer (some ⟨bb, 0, none⟩) ∧ e 3 = .int .i64 (j : Nat) ∧ H' = H2.set bb (.cells (ints L).toArray 145 (0, 0))) (n := 4) ?_ ?_
  · exact ⟨_, 0, List.replicate 4 0, rfl, by omega, by simp, fun k hk => by omega, rfl, rfl, rfl, rfl, (set_self vbb).symm⟩
  · rintro w a' H' ⟨e, j, L, rfl, hj, hL, hLj, rfl, e0, e1, e3, hH⟩
    have hli : (ints L).length = 4 := by rw [ints_len]; exact hL
    have v1 : (H2.set bb (.cells (ints L).toArray 145 (0, 0))) bb = _ := set_at
    have v2 : (H2.set bb (.cells (ints L).toArray 145 (0, 0))) rb = _ := (set_ne nbr').trans vrb2
    have lx : Lex none H (H2.set bb (.cells (ints L).toArray 145 (0, 0))) := (Lex.of (Hp.le_trans lH1 lH2)).own hbb0
    generalize hG : H2.set bb (.cells (ints L).toArray 145 (0, 0)) = H3 at *
    rw [hH]; clear hH H'
    by_cases hlt : j < 4
    · (refine @Hid.out _ ?_; refine zA y116_40 ?_; (repeat (refine inC ?_; intro hc)); try (refine inK ?_; intro K hK))
      refine ⟨_, by omega, _, j + 1, L.set j (-1048576), rfl, hlt, by simp [hL], ?_, rfl, e0, e1, rfl, ?_⟩
      · intro k hk
        rw [List.getElem?_set]
        split
        · rename_i hjk; subst hjk; rw [if_pos (by omega)]
        · exact hLj k (by omega)
      · rw [← hG, set_set, ints_setL]
    · obtain rfl : j = 4 := by omega
      have hLr : L = List.replicate 4 (-1048576) := by
        apply List.ext_getElem?
        intro k
        by_cases hk : k < 4
        · rw [hLj k hk, List.getElem?_replicate, if_pos hk]
        · rw [List.getElem?_eq_none (by omega), List.getElem?_eq_none (by simp; omega)]
      subst hLr
      simp only [List.replicate, ints, List.map_cons, List.map_nil] at v1 ⊢
      (refine @Hid.out _ ?_; refine zA y116_40 ?_; (repeat (refine inC ?_; intro hc)); try (refine inK ?_; intro K hK))
      (refine wpX_ret ?_; (try simp only [nq, ↓reduceIte, Nat.reduceEqDiff]); rw [bodyX_ret, results_cell Tryz.results116 (by decide) (b := rb) (o := 0) ?hcell Tryz.underlying145 rfl Tryz.sizeOf145]; (case hcell => exact e0); simp -implicitDefEqProofs (disch := first | omega | (simp only [qd] <;> omega)) only [xq, ↓xp, qc, Nat.reduceAdd, List.range, List.range.loop, fine, Nat.reduceEqDiff, ↓reduceIte, yielded, reduceCtorEq, Nat.reduceLT, Nat.reduceMul, Nat.reduceSub, one, Nat.reduceLeDiff, runX_cons, y116_40, loadA_set, List.extract_toArray])
      exact (lx.own hrb).toLe
def pickB (bs : List Int) : Nat → Nat
  | 0 => 0
  | i + 1 => if i = 0 then 0 else if bs.getD i 0 < bs.getD (pickB bs i) 0 then i else pickB bs i
theorem pickB_lt (bs : List Int) : ∀ k, 0 < k → pickB bs k < k
  | 0, h => by omega
  | i + 1, _ => by
    unfold pickB
    split
    · omega
    · have := pickB_lt bs i (by omega)
      split <;> omega
theorem scp_g {c : Code} {I : Nat → Act → Hp → Prop} {Q : Exit → Act → Hp → Prop} {l : Nat} {a : Act} {H : Hp} (h : (findLabel c l).isSome = true) : scp c I Q (.goto l) a H = I l a H := by
  simp [scp, h]
theorem pick_spec (main : Md) (H : Hp) (hb : Nat) (n : HN) (v : HV) (jv : Value) {hoq : Bool} (hhb : H hb = some (hoq, n.obj v jv)) (b1 : 1 ≤ n.barrows) (b4 : n.barrows ≤ 4) (bs : List Int) (hbs : bs.length = 4) :
    FnX Tryz.prog main 153 #[.pointer (some ⟨hb, 0, none⟩), .agg (ints bs).toArray] H fun e H' => e = .returned (.int .i64 (pickB bs n.barrows.toNat)) ∧ H.le H' := by
  simp only [HN.obj] at hhb
  have hli : (ints bs).length = 4 := by rw [ints_len]; exact hbs
  have hint : ∀ k, k < 4 → (ints bs)[k]? = some (.int .i64 (bs.getD k 0)) := fun k hk => by
    rw [ints_get (List.getElem?_eq_getElem (show k < bs.length by omega))]
    simp [List.getD, List.getElem?_eq_getElem (show k < bs.length by omega)]
  refine FnX_start Tryz.func153 rfl Tryz.ntmps153 (by simp) ?_
  (refine @Hid.out _ ?_; refine zS y153_40 ?_; (repeat (refine inC ?_; intro hc)); try (refine inK ?_; intro K hK))
  (intro cb hcb; generalize hG : Hp.set _ cb _ = H1; have lH1 := le_of_set hG hcb; have vcb := at_of_set hG; clear hG)
  have vhb1 := lH1 _ _ hhb
  ((try (refine @Hid.out _ ?_; refine zX y153_40 ?_)); (try (refine hK _ _ ?_; clear hK K; (try simp only [nq, ↓reduceIte, Nat.reduceEqDiff]))); refine @Hid.out _ ?_; refine zS y153_40 ?_; (repeat (refine inC ?_; intro hc)); try (refine inK ?_; intro K hK))
  refine wpX_scope (fun l w a' H' => ∃ e i, w = 5 - i ∧ 1 ≤ i ∧ (i : Int) ≤ n.barrows ∧ a' = act 25 e [] ∧ e 0 = .pointer (some ⟨hb, 0, none⟩) ∧ e 3 = .pointer (some ⟨cb, 0, none⟩) ∧ e 5 = .int .i64 (pickB bs i : Nat) ∧ e 6 = .int .i64 (i : Nat) ∧ H' = H1) ?_ ?_
  · refine wpX_cut (fun a' H' => ∃ e, a' = act 25 e [] ∧ e 0 = .pointer (some ⟨hb, 0, none⟩) ∧ e 3 = .pointer (some ⟨cb, 0, none⟩) ∧ e 5 = .int .i64 (0 : Nat) ∧ e 6 = .int .i64 (1 : Nat) ∧ H' = H1) ?_ ?_
    · (refine @Hid.out _ ?_; refine zS y153_40 ?_; (repeat (refine inC ?_; intro hc)); try (refine inK ?_; intro K hK))
      exact ⟨_, rfl, rfl, rfl, rfl, rfl, by trivial⟩
    · rintro a' H' ⟨e, rfl, e0, e3, e5, e6, hH⟩
      rw [hH]; clear hH H'
      have hP0 : (0 : Nat) = pickB bs 1 := by simp [pickB]
      rw [hP0] at e5
      clear hP0
      have hex : ∃ i : Nat, 1 ≤ i ∧ (i : Int) ≤ n.barrows ∧ e 5 = .int .i64 (pickB bs i : Nat) ∧ e 6 = .int .i64 (i : Nat) := ⟨1, by omega, by omega, e5, e6⟩
      clear e5 e6
      obtain ⟨i, hi1, hib, e5, e6⟩ := hex
      by_cases hlt : (i : Int) < n.barrows
      · have hbi := hint i (by omega)
        have hpl := pickB_lt bs i (by omega)
        have hbb := hint (pickB bs i) (by omega)
        have hsucc : pickB bs (i + 1) = if bs.getD i 0 < bs.getD (pickB bs i) 0 then i else pickB bs i := by
          simp only [pickB]
          rw [if_neg (by omega)]
        generalize hP1 : pickB bs (i + 1) = P1 at hsucc
        generalize pickB bs i = P0 at hsucc e5 hpl hbb
        (refine @Hid.out _ ?_; refine zA y153_40 ?_; (repeat (refine inC ?_; intro hc)); try (refine inK ?_; intro K hK))
        (refine wpX_dst1 7 [(true, 0), (true, 1), (true, 2), (true, 3), (true, 4), (true, 5), (true, 6)] (by kernel_rfl) (by kernel_rfl) (by simp) (by kernel_rfl) ?_; intro K hK; (iterate 7 (refine @Hid.out _ ?_; refine z3 y153_40 ?_)); refine plan_nil (hK _ _ ?_); clear hK K; (try simp only [nq, ↓reduceIte, Nat.reduceEqDiff]))
        repeat' (first
  | (refine wpX_stmtL rfl ?_; intro K hK; simp -implicitDefEqProofs (disch := first | omega | (simp only [qd] <;> omega)) only [xq, ↓xp, qc, Nat.reduceAdd, List.range, List.range.loop, fine, Nat.reduceEqDiff, ↓reduceIte, yielded, reduceCtorEq, Nat.reduceLT, Nat.reduceMul, Nat.reduceSub, one, Nat.reduceLeDiff, runX_cons, y153_40, aq, ↓ap, qe0, qe1, qe2, *, -hK]; try (refine hK _ _ ?_; clear hK K))
  | (refine wpX_lastL rfl ?_; intro K hK; simp -implicitDefEqProofs (disch := first | omega | (simp only [qd] <;> omega)) only [xq, ↓xp, qc, Nat.reduceAdd, List.range, List.range.loop, fine, Nat.reduceEqDiff, ↓reduceIte, yielded, reduceCtorEq, Nat.reduceLT, Nat.reduceMul, Nat.reduceSub, one, Nat.reduceLeDiff, runX_cons, y153_40, aq, ↓ap, qe0, qe1, qe2, *, -hK]; try (refine hK _ _ ?_; clear hK K; (try simp only [nq, ↓reduceIte, Nat.reduceEqDiff])))
  | (refine wpX_skip ?_; (try simp only [nq, ↓reduceIte, Nat.reduceEqDiff]))
  | (refine wpX_label ?_; (try simp only [nq, ↓reduceIte, Nat.reduceEqDiff]))
  | (refine wpX_exit ?_; (try simp only [nq, ↓reduceIte, Nat.reduceEqDiff]))
  | (refine wpX_goto ?_; (try simp only [nq, ↓reduceIte, Nat.reduceEqDiff]))
  | (refine wpX_condK (by simp only [act_eval, upd_get, Nat.reduceEqDiff, Nat.reduceLT, ↓reduceIte, *]; rfl) ?_ ?_ <;> (intro hc; first | (exfalso; simp -implicitDefEqProofs (disch := omega) only [*, bq, reduceCtorEq] at hc; done) | (simp only [dq, qe3, qe4, qe5, qe6] at hc) | skip))
  | (refine wpX_scope0 ?_)
  | (refine wpX_block ?_)
  | (refine wpX_seq ?_))
        · rw [if_pos hc] at hsucc
          rw [scp_g (by rfl)]
          exact ⟨_, _, i + 1, rfl, by omega, by omega, rfl, e0, e3, by rw [hP1, hsucc]; rfl, rfl, by trivial⟩
        · rw [if_neg (by omega)] at hsucc
          rw [scp_g (by rfl)]
          exact ⟨_, _, i + 1, rfl, by omega, by omega, rfl, e0, e3, by rw [hP1, hsucc]; exact e5, rfl, by trivial⟩
      · have hie : n.barrows.toNat = i := by omega
        (refine @Hid.out _ ?_; refine zA y153_40 ?_; (repeat (refine inC ?_; intro hc)); try (refine inK ?_; intro K hK))
        (refine @Hid.out _ ?_; refine z9 Tryz.results153 ?_)
        exact ⟨by rw [hie], lH1⟩
  · rintro l rest w a' H' hf ⟨e, i, rfl, hi1, hib, rfl, e0, e3, e5, e6, hH⟩
    rw [hH]; clear hH H'
    have hl : l = 0 := by
      apply Decidable.byContradiction
      intro hl
      have h9 : (0 == l) = false := by simp; omega
      simp only [findLabel, h9, Bool.false_eq_true, if_false] at hf
      cases hf
    subst hl
    simp only [findLabel, beq_self_eq_true, if_true, Option.some.injEq] at hf
    subst hf
    refine wpX_seq (wpX_skip ?_)
    (try simp only [nq, ↓reduceIte, Nat.reduceEqDiff])
    by_cases hlt : (i : Int) < n.barrows
    · have hbi := hint i (by omega)
      have hpl := pickB_lt bs i (by omega)
      have hbb := hint (pickB bs i) (by omega)
      have hsucc : pickB bs (i + 1) = if bs.getD i 0 < bs.getD (pickB bs i) 0 then i else pickB bs i := by
        simp only [pickB]
        rw [if_neg (by omega)]
      generalize hP1 : pickB bs (i + 1) = P1 at hsucc
      generalize pickB bs i = P0 at hsucc e5 hpl hbb
      (refine @Hid.out _ ?_; refine zA y153_40 ?_; (repeat (refine inC ?_; intro hc)); try (refine inK ?_; intro K hK))
      (refine wpX_dst1 7 [(true, 0), (true, 1), (true, 2), (true, 3), (true, 4), (true, 5), (true, 6)] (by kernel_rfl) (by kernel_rfl) (by simp) (by kernel_rfl) ?_; intro K hK; (iterate 7 (refine @Hid.out _ ?_; refine z3 y153_40 ?_)); refine plan_nil (hK _ _ ?_); clear hK K; (try simp only [nq, ↓reduceIte, Nat.reduceEqDiff]))
      repeat' (first
  | (refine wpX_stmtL rfl ?_; intro K hK; simp -implicitDefEqProofs (disch := first | omega | (simp only [qd] <;> omega)) only [xq, ↓xp, qc, Nat.reduceAdd, List.range, List.range.loop, fine, Nat.reduceEqDiff, ↓reduceIte, yielded, reduceCtorEq, Nat.reduceLT, Nat.reduceMul, Nat.reduceSub, one, Nat.reduceLeDiff, runX_cons, y153_40, aq, ↓ap, qe0, qe1, qe2, *, -hK]; try (refine hK _ _ ?_; clear hK K))
  | (refine wpX_lastL rfl ?_; intro K hK; simp -implicitDefEqProofs (disch := first | omega | (simp only [qd] <;> omega)) only [xq, ↓xp, qc, Nat.reduceAdd, List.range, List.range.loop, fine, Nat.reduceEqDiff, ↓reduceIte, yielded, reduceCtorEq, Nat.reduceLT, Nat.reduceMul, Nat.reduceSub, one, Nat.reduceLeDiff, runX_cons, y153_40, aq, ↓ap, qe0, qe1, qe2, *, -hK]; try (refine hK _ _ ?_; clear hK K; (try simp only [nq, ↓reduceIte, Nat.reduceEqDiff])))
  | (refine wpX_skip ?_; (try simp only [nq, ↓reduceIte, Nat.reduceEqDiff]))
  | (refine wpX_label ?_; (try simp only [nq, ↓reduceIte, Nat.reduceEqDiff]))
  | (refine wpX_exit ?_; (try simp only [nq, ↓reduceIte, Nat.reduceEqDiff]))
  | (refine wpX_goto ?_; (try simp only [nq, ↓reduceIte, Nat.reduceEqDiff]))
  | (refine wpX_condK (by simp only [act_eval, upd_get, Nat.reduceEqDiff, Nat.reduceLT, ↓reduceIte, *]; rfl) ?_ ?_ <;> (intro hc; first | (exfalso; simp -implicitDefEqProofs (disch := omega) only [*, bq, reduceCtorEq] at hc; done) | (simp only [dq, qe3, qe4, qe5, qe6] at hc) | skip))
  | (refine wpX_scope0 ?_)
  | (refine wpX_block ?_)
  | (refine wpX_seq ?_))
      · rw [if_pos hc] at hsucc
        rw [scp_g (by rfl)]
        exact ⟨_, by omega, _, i + 1, rfl, by omega, by omega, rfl, e0, e3, by rw [hP1, hsucc]; rfl, rfl, by trivial⟩
      · rw [if_neg (by omega)] at hsucc
        rw [scp_g (by rfl)]
        exact ⟨_, by omega, _, i + 1, rfl, by omega, by omega, rfl, e0, e3, by rw [hP1, hsucc]; exact e5, rfl, by trivial⟩
    · have hie : n.barrows.toNat = i := by omega
      (refine @Hid.out _ ?_; refine zA y153_40 ?_; (repeat (refine inC ?_; intro hc)); try (refine inK ?_; intro K hK))
      (refine @Hid.out _ ?_; refine z9 Tryz.results153 ?_)
      exact ⟨by rw [hie], lH1⟩
end Go.Proofs.YtofmadjgbcopdaaGreatDoor
end
section
set_option linter.unusedSimpArgs false
set_option maxRecDepth 100000
set_option maxHeartbeats 1000000
set_option linter.unusedVariables false
namespace Go.X
open Go
theorem results_cell_cell {P : Program} {H : Hp} {fn : Func} {t u : Tmp} {ty ty2 : TypeId} (h : fn.results = #[.cell t ty, .cell u ty2]) {n : Nat} {e : Nat → Value} {ds : List Deferred} (ht : t < n) (hu' : u < n) {b o b2 o2 : Nat} (hb : e t = .pointer (some ⟨b, o, none⟩)) (hb2 : e u = .pointer (some ⟨b2, o2, none⟩))
    {d : TypeDesc} (hu : P.underlying ty = some d) (hd : aggB d = true) {k : Nat} (hs : ∀ w, (sizeOf ty).run P w = .ok (k + 1) w) {d2 : TypeDesc} (hu2 : P.underlying ty2 = some d2) (hd2 : aggB d2 = true) {k2 : Nat} (hs2 : ∀ w, (sizeOf ty2).run P w = .ok (k2 + 1) w) (K : Value → Hp → Prop) (E : Value → Hp → Prop) :
    wpS P (results fn (act n e ds).tmps) H K E = loadA H b o (k + 1) (fun v => loadA H b2 o2 (k2 + 1) fun w => K (.tuple #[v, w]) H) := by
  simp [-bind_pure_comp, results, h, act_get? ht, act_get? hu', hb, hb2, asAddr, wpS_bind', wpS_pure, loadVar_agg hu hd hs, loadVar_agg hu2 hd2 hs2]
end Go.X
namespace Go.Proofs.YtofmadjgbcopdaaGreatDoor
open Go Go.X
set_option linter.defProp false
def y117_41 := And.intro (fun H => ex_alloc (H := H) (P := Tryz.prog) (h := Tryz.zeroValue61)) (And.intro (fun H => ex_alloc (H := H) (P := Tryz.prog) (h := Tryz.zeroValue145)) (And.intro (fun H => loadAt_aggE (H := H) Tryz.underlying145 rfl Tryz.sizeOf145) (And.intro @callF153 (And.intro (fun H => fieldAt_eq (H := H) Tryz.underlying85 (i := 0) rfl (off := 0) rfl Tryz.sizeOf29) (And.intro (fun H => fieldAt_eq (H := H) Tryz.underlying29 (i := 3) rfl (off := 6) rfl Tryz.sizeOf22) (And.intro (fun H => loadAt_one (H := H) Tryz.underlying22 rfl) (And.intro (fun H => fieldAt_eq (H := H) Tryz.underlying85 (i := 1) rfl (off := 12) rfl Tryz.sizeOf22) (And.intro (fun H => indexAt_slice (H := H) Tryz.underlying22 Tryz.sizeOf3) (And.intro (fun H => loadAt_one (H := H) Tryz.underlying3 rfl) (And.intro (fun H => fieldAt_eq (H := H) Tryz.underlying29 (i := 4) rfl (off := 7) rfl Tryz.sizeOf3) (And.intro (fun H => indexAt_array (H := H) Tryz.underlying145 Tryz.sizeOf3) (And.intro @max_int (And.intro @bld_61_0_1_0 (And.intro (fun H => storeAt_agg (H := H) Tryz.sizeOf61) (And.intro (fun H => fieldAt_eq (H := H) Tryz.underlying61 (i := 1) rfl (off := 1) rfl Tryz.sizeOf3) (And.intro (fun H => fieldAt_eq (H := H) Tryz.underlying61 (i := 2) rfl (off := 2) rfl Tryz.sizeOf3) (And.intro (fun H => storeAt_int (H := H) Tryz.sizeOf3) (And.intro (fun H => loadAt_aggE (H := H) Tryz.underlying61 rfl Tryz.sizeOf61) (fun H => storeAt_agg (H := H) Tryz.sizeOf145)))))))))))))))))))
structure HaulAt (H : Hp) (hb : Nat) (n : HN) (v : HV) (jv : Value) (js : List Int) : Prop where
  o : ∃ q, H hb = some (q, n.obj v jv)
  x : SlI H v.xv n.xs
  j : SlI H jv js
  b1 : 1 ≤ n.barrows
  b4 : n.barrows ≤ 4
  n0 : 0 ≤ n.notice
  n30 : n.notice ≤ 30
  xb : ∀ x ∈ n.xs, 0 ≤ x ∧ x ≤ 99
  jb : ∀ i ∈ js, 0 ≤ i ∧ i < n.xs.length
  jl : js.length ≤ 1000
theorem HaulAt.le {H H' : Hp} {hb : Nat} {n : HN} {v : HV} {jv : Value} {js : List Int} (h : HaulAt H hb n v jv js) (hl : H.le H') : HaulAt H' hb n v jv js := { h with o := h.o.imp fun _ hq => hl _ _ hq, x := h.x.le hl, j := h.j.le hl }
def HN.due (n : HN) (js : List Int) (k : Nat) : Int := n.xs.getD (js.getD k 0).toNat 0
structure RideV where
  barrow : Int
  out : Int
  back : Int
def rideF (n : HN) (js bs : List Int) (from_ many : Nat) (mi : Int) : RideV :=
  let p := pickB bs n.barrows.toNat
  let o := max (bs.getD p 0) (n.due js (from_ + many - 1) - n.notice)
  ⟨p, o, o + mi⟩
def RideV.agg (r : RideV) : Value := .agg #[.int .i64 r.barrow, .int .i64 r.out, .int .i64 r.back]
theorem ride_spec (main : Md) (H : Hp) (hb : Nat) (n : HN) (v : HV) (jv : Value) (js : List Int) (hh : HaulAt H hb n v jv js) (bs : List Int) (hbs : bs.length = 4) (hbb : ∀ x ∈ bs, -1048576 ≤ x ∧ x ≤ 1000000) (f m : Nat) (hm : 1 ≤ m) (hf : f + m ≤ js.length) (mi : Int) (hm1 : 1 ≤ mi) (hm2 : mi ≤ 20) :
    FnX Tryz.prog main 117 #[.pointer (some ⟨hb, 0, none⟩), .agg (ints bs).toArray, .int .i64 f, .int .i64 m, .int .i64 mi] H fun e H' =>
      e = .returned (.tuple #[(rideF n js bs f m mi).agg, .agg (ints (bs.set (pickB bs n.barrows.toNat) (rideF n js bs f m mi).back)).toArray]) ∧ H.le H' := by
  have hpl := pickB_lt bs n.barrows.toNat (by have := hh.b1; omega)
  have hb4 := hh.b4
  have hb1 := hh.b1
  have hn0 := hh.n0
  have hn30 := hh.n30
  have hjl := hh.jl
  have hli : (ints bs).length = 4 := by rw [ints_len]; exact hbs
  have hpb : (ints bs)[pickB bs n.barrows.toNat]? = some (.int .i64 (bs.getD (pickB bs n.barrows.toNat) 0)) := by
    rw [ints_get (List.getElem?_eq_getElem (show pickB bs n.barrows.toNat < bs.length by omega))]
    simp [List.getD, List.getElem?_eq_getElem (show pickB bs n.barrows.toNat < bs.length by omega)]
  have hpr : -1048576 ≤ bs.getD (pickB bs n.barrows.toNat) 0 ∧ bs.getD (pickB bs n.barrows.toNat) 0 ≤ 1000000 := by
    simp [List.getD, List.getElem?_eq_getElem (show pickB bs n.barrows.toNat < bs.length by omega)]
    exact hbb _ (List.getElem_mem _)
  have hjk : js.getD (f + m - 1) 0 = js[f + m - 1]'(by omega) := by simp [List.getD, List.getElem?_eq_getElem (show f + m - 1 < js.length by omega)]
  have hjr := hh.jb _ (List.getElem_mem (show f + m - 1 < js.length by omega))
  rw [← hjk] at hjr
  have hdue : n.due js (f + m - 1) = n.xs[(js.getD (f + m - 1) 0).toNat]'(by omega) := by simp [HN.due, List.getD, List.getElem?_eq_getElem (show (js[f + m - 1]?.getD 0).toNat < n.xs.length by simpa [List.getD] using (by omega : (js.getD (f + m - 1) 0).toNat < n.xs.length))]
  have hxr := hh.xb _ (List.getElem_mem (show (js.getD (f + m - 1) 0).toNat < n.xs.length by omega))
  rw [← hdue] at hxr
  obtain ⟨jb, jo, jc, jp, jcs, jfr, rfl, _, vjb, hjx⟩ := hh.j.cons (fun h => absurd (congrArg List.length h) (by simp only [List.length_nil]; omega))
  obtain ⟨sv, cv, tv, xv⟩ := v
  have hhx := hh.x
  simp only [] at hhx
  obtain ⟨xb, xo, xc, xpp, xcs, xfr, rfl, _, vxb, hxx⟩ := hhx.cons (fun h => absurd (congrArg List.length h) (by simp only [List.length_nil]; omega))
  have hj1 : jcs[jo + (f + m - 1)]? = some (.int .i64 (js.getD (f + m - 1) 0)) := by rw [hjk]; exact hjx _ _ (List.getElem?_eq_getElem _)
  have hx1 : xcs[xo + (js.getD (f + m - 1) 0).toNat]? = some (.int .i64 (n.due js (f + m - 1))) := by rw [hdue]; exact hxx _ _ (List.getElem?_eq_getElem _)
  have hfm : ((f : Int) + (m : Int) - 1).toNat = f + m - 1 := by omega
  obtain ⟨hoq, hho⟩ := hh.o
  simp only [HN.obj] at hho
  refine FnX_start Tryz.func117 rfl Tryz.ntmps117 (by simp) ?_
  clear hjx hxx hdue hjk
  simp only [rideF]
  generalize n.due js (f + m - 1) = due at *
  generalize js.getD (f + m - 1) 0 = jk at *
  generalize hPP : pickB bs n.barrows.toNat = P at *
  generalize hB0 : bs.getD P 0 = B0 at *
  have htk4 : (ints bs).take 4 = ints bs := List.take_of_length_le (by omega)
  (refine @Hid.out _ ?_; refine zA y117_41 ?_; (repeat (refine inC ?_; intro hc)); try (refine inK ?_; intro K hK))
  intro b1 hb1 b2 hb2 b3 hb3
  replace hb2 : (H.set b1 (.cells (ints bs).toArray 145 (0, 0))) b2 = none := hb2
  replace hb3 : ((H.set b1 (.cells (ints bs).toArray 145 (0, 0))).set b2 (.cells #[.int .i64 0, .int .i64 0, .int .i64 0] 61 (0, 0))) b3 = none := hb3
  generalize hG1 : H.set b1 (.cells (ints bs).toArray 145 (0, 0)) = H1 at *
  generalize hG2 : H1.set b2 (.cells #[.int .i64 0, .int .i64 0, .int .i64 0] 61 (0, 0)) = H2 at *
  generalize hG3 : Hp.set H2 b3 _ = H3
  have lH1 := le_of_set hG1 hb1
  have lH2 := le_of_set hG2 hb2
  have lH3 := le_of_set hG3 hb3
  have vb1 := at_of_set hG1
  have vb2 := at_of_set hG2
  have vb3 := at_of_set hG3
  have h0b1 := hb1
  have h0b2 : H b2 = none := Hp.le_none lH1 hb2
  have h0b3 : H b3 = none := Hp.le_none (Hp.le_trans lH1 lH2) hb3
  clear hG1 hG2 hG3
  have vb12 := lH2 _ _ vb1
  have vb13 := lH3 _ _ vb12
  have vb23 := lH3 _ _ vb2
  have lH13 := Hp.le_trans lH1 (Hp.le_trans lH2 lH3)
  have vhb3 := lH13 _ _ hho
  have vjb3 := lH13 _ _ vjb
  have vxb3 := lH13 _ _ vxb
  have hh3 := hh.le lH13
  have n12 : b2 ≠ b1 := (ne_new vb1 hb2).symm
  have n13 : b3 ≠ b1 := (ne_new vb12 hb3).symm
  have n23 : b3 ≠ b2 := (ne_new vb2 hb3).symm
  have n12' := n12.symm
  have n13' := n13.symm
  have n23' := n23.symm
  clear vb1 vb2 vb12 hho vjb vxb hb2 hb3 lH1 lH2 lH3
  ((try (refine @Hid.out _ ?_; refine zX y117_41 ?_)); (try (refine hK _ _ ?_; clear hK K; (try simp only [nq, ↓reduceIte, Nat.reduceEqDiff]))); refine @Hid.out _ ?_; refine zA y117_41 ?_; (repeat (refine inC ?_; intro hc)); try (refine inK ?_; intro K hK))
  obtain ⟨hoq3, hho3⟩ := hh3.o
  refine (pick_spec main H3 hb n _ _ hho3 hh.b1 hb4 bs hbs).runs.mono ?_
  rintro _ H4 ⟨rfl, lH4⟩
  rw [hPP]
  have vb14 := lH4 _ _ vb13
  have vb24 := lH4 _ _ vb23
  have vb34 := lH4 _ _ vb3
  have vhb4 := lH4 _ _ vhb3
  have vjb4 := lH4 _ _ vjb3
  have vxb4 := lH4 _ _ vxb3
  clear vb13 vb23 vb3 vhb3 vjb3 vxb3 hh3
  ((try (refine @Hid.out _ ?_; refine zX y117_41 ?_)); (try (refine hK _ _ ?_; clear hK K; (try simp only [nq, ↓reduceIte, Nat.reduceEqDiff]))); refine @Hid.out _ ?_; refine zA y117_41 ?_; (repeat (refine inC ?_; intro hc)); try (refine inK ?_; intro K hK))
  (refine wpX_dst1 24 [(true, 0), (true, 1), (true, 2), (true, 3), (true, 4), (true, 5), (true, 6), (true, 7), (true, 8), (true, 9), (true, 10), (true, 11), (true, 12), (true, 13), (true, 14), (true, 15), (true, 16), (true, 17), (true, 18), (true, 19), (true, 20), (true, 21), (true, 22), (true, 23)] (by kernel_rfl) (by kernel_rfl) (by simp) (by kernel_rfl) ?_; intro K hK; (iterate 24 (refine @Hid.out _ ?_; refine z3 y117_41 ?_)); refine plan_nil (hK _ _ ?_); clear hK K; (try simp only [nq, ↓reduceIte, Nat.reduceEqDiff]))
  (refine @Hid.out _ ?_; refine zA y117_41 ?_; (repeat (refine inC ?_; intro hc)); try (refine inK ?_; intro K hK))
  (intro b5 hb5; generalize hG : Hp.set _ b5 _ = H5; have lH5 := le_of_set hG hb5; have vb5 := at_of_set hG; clear hG)
  have vb15 := lH5 _ _ vb14
  have vb25 := lH5 _ _ vb24
  have vb35 := lH5 _ _ vb34
  have n51 : b5 ≠ b1 := (ne_new vb14 hb5).symm
  have n52 : b5 ≠ b2 := (ne_new vb24 hb5).symm
  have n53 : b5 ≠ b3 := (ne_new vb34 hb5).symm
  have n51' := n51.symm
  have n52' := n52.symm
  have n53' := n53.symm
  have h0b5 : H b5 = none := Hp.le_none (Hp.le_trans lH13 lH4) hb5
  have lx5 : Lex none H H5 := Lex.of (Hp.le_trans lH13 (Hp.le_trans lH4 lH5))
  clear vb14 vb24 vb34 vhb4 vjb4 vxb4 hb5 lH13 lH4 lH5
  have hmax : (if B0 < due - n.notice then due - n.notice else B0) = max B0 (due - n.notice) := by
    rw [Int.max_def]; split <;> split <;> omega
  have hOb : -1048576 ≤ max B0 (due - n.notice) ∧ max B0 (due - n.notice) ≤ 1000000 := by rw [← hmax]; split <;> omega
  simp only [hmax] at vb5 ⊢
  generalize max B0 (due - n.notice) = O at *
  clear hmax
  ((try (refine @Hid.out _ ?_; refine zX y117_41 ?_)); (try (refine hK _ _ ?_; clear hK K; (try simp only [nq, ↓reduceIte, Nat.reduceEqDiff]))); refine @Hid.out _ ?_; refine zA y117_41 ?_; (repeat (refine inC ?_; intro hc)); try (refine inK ?_; intro K hK))
  generalize hG6 : Hp.set (Hp.set H5 b5 _) b1 _ = H6
  have v1 := at_of_set hG6
  have v5 := other_of_set hG6 set_at n51
  have v2 := other_of_set hG6 ((set_ne n52').trans vb25) n12
  have v3 := other_of_set hG6 ((set_ne n53').trans vb35) n13
  have lx6 : Lex none H H6 := by rw [← hG6]; exact (lx5.own h0b5).own h0b1
  rw [ints_setL] at v1
  clear hG6 vb15 vb25 vb35 vb5 lx5
  have hli2 : (ints (bs.set P (O + mi))).length = 4 := by rw [ints_len, List.length_set]; exact hbs
  have htk42 : (ints (bs.set P (O + mi))).take 4 = ints (bs.set P (O + mi)) := List.take_of_length_le (by omega)
  have hne2 : ints (bs.set P (O + mi)) ≠ [] := fun h => by rw [h] at hli2; cases hli2
  have hone : (ints (bs.set P (O + mi))).all one = true := List.all_eq_true.2 (ints_one _)
  generalize bs.set P (O + mi) = bs2 at *
  refine wpX_dlast (fun HX => HX b5 = some (true, .cells #[.int .i64 P, .int .i64 O, .int .i64 (O + mi)] 61 (0, 0)) ∧ HX b1 = some (true, .cells (ints bs2).toArray 145 (0, 0))) 4 [(true, 0), (true, 1), (false, 2), (false, 3)] (by kernel_rfl) (by kernel_rfl) (by simp) (by kernel_rfl) ?_; intro K hK
  (iterate 2 (apply plan_takeS rfl rfl rfl (by exact ⟨v5, v1⟩); (focus (intro HX hHX; have hX1 := hHX.1; have hX2 := hHX.2; clear hHX; simp -implicitDefEqProofs (disch := first | omega | (simp only [qd] <;> omega)) only [xq, ↓xp, qc, Nat.reduceAdd, List.range, List.range.loop, fine, Nat.reduceEqDiff, ↓reduceIte, yielded, reduceCtorEq, Nat.reduceLT, Nat.reduceMul, Nat.reduceSub, one, Nat.reduceLeDiff, runX_cons, y117_41, aq, ↓ap, qe0, qe1, qe2, *, -hK, YN_value] <;> (first | exact rfl | exact ⟨rfl, rfl⟩ | exact ⟨rfl, trivial⟩))); simp -implicitDefEqProofs (disch := first | omega | (simp only [qd] <;> omega)) only [act_put, act_put_none]))
  refine planX_act ?_
  (refine @Hid.out _ ?_; refine zX y117_41 ?_)
  refine ⟨.inr trivial, ?_⟩
  generalize hG7 : Hp.set H6 b2 _ = H7
  have v17 := other_of_set hG7 v1 n12'
  have v57 := other_of_set hG7 v5 n52
  have v27 := at_of_set hG7
  have v37 := other_of_set hG7 v3 n23
  have lx7 : Lex none H H7 := by rw [← hG7]; exact lx6.own h0b2
  clear hG7 v1 v5 v2 v3 lx6
  refine planX_act ?_
  simp -implicitDefEqProofs (disch := first | omega | (simp only [qd] <;> omega)) only [xq, ↓xp, qc, Nat.reduceAdd, List.range, List.range.loop, fine, Nat.reduceEqDiff, ↓reduceIte, yielded, reduceCtorEq, Nat.reduceLT, Nat.reduceMul, Nat.reduceSub, one, Nat.reduceLeDiff, runX_cons, y117_41, aq, ↓ap, qe0, qe1, qe2, *, -hK, storL_at hne2 v37]
  refine ⟨.inr trivial, plan_nil (hK _ _ ?_)⟩
  clear hK K
  (try simp only [nq, ↓reduceIte, Nat.reduceEqDiff])
  generalize hG8 : Hp.set H7 b3 _ = H8
  have v28 := other_of_set hG8 v27 n23'
  have v38 := at_of_set hG8
  have lx8 : Lex none H H8 := by rw [← hG8]; exact lx7.own h0b3
  clear hG8
  refine wpX_ret ?_
  rw [bodyX_ret, results_cell_cell Tryz.results117 (by decide) (by decide) (b := b2) (o := 0) (b2 := b3) (o2 := 0) rfl rfl Tryz.underlying61 rfl Tryz.sizeOf61 Tryz.underlying145 rfl Tryz.sizeOf145]
  simp -implicitDefEqProofs (disch := first | omega | (simp only [qd] <;> omega)) only [xq, ↓xp, qc, Nat.reduceAdd, List.range, List.range.loop, fine, Nat.reduceEqDiff, ↓reduceIte, yielded, reduceCtorEq, Nat.reduceLT, Nat.reduceMul, Nat.reduceSub, one, Nat.reduceLeDiff, runX_cons, y117_41, aq, ↓ap, qe0, qe1, qe2, *, Nat.reduceLeDiff, Nat.le_refl]
  exact ⟨rfl, lx8.toLe⟩
end Go.Proofs.YtofmadjgbcopdaaGreatDoor
end
section
set_option linter.unusedSimpArgs false
set_option maxRecDepth 100000
set_option maxHeartbeats 1000000
set_option linter.unusedVariables false
namespace Go.X
open Go
section
variable {P : Program} {H : Hp}
theorem buildSlice_agg1 {t e : TypeId} {sz : Nat} {z : Value} (hu : P.underlying t = some (.slice e)) (hs : ∀ w, (sizeOf e).run P w = .ok sz w) (hz : ∀ w, (zeroValue e).run P w = .ok z w) (hzc : z.cells.size = sz) (h0 : 0 < sz) (h1 : sz ≤ 1000)
    (vs : List Value) (hvs : vs.length = sz) (K : Value → Hp → Prop) (E : Value → Hp → Prop) :
    wpS P (Instr.buildSlice t 1 #[(0, .agg vs.toArray)]) H K E = ∀ b, H b = none → K (.slice (some ⟨b, 0, none⟩) 1 1) (H.set b (.cells vs.toArray e (0, 0))) := by
  unfold Instr.buildSlice
  have hn1 : ¬ 1 * sz > 2 ^ 24 := by have : (2 : Nat) ^ 24 = 16777216 := by decide
                                     omega
  have hn2 : ¬ 1 * sz = 0 := by omega
  simp only [wpS_bind', wpS_underlying hu, wpS_sizeOf hs, hn1, hn2, if_false, wpS_zeroValue hz, wpS_pure]
  have hf : Instr.fill (fun i => some (i * sz, sz)) ((Array.range (1 * sz)).map (z.cells[· % z.cells.size]!)) [(0, .agg vs.toArray)] = some vs.toArray := by
    unfold Instr.fill
    simp only [Nat.zero_mul, cells_agg, List.size_toArray, hvs, Nat.zero_add, Array.size_map, Array.size_range, Nat.one_mul, ne_eq, not_true, gt_iff_lt, Nat.lt_irrefl, decide_false, Bool.or_self, Bool.false_eq_true, if_false]
    simp only [Instr.fill]
    congr 1
    rw [← Array.foldl_toList, Array.toList_zipIdx]
    have hfo := foldl_over 0 vs 0 ((Array.range sz).map (z.cells[· % z.cells.size]!)) (by simp [hvs])
    simp only [Nat.zero_add] at hfo
    rw [hfo]
    apply Array.ext_getElem?
    intro i
    by_cases hi : i < sz
    · rw [over_get i (by simpa using hi), if_pos ⟨by omega, by omega⟩]
      simp [List.getD, List.getElem?_eq_getElem (show i < vs.length by omega)]
    · rw [Array.getElem?_eq_none (by rw [over_size]; simp; omega), Array.getElem?_eq_none (by simp; omega)]
  have hl : (#[(0, Value.agg vs.toArray)] : Array (Nat × Value)).toList = [(0, .agg vs.toArray)] := rfl
  simp only [hl, hf, newRow, newObj, wpS_bind', wpS, wpS_pure]
end
def RowZ (Lx : Hp → Hp → Prop) (H₀ H : Hp) (v : Value) (e : TypeId) (sz n : Nat) (cs : List Value) : Prop :=
  Lx H₀ H ∧ ((v = .slice none 0 0 ∧ n = 0 ∧ cs = []) ∨
  ∃ (b : Nat) (c : Array Value) (cap : Nat), H₀ b = none ∧ H b = some (true, .cells c e (0, 0)) ∧ v = .slice (some ⟨b, 0, none⟩) n cap ∧ c.size = cap * sz ∧ n ≤ cap ∧ cs.length = n * sz ∧ ∀ (i : Nat) (u : Value), cs[i]? = some u → c[i]? = some u)
end Go.X
namespace Go.Proofs.YtofmadjgbcopdaaGreatDoor
open Go Go.X
theorem append_rowZ {P : Program} {tt e : TypeId} {sz : Nat} {z : Value} {inf : TypeInfo} (hu : P.underlying tt = some (.slice e)) (hs : ∀ w, (sizeOf e).run P w = .ok sz w) (hz : ∀ w, (zeroValue e).run P w = .ok z w) (hzc : z.cells.size = sz)
    (hi : ∀ w, (typeInfo e).run P w = .ok inf w) (hby : inf.bytes ≤ 1024) (hby0 : 0 < inf.bytes)
    {t : Option Nat} {H₀ H : Hp} {v : Value} {n : Nat} {cs : List Value} (h : RowZ (Lex t) H₀ H v e sz n cs) {g : Nat} {ws : List Value} (hws : ws.length = sz) (hg : H g = none) (hw : ∀ w ∈ ws, one w = true) (hn : n ≤ 1000000) (ty : TypeId) (cb : Array Bool) (K : Next → Hp → Prop) (E : Value → Hp → Prop)
    (h' : ∀ v' H', RowZ (Lex t) H₀ H' v' e sz (n + 1) (cs ++ ws) → (∀ x u, H x = some u → rowB v ≠ some x → H' x = some u) → (∀ x, rowB v' = some x → rowB v = some x ∨ H x = none) → K (.value v') H') :
    wpS P (builtin .append #[tt, tt] ty cb #[v, .slice (some ⟨g, 0, none⟩) 1 1]) (H.set g (.cells ws.toArray e (0, 0))) K E := by
  obtain ⟨hlex, hrow⟩ := h
  have hcell : ∀ (j : Nat) (u : Value), ws[j]? = some u → (H.set g (.cells ws.toArray e (0, 0))).cell ⟨g, 0 + j, none⟩ = some u := by
    intro j u hj
    rw [Nat.zero_add, cell_of (b := g) (p := true) (c := ws.toArray) (e := e) (f := (0, 0)) (by rw [get_set, if_pos rfl])]
    simpa using hj
  rcases hrow with ⟨rfl, rfl, rfl⟩ | ⟨b, c, cap, hb0, hb, rfl, hcs, hcap, hlen, hget⟩
  · refine append_law (P := P) hu hs hz hzc hi hby hby0 (NewRow.nil H e sz) (Hp.le_set hg) (m := 1) (by omega) id hcell hw (by omega) ty cb K E (fun v' H1 H2 hr hl => ?_)
    have hle : H.le H2 := fun x u hx => hl _ _ (hr.le _ _ hx)
    refine h' v' H2 ⟨hlex.le hle, ?_⟩ (fun x u hx _ => hle _ _ hx) ?_
    · rcases hr with ⟨_, hn0, _⟩ | ⟨b', c', cap', hb', rfl, rfl, hs', hl', hn', hg'⟩
      · simp at hn0
      · exact .inr ⟨b', c', cap', hlex.gone hb', hl _ _ (by rw [get_set, if_pos rfl]), rfl, hs', hn', hl', fun i u hi => hg' i u hi⟩
    · intro x hx
      rcases hr with ⟨_, hn0, _⟩ | ⟨b', c', cap', hb', rfl, rfl, hs', hl', hn', hg'⟩
      · simp at hn0
      · simp only [rowB, Option.some.injEq] at hx
        subst hx
        exact .inr hb'
  · have hgb : g ≠ b := fun e => by rw [e, hb] at hg; cases hg
    have hD : (fun x => if x = b then none else H x : Hp) b = none := by simp
    have hH : H = Hp.set (fun x => if x = b then none else H x) b (.cells c e (0, 0)) := by
      funext x
      unfold Hp.set
      by_cases e : x = b
      · subst e; simp [hb]
      · simp [e]
    refine append_law (P := P) hu hs hz hzc hi hby hby0 (H₀ := fun x => if x = b then none else H x) (H := H) (n := n) (cs := cs) (.inr ⟨b, c, cap, hD, hH, rfl, hcs, hlen, hcap, hget⟩) (Hp.le_set hg) (m := 1) (by omega) (fun _ => hg) hcell hw (by omega) ty cb K E (fun v' H1 H2 hr hl => ?_)
    have hkeep : ∀ x u, x ≠ b → H x = some u → H2 x = some u := fun x u hn hx => hl _ _ (hr.le _ _ (by simp only [hn, if_false]; exact hx))
    rcases hr with ⟨_, hn0, _⟩ | ⟨b', c', cap', hb', rfl, rfl, hs', hl', hn', hg'⟩
    · simp at hn0
    · have hb2 : H2 b' = some (true, .cells c' e (0, 0)) := hl _ _ (by rw [get_set, if_pos rfl])
      have hb'0 : H₀ b' = none := by
        by_cases e : b' = b
        · rw [e]; exact hb0
        · simp only [e, if_false] at hb'; exact hlex.gone hb'
      refine h' _ H2 ⟨fun x u hx => ?_, .inr ⟨b', c', cap', hb'0, hb2, rfl, hs', hn', hl', hg'⟩⟩ (fun x u hx ho => hkeep x _ (fun e => ho (by rw [e]; rfl)) hx) (fun x hx => ?_)
      · obtain ⟨u', hu', e'⟩ := hlex x u hx
        exact ⟨u', hkeep x u' (fun e => by rw [e, hb0] at hx; cases hx) hu', e'⟩
      · simp only [rowB, Option.some.injEq] at hx
        subst hx
        by_cases e : b' = b
        · exact .inl (by rw [e]; rfl)
        · simp only [e, if_false] at hb'; exact .inr hb'
end Go.Proofs.YtofmadjgbcopdaaGreatDoor
end
section
set_option linter.unusedSimpArgs false
set_option maxRecDepth 100000
set_option maxHeartbeats 1000000
set_option linter.unusedVariables false
namespace Go.Proofs.YtofmadjgbcopdaaGreatDoor
open Go Go.X
set_option linter.defProp false
def y75_43 := And.intro @callF116 (And.intro (fun H => ex_alloc (H := H) (P := Tryz.prog) (h := Tryz.zeroValue145)) (And.intro (fun H => storeAt_agg (H := H) Tryz.sizeOf145) (And.intro (fun H => len_slice (H := H) Tryz.underlying22) (And.intro (fun H => indexAt_slice (H := H) Tryz.underlying22 Tryz.sizeOf3) (And.intro (fun H => loadAt_one (H := H) Tryz.underlying3 rfl) (And.intro (fun H => ex_alloc (H := H) (P := Tryz.prog) (h := Tryz.zeroValue61)) (And.intro (fun H => loadAt_aggE (H := H) Tryz.underlying145 rfl Tryz.sizeOf145) (And.intro @callF117 (And.intro (fun H => storeAt_agg (H := H) Tryz.sizeOf61) (And.intro (fun H => loadAt_aggE (H := H) Tryz.underlying61 rfl Tryz.sizeOf61) (fun H => buildSlice_agg1 (H := H) Tryz.underlying45 Tryz.sizeOf61 Tryz.zeroValue61 rfl (by decide) (by decide))))))))))))
theorem z0_43 {p q : Prop} (g : q) (h : Hid q → p := by
  intro g
  repeat' (first
  | (refine wpX_stmtL rfl ?_; intro Kz hKz; simp -implicitDefEqProofs (disch := first | omega | (simp only [qd] <;> omega)) only [xq, ↓xp, qc, Nat.reduceAdd, List.range, List.range.loop, fine, Nat.reduceEqDiff, ↓reduceIte, yielded, reduceCtorEq, Nat.reduceLT, Nat.reduceMul, Nat.reduceSub, one, Nat.reduceLeDiff, runX_cons, y75_43, aq, ↓ap, qe0, qe1, qe2, *, -g, -hKz, storL_at hne2 vbb5']; try (refine hKz _ _ ?_; clear hKz Kz))
  | (refine wpX_lastL rfl ?_; intro Kz hKz; simp -implicitDefEqProofs (disch := first | omega | (simp only [qd] <;> omega)) only [xq, ↓xp, qc, Nat.reduceAdd, List.range, List.range.loop, fine, Nat.reduceEqDiff, ↓reduceIte, yielded, reduceCtorEq, Nat.reduceLT, Nat.reduceMul, Nat.reduceSub, one, Nat.reduceLeDiff, runX_cons, y75_43, aq, ↓ap, qe0, qe1, qe2, *, -g, -hKz, storL_at hne2 vbb5']; try (refine hKz _ _ ?_; clear hKz Kz; (try simp only [nq, ↓reduceIte, Nat.reduceEqDiff])))
  | (refine wpX_skip ?_; (try simp only [nq, ↓reduceIte, Nat.reduceEqDiff]))
  | (refine wpX_label ?_; (try simp only [nq, ↓reduceIte, Nat.reduceEqDiff]))
  | (refine wpX_exit ?_; (try simp only [nq, ↓reduceIte, Nat.reduceEqDiff]))
  | (refine wpX_goto ?_; (try simp only [nq, ↓reduceIte, Nat.reduceEqDiff]))
  | (refine wpX_condK (by simp only [act_eval, upd_get, Nat.reduceEqDiff, Nat.reduceLT, ↓reduceIte, *, -g]; rfl) ?_ ?_ <;> (intro hcz; first | (exfalso; simp -implicitDefEqProofs (disch := omega) only [*, -g, bq, reduceCtorEq] at hcz; done) | (simp only [dq, qe3, qe4, qe5, qe6] at hcz) | skip))
  | (refine wpX_scope0 ?_)
  | (refine wpX_block ?_)
  | (refine wpX_seq ?_))
  (try (revert Kz; refine unK ?_)); (repeat (revert hcz; refine unC ?_))
  exact Hid.out g) : Hid p := ⟨h ⟨g⟩⟩
theorem x1_43 {p q : Prop} (g : q) (h : Hid q → p := by
  intro g
  simp -implicitDefEqProofs (disch := first | omega | (simp only [qd] <;> omega)) only [xq, ↓xp, qc, Nat.reduceAdd, List.range, List.range.loop, fine, Nat.reduceEqDiff, ↓reduceIte, yielded, reduceCtorEq, Nat.reduceLT, Nat.reduceMul, Nat.reduceSub, one, Nat.reduceLeDiff, runX_cons, y75_43, aq, ↓ap, qe0, qe1, qe2, *, -g, -hK, storL_at hne2 vbb5']
  exact Hid.out g) : Hid p := ⟨h ⟨g⟩⟩
def dS (n : HN) (js : List Int) (mi : Int) (pl : List Nat) : Nat → List Int × Nat × List RideV
  | 0 => (List.replicate 4 (-1048576), 0, [])
  | k + 1 =>
    let s := dS n js mi pl k
    let r := rideF n js s.1 s.2.1 (pl.getD k 0) mi
    (s.1.set (pickB s.1 n.barrows.toNat) r.back, s.2.1 + pl.getD k 0, s.2.2 ++ [r])
theorem dS_ok (n : HN) (js : List Int) (mi : Int) (pl : List Nat) (hx : ∀ x ∈ n.xs, 0 ≤ x ∧ x ≤ 99) (n0 : 0 ≤ n.notice) (b1 : 1 ≤ n.barrows) (b4 : n.barrows ≤ 4) (h1 : 1 ≤ mi) (h2 : mi ≤ 20) : ∀ k, k ≤ pl.length →
    (dS n js mi pl k).1.length = 4 ∧ (∀ x ∈ (dS n js mi pl k).1, -1048576 ≤ x ∧ x ≤ 100 + 20 * k) ∧ (dS n js mi pl k).2.1 = (pl.take k).sum ∧ (dS n js mi pl k).2.2.length = k
  | 0, _ => by simp [dS]
  | k + 1, hk => by
    obtain ⟨i1, i2, i3, i4⟩ := dS_ok n js mi pl hx n0 b1 b4 h1 h2 k (by omega)
    have hpl := pickB_lt (dS n js mi pl k).1 n.barrows.toNat (by omega)
    have hg : pl.getD k 0 = pl[k]'(by omega) := by simp [List.getD, List.getElem?_eq_getElem (show k < pl.length by omega)]
    have hB : -1048576 ≤ (dS n js mi pl k).1.getD (pickB (dS n js mi pl k).1 n.barrows.toNat) 0 ∧ (dS n js mi pl k).1.getD (pickB (dS n js mi pl k).1 n.barrows.toNat) 0 ≤ 100 + 20 * k := by
      simp [List.getD, List.getElem?_eq_getElem (show pickB (dS n js mi pl k).1 n.barrows.toNat < (dS n js mi pl k).1.length by omega)]
      exact i2 _ (List.getElem_mem _)
    have hdue : ∀ j, n.due js j ≤ 99 := fun j => by
      unfold HN.due
      by_cases hl : (js.getD j 0).toNat < n.xs.length
      · simp [List.getD, List.getElem?_eq_getElem (show (js[j]?.getD 0).toNat < n.xs.length by simpa [List.getD] using hl)]
        exact (hx _ (List.getElem_mem _)).2
      · simp [List.getD, List.getElem?_eq_none (show n.xs.length ≤ (js[j]?.getD 0).toNat by simpa [List.getD] using (by omega : n.xs.length ≤ (js.getD j 0).toNat))]
    refine ⟨by simp [dS, i1], fun x hx' => ?_, ?_, by simp [dS, i4]⟩
    · simp only [dS] at hx'
      rcases List.mem_or_eq_of_mem_set hx' with h | h
      · have := i2 x h; omega
      · subst h
        simp only [rideF]
        have := hdue ((dS n js mi pl k).2.1 + pl.getD k 0 - 1)
        rw [Int.max_def]
        split <;> omega
    · simp only [dS, i3, hg]
      rw [List.take_add_one, List.getElem?_eq_getElem (show k < pl.length by omega), List.sum_append]
      rfl
def rcells (rs : List RideV) : List Value := rs.flatMap fun r => [.int .i64 r.barrow, .int .i64 r.out, .int .i64 r.back]
theorem rcells_app (rs : List RideV) (r : RideV) : rcells (rs ++ [r]) = rcells rs ++ [.int .i64 r.barrow, .int .i64 r.out, .int .i64 r.back] := by simp [rcells]
theorem over_all {l vs : List Value} (h : vs.length = l.length) : over l.toArray 0 vs = vs.toArray := by
  rw [over_list _ _ _ (by omega), List.take_zero, List.nil_append, List.drop_of_length_le (by omega), List.append_nil]
theorem rowZ_keep {t : Option Nat} {H₀ H H' : Hp} {v : Value} {e : TypeId} {sz n : Nat} {cs : List Value} (h : RowZ (Lex t) H₀ H v e sz n cs) (hk : ∀ x, rowB v = some x → ∀ u, H x = some u → H' x = some u) (hl : Lex t H₀ H') : RowZ (Lex t) H₀ H' v e sz n cs := by
  refine ⟨hl, h.2.imp id ?_⟩
  rintro ⟨b, c, cap, h0, hb, rfl, h3⟩
  exact ⟨b, c, cap, h0, hk b rfl _ hb, rfl, h3⟩
theorem rowZ_at {t : Option Nat} {H₀ H : Hp} {v : Value} {e : TypeId} {sz n : Nat} {cs : List Value} (h : RowZ (Lex t) H₀ H v e sz n cs) {x : Nat} (hx : rowB v = some x) : H₀ x = none ∧ ∃ c, H x = some (true, .cells c e (0, 0)) := by
  rcases h.2 with ⟨rfl, _⟩ | ⟨b, c, cap, h0, hb, rfl, _⟩
  · cases hx
  · simp only [rowB, Option.some.injEq] at hx
    subst hx
    exact ⟨h0, _, hb⟩
theorem rowZ_len {t : Option Nat} {H₀ H : Hp} {v : Value} {e : TypeId} {sz n : Nat} {cs : List Value} (h : RowZ (Lex t) H₀ H v e sz n cs) : ∃ a cap, v = .slice a n cap := by
  rcases h.2 with ⟨rfl, rfl, _⟩ | ⟨b, c, cap, h0, hb, rfl, _⟩
  · exact ⟨_, _, rfl⟩
  · exact ⟨_, _, rfl⟩
theorem drive_spec (main : Md) (H : Hp) (hb : Nat) (n : HN) (v : HV) (jv : Value) (js : List Int) (hh : HaulAt H hb n v jv js) (pv : Value) (pl : List Nat) (hp : SlI H pv (pl.map fun m : Nat => (m : Int))) (hp1 : ∀ m ∈ pl, 1 ≤ m) (hps : pl.sum ≤ js.length) (hpl : pl.length ≤ 1000) (mi : Int) (hm1 : 1 ≤ mi) (hm2 : mi ≤ 20) :
    FnX Tryz.prog main 75 #[.pointer (some ⟨hb, 0, none⟩), pv, .int .i64 mi] H fun e H' => ∃ rv, e = .returned rv ∧ RowZ (Lex none) H H' rv 61 3 pl.length (rcells (dS n js mi pl pl.length).2.2) := by
  have hpS := hp
  obtain ⟨pa, pc, rfl, hpc, _⟩ := hp
  have hjl := hh.jl
  simp only [List.length_map] at hpc
  simp only [List.length_map]
  refine FnX_start Tryz.func75 rfl Tryz.ntmps75 (by simp) ?_
  (refine @Hid.out _ ?_; refine zA y75_43 ?_; (repeat (refine inC ?_; intro hc)); try (refine inK ?_; intro K hK))
  refine (resting_spec main H).runs.mono ?_
  rintro _ H1 ⟨rfl, lH1⟩
  have hr4 : ints (List.replicate 4 (-1048576)) = [.int .i64 (-1048576), .int .i64 (-1048576), .int .i64 (-1048576), .int .i64 (-1048576)] := rfl
  rw [hr4]
  ((try (refine @Hid.out _ ?_; refine zX y75_43 ?_)); (try (refine hK _ _ ?_; clear hK K; (try simp only [nq, ↓reduceIte, Nat.reduceEqDiff]))); refine @Hid.out _ ?_; refine zA y75_43 ?_; (repeat (refine inC ?_; intro hc)); try (refine inK ?_; intro K hK))
  (intro bb hbb; generalize hG : Hp.set _ bb _ = H2; have lH2 := le_of_set hG hbb; have vbb := at_of_set hG; clear hG)
  have hh2 := hh.le (Hp.le_trans lH1 lH2)
  have hp2 := hpS.le (Hp.le_trans lH1 lH2)
  have h0bb : H bb = none := Hp.le_none lH1 hbb
  ((try (refine @Hid.out _ ?_; refine zX y75_43 ?_)); (try (refine hK _ _ ?_; clear hK K; (try simp only [nq, ↓reduceIte, Nat.reduceEqDiff]))); refine @Hid.out _ ?_; refine zA y75_43 ?_; (repeat (refine inC ?_; intro hc)); try (refine inK ?_; intro K hK))
  have hdok := dS_ok n js mi pl hh.xb hh.n0 hh.b1 hh.b4 hm1 hm2
  have lx2 : Lex none H H2 := Lex.of (Hp.le_trans lH1 lH2)
  refine wpX_loop (fun w a' H' => ∃ e k rv, w = pl.length - k ∧ k ≤ pl.length ∧ a' = act 38 e [] ∧ e 0 = .pointer (some ⟨hb, 0, none⟩) ∧ e 2 = .int .i64 mi ∧ e 7 = rv ∧ e 8 = .pointer (some ⟨bb, 0, none⟩) ∧ e 9 = .int .i64 ((dS n js mi pl k).2.1 : Nat) ∧ e 14 = .slice pa pl.length pc ∧ e 15 = .int .i64 pl.length ∧ e 16 = .int .i64 (k : Nat) ∧
    RowZ (Lex none) H H' rv 61 3 k (rcells (dS n js mi pl k).2.2) ∧ H' bb = some (true, .cells (ints (dS n js mi pl k).1).toArray 145 (0, 0))) (n := pl.length) ?_ ?_
  · exact ⟨_, 0, .slice none 0 0, rfl, by omega, rfl, rfl, rfl, rfl, rfl, rfl, rfl, rfl, rfl, ⟨lx2, .inl ⟨rfl, rfl, rfl⟩⟩, vbb⟩
  · clear lx2 hh2 hp2 vbb lH1 lH2 hbb
    rintro w a' H3 ⟨e, k, rv, rfl, hk, rfl, e0, e2, e7, e8, e9, e14, e15, e16, hrow, vbb⟩
    have hh3 := hh.le hrow.1.toLe
    have hp3 := hpS.le hrow.1.toLe
    by_cases hlt : k < pl.length
    · obtain ⟨i1, i2, i3, i4⟩ := hdok k hk
      have hdef : dS n js mi pl (k + 1) = ((dS n js mi pl k).1.set (pickB (dS n js mi pl k).1 n.barrows.toNat) (rideF n js (dS n js mi pl k).1 (dS n js mi pl k).2.1 (pl.getD k 0) mi).back, (dS n js mi pl k).2.1 + pl.getD k 0, (dS n js mi pl k).2.2 ++ [rideF n js (dS n js mi pl k).1 (dS n js mi pl k).2.1 (pl.getD k 0) mi]) := rfl
      have hg : pl.getD k 0 = pl[k] := by simp [List.getD, List.getElem?_eq_getElem hlt]
      have hsum : (pl.take (k + 1)).sum ≤ pl.sum := by
        have h9 : pl.sum = (pl.take (k + 1)).sum + (pl.drop (k + 1)).sum := by rw [← List.sum_append, List.take_append_drop]
        omega
      rw [List.take_add_one, List.getElem?_eq_getElem hlt, List.sum_append] at hsum
      have hs1 : [pl[k]].sum = pl[k] := by simp
      have hsum' : (pl.take k).sum + pl[k] ≤ pl.sum := by rw [← hs1]; exact hsum
      have hmk := hp1 _ (List.getElem_mem hlt)
      obtain ⟨b, o, cap', p, c, fr, hve, _, hb', hx⟩ := hp3.cons (fun h => absurd (congrArg List.length h) (by simp only [List.length_nil, List.length_map]; omega))
      cases hve
      have hxk := hx k (pl[k] : Nat) (by rw [List.getElem?_map, List.getElem?_eq_getElem hlt]; rfl)
      rw [hg] at hdef
      generalize pl[k] = mk at hdef hsum' hmk hxk
      generalize hD1 : dS n js mi pl (k + 1) = D1 at hdef
      generalize dS n js mi pl k = D at hdef e9 hrow vbb i1 i2 i3 i4
      obtain ⟨bs, f, rs⟩ := D
      simp only [] at hdef e9 hrow vbb i1 i2 i3 i4
      replace i3 : f ≤ (pl.take k).sum ∧ (pl.take k).sum ≤ f := by omega
      clear hsum hs1 hg hx
      have hli : (ints bs).length = 4 := by rw [ints_len]; exact i1
      have htk4 : (ints bs).take 4 = ints bs := List.take_of_length_le (by omega)
      (refine @Hid.out _ ?_; refine zA y75_43 ?_; (repeat (refine inC ?_; intro hc)); try (refine inK ?_; intro K hK))
      (intro cb hcb; generalize hG : Hp.set _ cb _ = H4; have lH4 := le_of_set hG hcb; have vcb := at_of_set hG; clear hG)
      have vbb4 := lH4 _ _ vbb
      have hh4 := hh3.le lH4
      have ncb : cb ≠ bb := (ne_new vbb hcb).symm
      have ncb' := ncb.symm
      have hrow4 := rowZ_keep hrow (fun x _ u hu => lH4 _ _ hu) (hrow.1.le lH4)
      have ncr : rowB rv ≠ some cb := fun h9 => by obtain ⟨_, c9, h9'⟩ := rowZ_at hrow h9; rw [hcb] at h9'; cases h9'
      have nbr : rowB rv ≠ some bb := fun h9 => by obtain ⟨_, c9, h9'⟩ := rowZ_at hrow h9; rw [vbb] at h9'; cases h9'
      have h0cb : H cb = none := hrow.1.gone hcb
      clear hh3 hp3 hb' hxk vbb hrow hcb
      ((try (refine @Hid.out _ ?_; refine zX y75_43 ?_)); (try (refine hK _ _ ?_; clear hK K; (try simp only [nq, ↓reduceIte, Nat.reduceEqDiff]))); refine @Hid.out _ ?_; refine zA y75_43 ?_; (repeat (refine inC ?_; intro hc)); try (refine inK ?_; intro K hK))
      refine (ride_spec main H4 hb n v jv js hh4 bs i1 (fun x hx => by have := i2 x hx; omega) f mk hmk (by omega) mi hm1 hm2).runs.mono ?_
      rintro _ H5 ⟨rfl, lH5⟩
      generalize hR : rideF n js bs f mk mi = R at *
      have hbl : (bs.set (pickB bs n.barrows.toNat) R.back).length = 4 := by rw [List.length_set]; exact i1
      generalize bs.set (pickB bs n.barrows.toNat) R.back = bs2 at *
      have vcb5 := lH5 _ _ vcb
      have vbb5 := lH5 _ _ vbb4
      have hrow5 := rowZ_keep hrow4 (fun x _ u hu => lH5 _ _ hu) (hrow4.1.le lH5)
      clear vcb vbb4 hrow4 hh4 hR lH5 lH4
      have hli2 : (ints bs2).length = 4 := by rw [ints_len]; exact hbl
      have hne2 : ints bs2 ≠ [] := fun h => by rw [h] at hli2; cases hli2
      have hone : (ints bs2).all one = true := List.all_eq_true.2 (ints_one _)
      have hov : over (ints bs).toArray 0 (ints bs2) = (ints bs2).toArray := over_all (by rw [hli, hli2])
      have vbb5' : (H5.set cb (.cells #[.int .i64 R.barrow, .int .i64 R.out, .int .i64 R.back] 61 (0, 0))) bb = _ := (set_ne ncb').trans vbb5
      simp only [RideV.agg]
      ((try (refine @Hid.out _ ?_; refine x1_43 ?_)); (try (refine hK _ _ ?_; clear hK K; (try simp only [nq, ↓reduceIte, Nat.reduceEqDiff]))); refine @Hid.out _ ?_; refine z0_43 ?_; (repeat (refine inC ?_; intro hc)); try (refine inK ?_; intro K hK))
      intro g hg
      replace hg : ((H5.set cb (.cells #[.int .i64 R.barrow, .int .i64 R.out, .int .i64 R.back] 61 (0, 0))).set bb (.cells (ints bs2).toArray 145 (0, 0))) g = none := hg
      have vbb6 : ((H5.set cb (.cells #[.int .i64 R.barrow, .int .i64 R.out, .int .i64 R.back] 61 (0, 0))).set bb (.cells (ints bs2).toArray 145 (0, 0))) bb = some (true, .cells (ints bs2).toArray 145 (0, 0)) := set_at
      have lx6 : Lex none H ((H5.set cb (.cells #[.int .i64 R.barrow, .int .i64 R.out, .int .i64 R.back] 61 (0, 0))).set bb (.cells (ints bs2).toArray 145 (0, 0))) := (hrow5.1.own h0cb).own h0bb
      have hrow6 := rowZ_keep hrow5 (fun x hx u hu => by rw [set_ne (fun h9 => nbr (by rw [← h9]; exact hx)), set_ne (fun h9 => ncr (by rw [← h9]; exact hx))]; exact hu) lx6
      generalize (H5.set cb (.cells #[.int .i64 R.barrow, .int .i64 R.out, .int .i64 R.back] 61 (0, 0))).set bb (.cells (ints bs2).toArray 145 (0, 0)) = H6 at *
      refine append_rowZ Tryz.underlying45 Tryz.sizeOf61 Tryz.zeroValue61 rfl Tryz.typeInfo61 (by decide) (by decide) hrow6 (ws := [.int .i64 R.barrow, .int .i64 R.out, .int .i64 R.back]) rfl hg (by simp [one]) (by omega) _ _ _ _ (fun rv' H7 hrow7 hkeep hnew => ?_)
      have vbb7 := hkeep bb _ vbb6 nbr
      rw [← rcells_app] at hrow7
      clear hrow6 hrow5 lx6 vbb6 hkeep hnew hov hone hne2 vbb5' vbb5 vcb5
      ((try (refine @Hid.out _ ?_; refine zX y75_43 ?_)); (try (refine hK _ _ ?_; clear hK K; (try simp only [nq, ↓reduceIte, Nat.reduceEqDiff]))); refine @Hid.out _ ?_; refine zA y75_43 ?_; (repeat (refine inC ?_; intro hc)); try (refine inK ?_; intro K hK))
      refine ⟨_, by omega, _, k + 1, rv', rfl, hlt, rfl, e0, e2, rfl, e8, ?_, e14, e15, rfl, ?_, ?_⟩
      · rw [hD1, hdef]; rfl
      · rw [hD1, hdef]; exact hrow7
      · rw [hD1, hdef]; exact vbb7
    · obtain rfl : k = pl.length := by omega
      (refine @Hid.out _ ?_; refine zA y75_43 ?_; (repeat (refine inC ?_; intro hc)); try (refine inK ?_; intro K hK))
      (refine @Hid.out _ ?_; refine z9 Tryz.results75 ?_)
      exact ⟨rv, rfl, hrow⟩
end Go.Proofs.YtofmadjgbcopdaaGreatDoor
end
section
set_option linter.unusedSimpArgs false
set_option maxRecDepth 100000
set_option maxHeartbeats 1000000
set_option linter.unusedVariables false
namespace Go.Proofs.YtofmadjgbcopdaaGreatDoor
open Go Go.X
set_option linter.defProp false
def y100_44 := And.intro @callF75 (And.intro (fun H => len_slice (H := H) Tryz.underlying45) (And.intro (fun H => indexAt_slice (H := H) Tryz.underlying45 Tryz.sizeOf61) (And.intro (fun H => loadAt_aggE (H := H) Tryz.underlying61 rfl Tryz.sizeOf61) (And.intro (fun H => ex_alloc (H := H) (P := Tryz.prog) (h := Tryz.zeroValue61)) (And.intro (fun H => storeAt_agg (H := H) Tryz.sizeOf61) (And.intro (fun H => indexAt_slice (H := H) Tryz.underlying22 Tryz.sizeOf3) (And.intro (fun H => loadAt_one (H := H) Tryz.underlying3 rfl) (And.intro @callF119 (And.intro (fun H st => assert_ok (H := H) (st := st) Tryz.underlying199 rfl Tryz.zeroValue199) (fun H st => assert_ok (H := H) (st := st) Tryz.underlying200 rfl Tryz.zeroValue200))))))))))
def y119_44 := And.intro (fun H => fieldAt_eq (H := H) Tryz.underlying61 (i := 2) rfl (off := 2) rfl Tryz.sizeOf3) (And.intro (fun H => loadAt_one (H := H) Tryz.underlying3 rfl) (And.intro (fun H => fieldAt_eq (H := H) Tryz.underlying85 (i := 0) rfl (off := 0) rfl Tryz.sizeOf29) (And.intro (fun H => fieldAt_eq (H := H) Tryz.underlying29 (i := 3) rfl (off := 6) rfl Tryz.sizeOf22) (And.intro (fun H => loadAt_one (H := H) Tryz.underlying22 rfl) (And.intro (fun H => fieldAt_eq (H := H) Tryz.underlying85 (i := 1) rfl (off := 12) rfl Tryz.sizeOf22) (And.intro (fun H => indexAt_slice (H := H) Tryz.underlying22 Tryz.sizeOf3) (And.intro (fun H => makeI (H := H) Tryz.underlying199 rfl) (And.intro @bld_200__0 (fun H => makeI (H := H) Tryz.underlying200 rfl)))))))))
def outV (late : Int) : Value := if 0 < late then .iface 199 (.int .i64 late) else .iface 200 (.agg #[])
theorem HaulAt.due_at {H : Hp} {hb : Nat} {n : HN} {v : HV} {jv : Value} {js : List Int} (hh : HaulAt H hb n v jv js) {k : Nat} (hk : k < js.length) : ∃ (jb jo jc : Nat) (jp : Bool) (jcs : Array Value) (jfr : Nat × Nat) (xb xo xc : Nat) (xpp : Bool) (xcs : Array Value) (xfr : Nat × Nat),
    jv = .slice (some ⟨jb, jo, none⟩) js.length jc ∧ H jb = some (jp, .cells jcs 3 jfr) ∧ jcs[jo + k]? = some (.int .i64 (js.getD k 0)) ∧ v.xv = .slice (some ⟨xb, xo, none⟩) n.xs.length xc ∧ H xb = some (xpp, .cells xcs 3 xfr) ∧ xcs[xo + (js.getD k 0).toNat]? = some (.int .i64 (n.due js k)) ∧
    0 ≤ js.getD k 0 ∧ js.getD k 0 < n.xs.length ∧ 0 ≤ n.due js k ∧ n.due js k ≤ 99 := by
  have hjk : js.getD k 0 = js[k] := by simp [List.getD, List.getElem?_eq_getElem hk]
  have hjr := hh.jb _ (List.getElem_mem hk)
  rw [← hjk] at hjr
  have hdue : n.due js k = n.xs[(js.getD k 0).toNat]'(by omega) := by simp [HN.due, List.getD, List.getElem?_eq_getElem (show (js[k]?.getD 0).toNat < n.xs.length by simpa [List.getD] using (by omega : (js.getD k 0).toNat < n.xs.length))]
  have hxr := hh.xb _ (List.getElem_mem (show (js.getD k 0).toNat < n.xs.length by omega))
  rw [← hdue] at hxr
  obtain ⟨jb, jo, jc, jp, jcs, jfr, hje, _, vjb, hjx⟩ := hh.j.cons (fun h => absurd (congrArg List.length h) (by simp only [List.length_nil]; omega))
  obtain ⟨xb, xo, xc, xpp, xcs, xfr, hxe, _, vxb, hxx⟩ := hh.x.cons (fun h => absurd (congrArg List.length h) (by simp only [List.length_nil]; omega))
  exact ⟨jb, jo, jc, jp, jcs, jfr, xb, xo, xc, xpp, xcs, xfr, hje, vjb, by rw [hjk]; exact hjx _ _ (List.getElem?_eq_getElem _), hxe, vxb, by rw [hdue]; exact hxx _ _ (List.getElem?_eq_getElem _), hjr.1, hjr.2, hxr.1, hxr.2⟩
theorem outcome_spec (main : Md) (H : Hp) (hb : Nat) (n : HN) (v : HV) (jv : Value) (js : List Int) (hh : HaulAt H hb n v jv js) (k : Nat) (hk : k < js.length) (r : RideV) (hr : -10000000 ≤ r.back ∧ r.back ≤ 10000000) :
    FnX Tryz.prog main 119 #[.pointer (some ⟨hb, 0, none⟩), .int .i64 k, r.agg] H fun e H' => e = .returned (outV (r.back - n.due js k)) ∧ H.le H' := by
  obtain ⟨jb, jo, jc, jp, jcs, jfr, xb, xo, xc, xpp, xcs, xfr, rfl, vjb, hj1, hxe, vxb, hx1, j0, j1, d0, d99⟩ := hh.due_at hk
  obtain ⟨sv, cv, tv, xv⟩ := v
  simp only [] at hxe
  subst hxe
  obtain ⟨hoq, hho⟩ := hh.o
  simp only [HN.obj] at hho
  simp only [RideV.agg]
  refine FnX_start Tryz.func119 rfl Tryz.ntmps119 (by simp) ?_
  generalize n.due js k = due at *
  generalize js.getD k 0 = jk at *
  obtain ⟨rb, ro, rk⟩ := r
  simp only [] at hr ⊢
  (refine @Hid.out _ ?_; refine zA y119_44 ?_; (repeat (refine inC ?_; intro hc)); try (refine inK ?_; intro K hK))
  (intro b1 hb1; generalize hG : Hp.set _ b1 _ = H1; have lH1 := le_of_set hG hb1; have vb1 := at_of_set hG; clear hG)
  have vhb1 := lH1 _ _ hho
  have vjb1 := lH1 _ _ vjb
  have vxb1 := lH1 _ _ vxb
  clear hho vjb vxb
  ((try (refine @Hid.out _ ?_; refine zX y119_44 ?_)); (try (refine hK _ _ ?_; clear hK K; (try simp only [nq, ↓reduceIte, Nat.reduceEqDiff]))); refine @Hid.out _ ?_; refine zA y119_44 ?_; (repeat (refine inC ?_; intro hc)); try (refine inK ?_; intro K hK))
  (refine wpX_dst1 18 [(true, 0), (true, 1), (true, 2), (true, 3), (true, 4), (true, 5), (true, 6), (true, 7), (true, 8), (true, 9), (true, 10), (true, 11), (true, 12), (true, 13), (true, 14), (true, 15), (true, 16), (true, 17)] (by kernel_rfl) (by kernel_rfl) (by simp) (by kernel_rfl) ?_; intro K hK; (iterate 18 (refine @Hid.out _ ?_; refine z3 y119_44 ?_)); refine plan_nil (hK _ _ ?_); clear hK K; (try simp only [nq, ↓reduceIte, Nat.reduceEqDiff]))
  repeat' (first
  | (refine wpX_stmtL rfl ?_; intro K hK; simp -implicitDefEqProofs (disch := first | omega | (simp only [qd] <;> omega)) only [xq, ↓xp, qc, Nat.reduceAdd, List.range, List.range.loop, fine, Nat.reduceEqDiff, ↓reduceIte, yielded, reduceCtorEq, Nat.reduceLT, Nat.reduceMul, Nat.reduceSub, one, Nat.reduceLeDiff, runX_cons, y119_44, aq, ↓ap, qe0, qe1, qe2, *, -hK]; try (refine hK _ _ ?_; clear hK K))
  | (refine wpX_lastL rfl ?_; intro K hK; simp -implicitDefEqProofs (disch := first | omega | (simp only [qd] <;> omega)) only [xq, ↓xp, qc, Nat.reduceAdd, List.range, List.range.loop, fine, Nat.reduceEqDiff, ↓reduceIte, yielded, reduceCtorEq, Nat.reduceLT, Nat.reduceMul, Nat.reduceSub, one, Nat.reduceLeDiff, runX_cons, y119_44, aq, ↓ap, qe0, qe1, qe2, *, -hK]; try (refine hK _ _ ?_; clear hK K; (try simp only [nq, ↓reduceIte, Nat.reduceEqDiff])))
  | (refine wpX_skip ?_; (try simp only [nq, ↓reduceIte, Nat.reduceEqDiff]))
  | (refine wpX_label ?_; (try simp only [nq, ↓reduceIte, Nat.reduceEqDiff]))
  | (refine wpX_exit ?_; (try simp only [nq, ↓reduceIte, Nat.reduceEqDiff]))
  | (refine wpX_goto ?_; (try simp only [nq, ↓reduceIte, Nat.reduceEqDiff]))
  | (refine wpX_condK (by simp only [act_eval, upd_get, Nat.reduceEqDiff, Nat.reduceLT, ↓reduceIte, *]; rfl) ?_ ?_ <;> (intro hc; first | (exfalso; simp -implicitDefEqProofs (disch := omega) only [*, bq, reduceCtorEq] at hc; done) | (simp only [dq, qe3, qe4, qe5, qe6] at hc) | skip))
  | (refine wpX_scope0 ?_)
  | (refine wpX_block ?_)
  | (refine wpX_seq ?_))
  · (refine @Hid.out _ ?_; refine z9 Tryz.results119 ?_)
    exact ⟨by rw [outV, if_pos hc], lH1⟩
  · (refine @Hid.out _ ?_; refine z9 Tryz.results119 ?_)
    exact ⟨by rw [outV, if_neg (by omega)], lH1⟩
theorem rcells_get : ∀ (rs : List RideV) (i : Nat) (r : RideV), rs[i]? = some r → (rcells rs)[i * 3]? = some (.int .i64 r.barrow) ∧ (rcells rs)[i * 3 + 1]? = some (.int .i64 r.out) ∧ (rcells rs)[i * 3 + 2]? = some (.int .i64 r.back)
  | [], i, r, h => by simp at h
  | q :: rs, 0, r, h => by
    simp at h
    subst h
    simp [rcells]
  | q :: rs, i + 1, r, h => by
    obtain ⟨h1, h2, h3⟩ := rcells_get rs i r (by simpa using h)
    have e : rcells (q :: rs) = [.int .i64 q.barrow, .int .i64 q.out, .int .i64 q.back] ++ rcells rs := rfl
    rw [e]
    refine ⟨?_, ?_, ?_⟩
    · rw [List.getElem?_append_right (by simp; omega)]
      simpa [show (i + 1) * 3 - 3 = i * 3 by omega] using h1
    · rw [List.getElem?_append_right (by simp; omega)]
      simpa [show (i + 1) * 3 + 1 - 3 = i * 3 + 1 by omega] using h2
    · rw [List.getElem?_append_right (by simp; omega)]
      simpa [show (i + 1) * 3 + 2 - 3 = i * 3 + 2 by omega] using h3
theorem extract3 {c : Array Value} {k : Nat} {x y z : Value} (h1 : c[k]? = some x) (h2 : c[k + 1]? = some y) (h3 : c[k + 2]? = some z) : c.extract k (k + 3) = #[x, y, z] := by
  have hk : k + 2 < c.size := (Array.getElem?_eq_some_iff.1 h3).1
  apply Array.ext_getElem?
  intro i
  rw [Array.getElem?_extract]
  rcases i with _ | _ | _ | i
  · simp; exact ⟨by omega, by simpa using h1⟩
  · simp; exact ⟨by omega, by simpa using h2⟩
  · simp; exact ⟨by omega, by simpa using h3⟩
  · simp; intro h; omega
def fineP (n : HN) (js : List Int) (mi : Int) (pl : List Nat) : Prop := ∀ i r, (dS n js mi pl pl.length).2.2[i]? = some r → ∀ j, j < pl.getD i 0 → r.back - n.due js ((pl.take i).sum + j) ≤ 0
theorem fine_spec (main : Md) (H : Hp) (hb : Nat) (n : HN) (v : HV) (jv : Value) (js : List Int) (hh : HaulAt H hb n v jv js) (pv : Value) (pl : List Nat) (hp : SlI H pv (pl.map fun m : Nat => (m : Int))) (hp1 : ∀ m ∈ pl, 1 ≤ m) (hps : pl.sum ≤ js.length) (hpl : pl.length ≤ 1000) (mi : Int) (hm1 : 1 ≤ mi) (hm2 : mi ≤ 20)
    (hbk : ∀ r ∈ (dS n js mi pl pl.length).2.2, -10000000 ≤ r.back ∧ r.back ≤ 10000000) :
    FnX Tryz.prog main 100 #[.pointer (some ⟨hb, 0, none⟩), pv, .int .i64 mi] H fun e H' => ∃ b, e = .returned (.bool b) ∧ (b = true ↔ fineP n js mi pl) ∧ H.le H' := by
  have hpS := hp
  obtain ⟨pa, pc, rfl, hpc, _⟩ := hp
  have hjl := hh.jl
  have hdok := dS_ok n js mi pl hh.xb hh.n0 hh.b1 hh.b4 hm1 hm2 pl.length (Nat.le_refl _)
  simp only [List.length_map] at hpc
  simp only [List.length_map]
  have hdr := drive_spec main H hb n v jv js hh _ pl hpS hp1 hps hpl mi hm1 hm2
  simp only [List.length_map] at hdr
  have hlen := hdok.2.2.2
  generalize hRS : (dS n js mi pl pl.length).2.2 = rs at hbk hdr hlen
  unfold fineP
  rw [hRS]
  clear hRS hdok
  refine FnX_start Tryz.func100 rfl Tryz.ntmps100 (by simp) ?_
  (refine @Hid.out _ ?_; refine zA y100_44 ?_; (repeat (refine inC ?_; intro hc)); try (refine inK ?_; intro K hK))
  refine hdr.runs.mono ?_
  rintro _ H1 ⟨rv, rfl, hrow⟩
  have hh1 := hh.le hrow.1.toLe
  have hp1' := hpS.le hrow.1.toLe
  obtain ⟨ra, rc, rfl⟩ := rowZ_len hrow
  ((try (refine @Hid.out _ ?_; refine zX y100_44 ?_)); (try (refine hK _ _ ?_; clear hK K; (try simp only [nq, ↓reduceIte, Nat.reduceEqDiff]))); refine @Hid.out _ ?_; refine zA y100_44 ?_; (repeat (refine inC ?_; intro hc)); try (refine inK ?_; intro K hK))
  refine wpX_loop (fun w a' H' => ∃ e i, w = pl.length - i ∧ i ≤ pl.length ∧ (∀ i' r, i' < i → rs[i']? = some r → ∀ j, j < pl.getD i' 0 → r.back - n.due js ((pl.take i').sum + j) ≤ 0) ∧ a' = act 40 e [] ∧ e 0 = .pointer (some ⟨hb, 0, none⟩) ∧ e 1 = .slice pa pl.length pc ∧ e 7 = .int .i64 ((pl.take i).sum : Nat) ∧ e 13 = .slice ra pl.length rc ∧ e 14 = .int .i64 pl.length ∧ e 15 = .int .i64 (i : Nat) ∧ H1.le H') (n := pl.length) ?_ ?_
  · exact ⟨_, 0, rfl, by omega, fun i' r h => by omega, rfl, rfl, rfl, rfl, rfl, rfl, rfl, Hp.le_refl _⟩
  · rintro w a' H2 ⟨e, i, rfl, hi, hdone, rfl, e0, e1, e7, e13, e14, e15, lH2⟩
    by_cases hlt : i < pl.length
    · have hlr : i < rs.length := by omega
      have hri : rs[i]? = some rs[i] := List.getElem?_eq_getElem hlr
      have hrb := hbk _ (List.getElem_mem hlr)
      generalize rs[i] = r at hri hrb
      obtain ⟨g1, g2, g3⟩ := rcells_get rs i r hri
      have hh2 := hh1.le lH2
      have hp2 := hp1'.le lH2
      have hrow2 := hrow.2
      rcases hrow2 with ⟨h9, h8, _⟩ | ⟨b, c, cap, _, vb, hve, hcs, hcap, hcl, hget⟩
      · omega
      · cases hve
        have vb2 := lH2 _ _ vb
        have hex := extract3 (hget _ _ g1) (hget _ _ g2) (hget _ _ g3)
        have hsz : i * 3 + 3 ≤ c.size := by omega
        obtain ⟨b3, o3, cap3, p3, c3, fr3, hve, _, vb3, hx⟩ := hp2.cons (fun h => absurd (congrArg List.length h) (by simp only [List.length_nil, List.length_map]; omega))
        cases hve
        have hxi := hx i (pl[i] : Nat) (by rw [List.getElem?_map, List.getElem?_eq_getElem hlt]; rfl)
        have hg : pl.getD i 0 = pl[i] := by simp [List.getD, List.getElem?_eq_getElem hlt]
        have hsum : (pl.take (i + 1)).sum ≤ pl.sum := by
          have h9 : pl.sum = (pl.take (i + 1)).sum + (pl.drop (i + 1)).sum := by rw [← List.sum_append, List.take_append_drop]
          omega
        have hs2 : (pl.take (i + 1)).sum = (pl.take i).sum + pl[i] := by
          rw [List.take_add_one, List.getElem?_eq_getElem hlt, List.sum_append]
          simp
        rw [← hg] at hxi hs2
        generalize hsi1 : (pl.take (i + 1)).sum = S1 at hsum hs2
        generalize hsi : (pl.take i).sum = S0 at hs2 e7
        generalize hpi : pl.getD i 0 = mi' at hxi hs2
        clear hx hg g1 g2 g3 hget hcs hcl hp2 vb
        replace hs2 : S1 ≤ S0 + mi' ∧ S0 + mi' ≤ S1 := by omega
        have hi3 : 0 + i * 3 = i * 3 := by omega
        (refine @Hid.out _ ?_; refine zA y100_44 ?_; (repeat (refine inC ?_; intro hc)); try (refine inK ?_; intro K hK))
        (intro cb hcb; generalize hG : Hp.set _ cb _ = H3; have lH3 := le_of_set hG hcb; have vcb := at_of_set hG; clear hG)
        have vb33 := lH3 _ _ vb3
        have hh3 := hh2.le lH3
        clear vb3 vb2 hh2
        ((try (refine @Hid.out _ ?_; refine zX y100_44 ?_)); (try (refine hK _ _ ?_; clear hK K; (try simp only [nq, ↓reduceIte, Nat.reduceEqDiff]))); refine @Hid.out _ ?_; refine zA y100_44 ?_; (repeat (refine inC ?_; intro hc)); try (refine inK ?_; intro K hK))
        refine wpX_loop (fun w a' H' => ∃ e j, w = mi' - j ∧ j ≤ mi' ∧ (∀ j', j' < j → r.back - n.due js (S0 + j') ≤ 0) ∧ a' = act 40 e [] ∧ e 0 = .pointer (some ⟨hb, 0, none⟩) ∧ e 1 = .slice (some ⟨b3, o3, none⟩) pl.length pc ∧ e 7 = .int .i64 ((S0 + j : Nat) : Int) ∧ e 9 = .pointer (some ⟨cb, 0, none⟩) ∧ e 13 = .slice (some ⟨b, 0, none⟩) pl.length rc ∧ e 14 = .int .i64 pl.length ∧ e 15 = .int .i64 (i : Nat) ∧ e 23 = .int .i64 (mi' : Nat) ∧ e 24 = .int .i64 (j : Nat) ∧ H3.le H') (n := mi') ?_ ?_
        · exact ⟨_, 0, rfl, by omega, fun j' h => by omega, rfl, e0, e1, e7, rfl, e13, e14, e15, rfl, rfl, Hp.le_refl _⟩
        · clear e0 e1 e7 e13 e14 e15
          rename_i eold
          clear eold
          rintro w a' H4 ⟨e, j, rfl, hj, hjd, rfl, e0, e1, e7, e9, e13, e14, e15, e23, e24, lH4⟩
          have vcb4 := lH4 _ _ vcb
          have hh4 := hh3.le lH4
          by_cases hltj : j < mi'
          · (refine @Hid.out _ ?_; refine zA y100_44 ?_; (repeat (refine inC ?_; intro hc)); try (refine inK ?_; intro K hK))
            refine (outcome_spec main H4 hb n v jv js hh4 (S0 + j) (by omega) r hrb).runs.mono ?_
            rintro _ H5 ⟨rfl, lH5⟩
            by_cases hlate : 0 < r.back - n.due js (S0 + j)
            · rw [show outV (r.back - n.due js (S0 + j)) = .iface 199 (.int .i64 (r.back - n.due js (S0 + j))) from if_pos hlate]
              ((try (refine @Hid.out _ ?_; refine zX y100_44 ?_)); (try (refine hK _ _ ?_; clear hK K; (try simp only [nq, ↓reduceIte, Nat.reduceEqDiff]))); refine @Hid.out _ ?_; refine zA y100_44 ?_; (repeat (refine inC ?_; intro hc)); try (refine inK ?_; intro K hK))
              (refine @Hid.out _ ?_; refine z9 Tryz.results100 ?_)
              refine ⟨false, rfl, ⟨(fun h => by cases h), fun h => absurd (h i r hri j (by rw [hpi]; exact hltj)) (by rw [hsi]; omega)⟩, ?_⟩
              exact Hp.le_trans hrow.1.toLe (Hp.le_trans lH2 (Hp.le_trans lH3 (Hp.le_trans lH4 lH5)))
            · rw [show outV (r.back - n.due js (S0 + j)) = .iface 200 (.agg #[]) from if_neg hlate]
              ((try (refine @Hid.out _ ?_; refine zX y100_44 ?_)); (try (refine hK _ _ ?_; clear hK K; (try simp only [nq, ↓reduceIte, Nat.reduceEqDiff]))); refine @Hid.out _ ?_; refine zA y100_44 ?_; (repeat (refine inC ?_; intro hc)); try (refine inK ?_; intro K hK))
              refine ⟨_, by omega, _, j + 1, rfl, hltj, ?_, rfl, e0, e1, ?_, e9, e13, e14, e15, e23, rfl, Hp.le_trans lH4 lH5⟩
              · intro j' hj'
                by_cases he : j' = j
                · subst he; omega
                · exact hjd j' (by omega)
              · show Value.int .i64 _ = Value.int .i64 _
                congr 1
          · obtain rfl : j = mi' := by omega
            (refine @Hid.out _ ?_; refine zA y100_44 ?_; (repeat (refine inC ?_; intro hc)); try (refine inK ?_; intro K hK))
            refine ⟨_, by omega, _, i + 1, rfl, hlt, ?_, rfl, e0, e1, ?_, e13, e14, rfl, Hp.le_trans lH2 (Hp.le_trans lH3 lH4)⟩
            · intro i' r' hi' hr' j' hj'
              by_cases he : i' = i
              · subst he
                rw [hri] at hr'
                cases hr'
                rw [hsi]
                exact hjd j' (by rw [← hpi]; exact hj')
              · exact hdone i' r' (by omega) hr' j' hj'
            · rw [hsi1]
              show _ = Value.int .i64 _
              rw [show S1 = S0 + j by omega]
              exact e7
    · obtain rfl : i = pl.length := by omega
      (refine @Hid.out _ ?_; refine zA y100_44 ?_; (repeat (refine inC ?_; intro hc)); try (refine inK ?_; intro K hK))
      (refine @Hid.out _ ?_; refine z9 Tryz.results100 ?_)
      exact ⟨true, rfl, ⟨fun _ i r hr j hj => hdone i r (by have := (List.getElem?_eq_some_iff.1 hr).1; omega) hr j hj, fun _ => rfl⟩, Hp.le_trans hrow.1.toLe lH2⟩
end Go.Proofs.YtofmadjgbcopdaaGreatDoor
end
section
set_option linter.unusedSimpArgs false
set_option linter.unusedVariables false
set_option maxRecDepth 100000
namespace Go.X
open Go
open Go.Conc (G base)
section
variable {P : Program} {main : Md} {Q : Exit → Act → Hp → Prop} {a : Act} {H : Hp}
def yieldK (q : Option (Bool × Obj)) (l : Nat) (args : Array Value) (H : Hp) (K : Next → Hp → Prop) : Prop := match q with
  | some (_, .loop r) => args.size = r.params.size ∧ K (.round l r.fn ((r.params.zip args).foldl (fun tmps (x : Tmp × Value) => tmps.setIfInBounds x.1 x.2) r.tmps) r.assign r.body) H
  | _ => False
theorem yieldK_some {p : Bool} {r : Loop} {l : Nat} {args : Array Value} {K : Next → Hp → Prop} : yieldK (some (p, .loop r)) l args H K = (args.size = r.params.size ∧ K (.round l r.fn ((r.params.zip args).foldl (fun tmps (x : Tmp × Value) => tmps.setIfInBounds x.1 x.2) r.tmps) r.assign r.body) H) := rfl
theorem wpS_yield {l : Nat} {args : Array Value} {K : Next → Hp → Prop} {E : Value → Hp → Prop} (h : yieldK (H l) l args H K) : wpS P (Instr.yield l args) H K E := by
  unfold yieldK at h
  split at h
  · rename_i p r hl
    unfold Instr.yield Instr.getLoop
    rw [wpS_bind', wpS_bind']
    refine ⟨p, _, hl, rfl, rfl, ?_⟩
    rw [wpS_purec]
    simp only [wpS_pure, ne_eq, h.1, not_true, if_false]
    exact h.2
  · exact h.elim
theorem callK_yield {l : Nat} {args : Array Value} {K : Next → Hp → Prop} {E : Value → Hp → Prop} (h : yieldK (H l) l args H K) : callK P (.func (.yield l) #[] #[]) args H K E := by
  unfold callK
  rw [wpS_bind']
  simp only [Deferred.ofValue, wpS_pure, invoke, Array.empty_append]
  exact wpS_yield h
def rnd (l : Nat) (R : Ending → Hp → Prop) : Exit → Act → Hp → Prop
  | .normal, a, H => a.defers = [] ∧ ∃ r, H l = some (true, .loop r) ∧ R (.returned (.bool true)) (H.set l (.loop { r with state := .ready, pending := none }))
  | .exit id, a, H => a.defers = [] ∧ ∃ r, H l = some (true, .loop r) ∧ R (.returned (.bool false)) (H.set l (.loop { r with state := .done, pending := some (.exit id) }))
  | .ret, a, H => a.defers = [] ∧ ∃ r, H l = some (true, .loop r) ∧ R (.returned (.bool false)) (H.set l (.loop { r with state := .done, pending := some .ret }))
  | _, _, _ => False
theorem wpS_endRound {l : Nat} {r : Loop} (h : H l = some (true, .loop r)) (jump : Option Code) (K : Value → Hp → Prop) (E : Value → Hp → Prop) (hk : K (.bool jump.isNone) (H.set l (.loop { r with state := if jump.isNone then .ready else .done, pending := jump }))) :
    wpS P (Instr.endRound l jump) H K E := by
  unfold Instr.endRound Instr.getLoop
  rw [wpS_bind', wpS_bind']
  refine ⟨true, _, h, rfl, rfl, ?_⟩
  rw [wpS_purec]
  simp only [wpS_pure, wpS_bind']
  exact ⟨_, h, rfl, rfl, hk⟩
theorem wpS_beginRound {l : Nat} {r : Loop} (h : H l = some (true, .loop r)) (hr : r.state = .ready) (K : Unit → Hp → Prop) (E : Value → Hp → Prop) (hk : K () (H.set l (.loop { r with state := .busy }))) :
    wpS P (Instr.beginRound l) H K E := by
  unfold Instr.beginRound Instr.getLoop
  rw [wpS_bind', wpS_bind']
  refine ⟨true, _, h, rfl, rfl, ?_⟩
  rw [wpS_purec]
  simp only [wpS_pure, wpS_bind']
  refine ⟨_, h, rfl, rfl, ?_⟩
  rw [hr]
  exact hk
theorem leave_round {b c : Frame} {cs : List Frame} {Stop : Goroutine → Hp → Prop} {l : Nat} {r : Loop} {jump : Option Code} {a : Act} {todo : List Item} (hb : b.kind = .normal) (hl : b.roundOf = some l) (h : H l = some (true, .loop r))
    (hs : ∀ w, stepG P main (G (fat b a todo) (c :: cs)) w = (let (x, es) := (Instr.endRound l jump).runT P w #[]
        GStep.after (seen P b.fn es) <| match x with
        | .ok v w => doReturn P main (fat b a todo) (c :: cs) none v w
        | .halt _ w => .ended (.stuck "range over a function: no such loop" ((fat b a todo).pos P)) w))
    (hk : WPG P main Stop (G (c.finish (.bool jump.isNone)) cs) (H.set l (.loop { r with state := if jump.isNone then .ready else .done, pending := jump }))) : WPG P main Stop (G (fat b a todo) (c :: cs)) H := by
  refine WPG.tree (s := Instr.endRound l jump) (K := fun v H' => v = .bool jump.isNone ∧ H' = H.set l (.loop { r with state := if jump.isNone then .ready else .done, pending := jump })) (E := fun _ _ => False) rfl (wpS_endRound h jump _ _ ⟨rfl, rfl⟩)
    (fun g' H' => g' = G (c.finish (.bool jump.isNone)) cs ∧ H' = H.set l (.loop { r with state := if jump.isNone then .ready else .done, pending := jump })) (fun w w' H' es v hr hm hk' => ?_) (fun _ _ _ _ _ _ _ he => he.elim) ?_
  · obtain ⟨rfl, rfl⟩ := hk'
    refine ⟨_, seen P b.fn es, ?_, fun e => mem_seen, rfl, rfl⟩
    rw [hs, hr]
    simp [doReturn, fat, hb, GStep.after, G]
  · rintro g' H' ⟨rfl, rfl⟩
    exact hk
theorem round_runs {l : Nat} {fn : FuncId} {tmps : Array Value} {asg body : Code} {R : Ending → Hp → Prop}
    (h : wpX P main (some l) asg (thn (fun a H1 => ∃ r, H1 l = some (true, .loop r) ∧ r.state = .ready ∧ wpX P main (some l) body (rnd l R) a (H1.set l (.loop { r with state := .busy }))) fun _ _ _ => False) { tmps := tmps, defers := [] } H) :
    Runs P main (Frame.round l fn tmps asg body .normal) H R := by
  intro c cs Stop hv hp
  have he : Frame.round l fn tmps asg body .normal = fat { base fn with roundOf := some l } { tmps := tmps, defers := [] } [.code asg, .beginRound, .code body] := by
    simp [Frame.round, fat, base]
  rw [he]
  refine h { base fn with roundOf := some l } [.beginRound, .code body] (c :: cs) Stop (by simp [base]) rfl fun e a1 H1 q => ?_
  cases e with
  | normal =>
    obtain ⟨r, hl, hr, q⟩ := q
    refine WPG.tree (s := (do Instr.beginRound l; pure .skip : Sem Next)) (K := fun v H' => v = .skip ∧ H' = H1.set l (.loop { r with state := .busy })) (E := fun _ _ => False) rfl (by rw [wpS_bind']; exact wpS_beginRound hl hr _ _ ⟨rfl, rfl⟩)
      (fun g' H' => g' = G (fat { base fn with roundOf := some l } a1 [.code body]) (c :: cs) ∧ H' = H1.set l (.loop { r with state := .busy })) (fun w w' H' es v hr' hm hk' => ?_) (fun _ _ _ _ _ _ _ he => he.elim) ?_
    · obtain ⟨rfl, rfl⟩ := hk'
      refine ⟨_, seen P fn es, ?_, fun e => mem_seen, rfl, rfl⟩
      simp [stepG, stepG.exec, stepG.apply, fat, G, base, hr', GStep.after, Frame.finish, -Sem.runT_eq, -bind_pure_comp]
    · rintro g' H' ⟨rfl, rfl⟩
      refine q { base fn with roundOf := some l } [] (c :: cs) Stop (by simp [base]) rfl fun e a2 H2 q2 => ?_
      cases e with
      | normal =>
        obtain ⟨_, r2, hl2, q2⟩ := q2
        refine leave_round (jump := none) rfl rfl hl2 (fun w => ?_) (hv _ _ q2)
        simp [stepG, stepG.exec, fat, G, base]
        rfl
      | exit id =>
        obtain ⟨_, r2, hl2, q2⟩ := q2
        intro k' hk'
        refine leave_round (jump := some (.exit id)) rfl rfl hl2 (fun w => ?_) (hv _ _ q2)
        simp [exitTo] at hk'
        simp [stepG, stepG.exec, fat, G, base, hk']
        rfl
      | ret =>
        obtain ⟨_, r2, hl2, q2⟩ := q2
        intro k'
        refine leave_round (jump := some .ret) rfl rfl hl2 (fun w => ?_) (hv _ _ q2)
        simp [stepG, stepG.exec, fat, G, base]
        rfl
      | goto l => exact q2.elim
      | panic ch => exact q2.elim
      | outgrown => exact q2.elim
  | exit id => exact q.elim
  | goto l => exact q.elim
  | ret => exact q.elim
  | panic ch => exact q.elim
  | outgrown => exact q.elim
def coll (r : Nat) : Deferred := { target := .collected r, args := #[] }
def behind (l r : Nat) (a : Act) (Q : Exit → Act → Hp → Prop) : Ending → Hp → Prop
  | .returned _, H => ∃ q, H l = some (true, .loop q) ∧ q.state ≠ .busy ∧ (match q.pending with
    | none => Q .normal { a with defers := coll r :: a.defers } (H.set l (.loop { q with state := .exhausted }))
    | some (.exit id) => Q (.exit id) { a with defers := coll r :: a.defers } (H.set l (.loop { q with state := .exhausted }))
    | some .ret => Q .ret { a with defers := coll r :: a.defers } (H.set l (.loop { q with state := .exhausted }))
    | _ => False)
  | .panicked ch, H => Q (.panic ch) { a with defers := coll r :: a.defers } H
  | .outgrown, _ => False
theorem wpS_endLoop {l : Nat} {r : Loop} (h : H l = some (true, .loop r)) (hr : r.state ≠ .busy) (K : Option Code → Hp → Prop) (E : Value → Hp → Prop) (hk : K r.pending (H.set l (.loop { r with state := .exhausted }))) :
    wpS P (Instr.endLoop l) H K E := by
  unfold Instr.endLoop Instr.getLoop
  rw [wpS_bind', wpS_bind']
  refine ⟨true, _, h, rfl, rfl, ?_⟩
  rw [wpS_purec]
  have hb : (r.state == .busy) = false := by cases hs : r.state <;> first | rfl | exact absurd hs hr
  simp only [wpS_pure, hb, Bool.false_eq_true, if_false, wpS_bind']
  exact ⟨_, h, rfl, rfl, hk⟩
theorem wpX_rangeFunc {f : Operand} {params : Array Tmp} {asg body : Code} {g : FuncId} {fi cap : Array Value} (hf : a.eval f = .func (.func g) fi cap)
    (hcall : ∀ (args : Array Value) (H : Hp) (K : Next → Hp → Prop) (E : Value → Hp → Prop), wpS P (callFunc g args) H K E = K (.enter g args) H)
    (h : ∀ fn r l, H r = none → (H.set r (.deferred (some []))) l = none → Runs P main (Frame.enter P g (fi ++ #[.func (.yield l) #[] #[]] ++ cap) .normal)
      ((H.set r (.deferred (some []))).set l (.loop { state := .ready, pending := none, fn := fn, tmps := a.tmps, params := params, assign := asg, body := body, defers := r })) (behind l r a Q)) :
    wpX P main none (.rangeFunc f params asg body) Q a H := by
  intro b k cs Stop hk hl hc
  refine .step (fun g' H' => WPG P main Stop g' H') rfl (fun w hw => ?_) fun _ _ h => h
  have h1 : wpS P (Instr.enterLoop b.fn a.tmps params asg body none) H (fun x H' => ∃ r l, x = (l, [coll r]) ∧ H r = none ∧ (H.set r (.deferred (some []))) l = none ∧
      H' = (H.set r (.deferred (some []))).set l (.loop { state := .ready, pending := none, fn := b.fn, tmps := a.tmps, params := params, assign := asg, body := body, defers := r })) (fun _ _ => False) := by
    unfold Instr.enterLoop
    simp only [wpS_bind', newObj, wpS, wpS_pure]
    intro r hr l hl
    exact ⟨r, l, rfl, hr, hl, rfl⟩
  obtain ⟨es, w', H', hm, x, hx, hd⟩ := wpS_sound _ w hw h1
  rcases hd with ⟨x, rfl, r, l, rfl, hr, hlr, rfl⟩ | ⟨v, _, hv⟩
  · have hx0 : (Instr.enterLoop b.fn a.tmps params asg body none).runT P w #[] = (.ok (l, [coll r]) w', es) := by rw [hx #[]]; simp
    have h2 : wpS P (do let d ← resolve a.eval { callee := .value f, args := #[.const (.func (.yield l) #[] #[])], argTypes := #[] } 0; invoke d.target d.args) ((H.set r (.deferred (some []))).set l (.loop { state := .ready, pending := none, fn := b.fn, tmps := a.tmps, params := params, assign := asg, body := body, defers := r }))
        (fun x H' => x = .enter g (fi ++ #[.func (.yield l) #[] #[]] ++ cap) ∧ H' = (H.set r (.deferred (some []))).set l (.loop { state := .ready, pending := none, fn := b.fn, tmps := a.tmps, params := params, assign := asg, body := body, defers := r })) (fun _ _ => False) := by
      rw [wpS_bind']
      simp only [resolve, hf, Deferred.ofValue, wpS_pure, invoke, List.map_toArray, List.map_cons, List.map_nil, eval_const]
      rw [hcall]
      exact ⟨rfl, rfl⟩
    obtain ⟨es2, w2, H2, hm2, x2, hx2, hd2⟩ := wpS_sound _ w' hm.sat h2
    rcases hd2 with ⟨x2, rfl, rfl, rfl⟩ | ⟨v, _, hv⟩
    · have hx20 : (do let d ← resolve a.eval { callee := .value f, args := #[.const (.func (.yield l) #[] #[])], argTypes := #[] } 0; invoke d.target d.args : Sem Next).runT P w' #[] = (.ok (.enter g (fi ++ #[.func (.yield l) #[] #[]] ++ cap)) w2, es2) := by rw [hx2 #[]]; simp
      refine ⟨G (Frame.enter P g (fi ++ #[.func (.yield l) #[] #[]] ++ cap) .normal) (fat b { a with defers := coll r :: a.defers } (.inRangeFunc l :: k) :: cs), w2, seen P b.fn es ++ (if b.kind == .early then #[] else seen P b.fn es2), ((H.set r (.deferred (some []))).set l (.loop { state := .ready, pending := none, fn := b.fn, tmps := a.tmps, params := params, assign := asg, body := body, defers := r })), ?_, (hm.seen b.fn).trans ?_, ?_⟩
      · have hk' : (b.kind == CallKind.early) = false := by simpa using hk
        have hev : ∀ fr : Frame, fr.tmps = a.tmps → fr.eval = a.eval := fun fr h9 => by
          funext x
          cases x <;> simp [Frame.eval, Act.eval, h9]
        simp [stepG, stepG.exec, stepG.apply, fat, G, hl, hx0, hev, hx20, hk', GStep.after, -Sem.runT_eq, -bind_pure_comp]
      · have hk' : (b.kind == CallKind.early) = false := by simpa using hk
        rw [hk']
        exact hm2.seen b.fn
      · refine h b.fn r l hr hlr _ cs Stop (fun v H3 hq => ?_) (fun ch H3 hq => ?_)
        · obtain ⟨q, hq1, hq2, hq3⟩ := hq
          have hfin : (fat b { a with defers := coll r :: a.defers } (.inRangeFunc l :: k)).finish v = fat b { a with defers := coll r :: a.defers } (.endRangeFunc l :: k) := rfl
          rw [hfin]
          refine WPG.tree (s := Instr.endLoop l) (K := fun x H' => x = q.pending ∧ H' = H3.set l (.loop { q with state := .exhausted })) (E := fun _ _ => False) rfl (wpS_endLoop hq1 hq2 _ _ ⟨rfl, rfl⟩)
            (fun g' H' => g' = G (fat b { a with defers := coll r :: a.defers } ((q.pending.map Item.code).toList ++ k)) cs ∧ H' = H3.set l (.loop { q with state := .exhausted })) (fun w w' H' es v hr' hm hk' => ?_) (fun _ _ _ _ _ _ _ he => he.elim) ?_
          · obtain ⟨rfl, rfl⟩ := hk'
            refine ⟨_, seen P b.fn es, ?_, fun e => mem_seen, rfl, rfl⟩
            simp [stepG, stepG.exec, fat, G, hr', GStep.after, -Sem.runT_eq]
          · rintro g' H' ⟨rfl, rfl⟩
            cases hp : q.pending with
            | none =>
              rw [hp] at hq3
              exact hc _ _ _ hq3
            | some j =>
              rw [hp] at hq3
              cases j with
              | exit id => exact hc _ _ _ hq3 k rfl
              | ret => exact hc _ _ _ hq3 k
              | _ => exact hq3.elim
        · exact hc (.panic ch) _ _ hq _
    · exact hv.elim
  · exact hv.elim
theorem wpS_take {r : Nat} {ds : List Deferred} (h : H r = some (true, .deferred (some ds))) (K : List Deferred → Hp → Prop) (E : Value → Hp → Prop) (hk : K ds (H.set r (.deferred none))) : wpS P (Instr.takeDeferred r) H K E := by
  unfold Instr.takeDeferred
  rw [wpS_bind']
  refine ⟨true, _, h, rfl, rfl, ?_⟩
  rw [wpS_purec]
  simp only [wpS_bind', wpS_pure]
  exact ⟨_, h, rfl, rfl, hk⟩
theorem DefX_coll {r : Nat} {R : FrameMode → Hp → Prop} (h : H r = some (true, .deferred (some []))) (hk : R .returning (H.set r (.deferred none))) : DefX P main .returning (coll r) H R := by
  intro c cs Stop hm hR
  refine WPG.tree (s := Instr.takeDeferred r) (K := fun x H' => x = [] ∧ H' = H.set r (.deferred none)) (E := fun _ _ => False) rfl (wpS_take h _ _ ⟨rfl, rfl⟩)
    (fun g' H' => g' = G c cs ∧ H' = H.set r (.deferred none)) (fun w w' H' es v hr' hm' hk' => ?_) (fun _ _ _ _ _ _ _ he => he.elim) ?_
  · obtain ⟨rfl, rfl⟩ := hk'
    refine ⟨_, seen P c.fn es, ?_, fun e => mem_seen, rfl, rfl⟩
    simp [stepG, unwind, G, hm, coll, hr', GStep.after, -Sem.runT_eq]
    cases c; simp_all
  · rintro g' H' ⟨rfl, rfl⟩
    have := hR _ _ hk
    rwa [← hm] at this
theorem bodyX_coll {fn : Func} {R : Ending → Hp → Prop} {n : Nat} {e : Nat → Value} {r : Nat} (h : H r = some (true, .deferred (some [])))
    (hk : wpS P (results fn (act n e [coll r]).tmps) (H.set r (.deferred none)) (fun v H' => R (.returned v) H') fun _ _ => False) : bodyX P main fn R .ret (act n e [coll r]) H :=
  DefX_coll h hk
def bodyD (P : Program) (fn : Func) (R : Hp → Prop) : Exit → Act → Hp → Prop
  | .normal, a, H | .ret, a, H => a.defers = [] ∧ wpS P (results fn a.tmps) H (fun _ H' => R H') fun _ _ => False
  | _, _, _ => False
theorem DefX_call {f : FuncId} {fn : Func} {c : Code} {args cap : Array Value} {R : FrameMode → Hp → Prop} (hf : P.funcs[f]? = some fn) (hb : fn.body = some c)
    (hcall : ∀ (args : Array Value) (H : Hp) (K : Next → Hp → Prop) (E : Value → Hp → Prop), wpS P (callFunc f args) H K E = K (.enter f args) H)
    (h : wpX P main none c (bodyD P fn (R .returning)) { tmps := (args ++ cap) ++ Array.replicate (fn.ntmps - (args ++ cap).size) undef, defers := [] } H) : DefX P main .returning { target := .fn (.func f) cap, args := args } H R := by
  intro fr cs Stop hm hR
  have h2 : wpS P (invoke (.fn (.func f) cap) args) H (fun x H' => x = .enter f (args ++ cap) ∧ H' = H) (fun _ _ => False) := by
    simp only [invoke]
    rw [hcall]
    exact ⟨rfl, rfl⟩
  refine WPG.tree (s := invoke (.fn (.func f) cap) args) rfl h2 (fun g' H' => g' = G (Frame.enter P f (args ++ cap) .deferred) (fr :: cs) ∧ H' = H) (fun w w' H' es v hr' hm' hk' => ?_) (fun _ _ _ _ _ _ _ he => he.elim) ?_
  · obtain ⟨rfl, rfl⟩ := hk'
    refine ⟨_, seen P fr.fn es, ?_, fun e => mem_seen, rfl, rfl⟩
    simp [stepG, unwind, callDeferred, G, hm, hr', GStep.after, -Sem.runT_eq]
    cases fr; simp_all
  · rintro g' H' ⟨rfl, rfl⟩
    have he : Frame.enter P f (args ++ cap) .deferred = fat { base f with kind := .deferred } { tmps := (args ++ cap) ++ Array.replicate (fn.ntmps - (args ++ cap).size) undef, defers := [] } [.code c] := by
      simp [Frame.enter, fat, hf, hb, base]; rfl
    rw [he]
    have hret : ∀ (a' : Act) (H' : Hp) (k' : List Item), a'.defers = [] → wpS P (results fn a'.tmps) H' (fun _ H' => R .returning H') (fun _ _ => False) → WPG P main Stop (G { fat { base f with kind := .deferred } a' k' with mode := .returning } (fr :: cs)) H' := fun a' H' k' hd hq => by
      refine WPG.tree rfl hq (fun g' H' => g' = G fr cs ∧ R .returning H') (fun w w' H' es v hr' hm' hk' => ?_) (fun _ _ _ _ _ _ _ he => he.elim) ?_
      · refine ⟨_, seen P f es, ?_, fun e => mem_seen, rfl, hk'⟩
        simp [stepG, unwind, doReturn, fat, G, base, hd, hf, hr', hm, GStep.after, -Sem.runT_eq]
      · rintro g' H' ⟨rfl, hq⟩
        have := hR _ _ hq
        rwa [← hm] at this
    refine h { base f with kind := .deferred } [] (fr :: cs) Stop (by simp [base]) rfl fun e a' H' q => ?_
    cases e with
    | normal => exact .ctl (g' := G { fat { base f with kind := .deferred } a' [] with mode := .returning } (fr :: cs)) rfl (fun w => by simp [G, stepG, stepG.exec, fat, base]; rfl) (hret a' H' _ q.1 q.2)
    | ret => exact fun k' => .ctl (g' := G { fat { base f with kind := .deferred } a' (.code .ret :: k') with mode := .returning } (fr :: cs)) rfl (fun w => by simp [G, stepG, stepG.exec, fat, base]; rfl) (hret a' H' _ q.1 q.2)
    | panic ch => exact q.elim
    | exit id => exact q.elim
    | goto l => exact q.elim
    | outgrown => exact q.elim
end
end Go.X
end
