/- Texts Slowest HaulC Rides DrivenS Eval Driven HaulN Keep LawJ Jobs RefA RefB RefC. -/
import Derived.Test.YtofmadjgbcopdaaGreatDoorJ08
set_option linter.defProp false
set_option linter.unusedSimpArgs false
set_option linter.unusedVariables false
set_option maxRecDepth 100000
set_option maxHeartbeats 2000000
section
namespace Go.Proofs.YtofmadjgbcopdaaGreatDoor
open Go Go.X
def y45_96 := And.intro (fun H => loadAt_aggE (H := H) Tryz.underlying29 rfl Tryz.sizeOf29) (And.intro @callF68 (And.intro (fun H => ex_alloc (H := H) (P := Tryz.prog) (h := Tryz.zeroValue81)) (And.intro (fun H => storeAt_ptr (H := H) Tryz.sizeOf81) (And.intro (fun H => ex_alloc (H := H) (P := Tryz.prog) (h := Tryz.zeroValue113)) (And.intro (fun H => storeAt_func (H := H) Tryz.sizeOf113) (And.intro (fun H => storeAt_nilFunc (H := H) Tryz.sizeOf113) (And.intro @callF91 (And.intro @callF92 @callF93))))))))
def y94_96 := And.intro (fun H => loadAt_one (H := H) Tryz.underlying113 rfl) (fun H => loadAt_one (H := H) Tryz.underlying81 rfl)
def slowF (n : HN) (k : Int) : Bool := goodF n n.jobs k n.load.toNat n.jobs.length bs0 0
theorem slowSo_spec (main : Md) (H : Hp) (hb : Nat) (n : HN) (v : HV) (jv : Value) (hh : HaulAt H hb n v jv n.jobs) (l1 : 1 <= n.load) (l3 : n.load <= 3) (k : Int) (h1 : 1 <= k) (h20 : k <= 20) (hl : n.jobs.length <= 8) (fb pb : Nat)
  (vf : H fb = some (true, .cells #[.func (.func 90) #[] #[]] 113 (0, 0))) (vp : H pb = some (true, .cells #[.pointer (some ⟨hb, 0, none⟩)] 81 (0, 0))) :
  FnX Tryz.prog main 94 #[.int .i64 k, .pointer (some ⟨fb, 0, none⟩), .pointer (some ⟨pb, 0, none⟩)] H fun e H' => e = .returned (.bool (slowF n k)) /\ H.le H' := by
 refine FnX_start Tryz.func94 rfl Tryz.ntmps94 (by simp) ?_
 (refine @unH _ ?_; refine zA y94_96 ?_; (repeat (refine inC ?_; intro hc)); try (refine inK ?_; intro K hK))
 rw [callF90, uponX_enterK]
 simp only [Array.empty_append, Array.append_empty, List.append_toArray, List.cons_append, List.nil_append, Array.toList_append]
 refine (some_spec main H hb n v jv n.jobs hh l1 l3 k h1 h20 (by omega)).runs.mono ?_
 rintro _ H2 ⟨rfl, lH2⟩
 rw [show goodF n n.jobs k n.load.toNat n.jobs.length bs0 0 = slowF n k from rfl]
 ((try (refine @unH _ ?_; refine zX y94_96 ?_)); (try (refine hK _ _ ?_; clear hK K; (try simp only [nq, ↓reduceIte, Nat.reduceEqDiff]))); refine @unH _ ?_; refine zA y94_96 ?_; (repeat (refine inC ?_; intro hc)); try (refine inK ?_; intro K hK))
 (refine @unH _ ?_; refine z9 Tryz.results94 ?_)
 exact ⟨by trivial, lH2⟩
theorem Slowest_spec (main : Md) (H : Hp) (n : HN) (v : HV) (hd : HaulIn H n v) :
  FnX Tryz.prog main 45 #[n.agg v] H fun e H' => H.le H' /\ ∃ y c, e = .returned (.tuple #[.int .i64 y, .int .i64 c]) /\ match (numsL 1 20).reverse.find? (slowF n) with
   | some x => y = x /\ c = 0
   | none => y = 0 /\ c = 11 := by
 have hop := fun H' h => bopen_spec main H' n v h
 have hnum := fun H' => numbers_spec main H' 1 20 20 (by omega) (by omega) (by omega)
 have hlen := numsL_len 1 20
 have hmem : ∀ x ∈ numsL 1 20, 1 <= x /\ x <= 20 := fun x hx => by
  obtain ⟨i, hi, rfl⟩ := List.mem_map.1 hx
  have := List.mem_range.1 hi
  omega
 generalize numsL 1 20 = ls at hnum hlen hmem ⊢
 simp only [HN.agg] at hop ⊢
 refine FnX_start Tryz.func45 rfl Tryz.ntmps45 (by simp) ?_
 (refine @unH _ ?_; refine zA y45_96 ?_; (repeat (refine inC ?_; intro hc)); try (refine inK ?_; intro K hK))
 (intro ab hab; generalize hG : Hp.set _ ab _ = H1; have lH1 := le_of_set hG hab; have vab := at_of_set hG; clear hG)
 have hd1 := hd.le lH1
 ((try (refine @unH _ ?_; refine zX y45_96 ?_)); (try (refine hK _ _ ?_; clear hK K; (try simp only [nq, ↓reduceIte, Nat.reduceEqDiff]))); refine @unH _ ?_; refine zA y45_96 ?_; (repeat (refine inC ?_; intro hc)); try (refine inK ?_; intro K hK))
 refine (hop H1 hd1).runs.mono ?_
 rintro _ H2 ⟨hb, jv, rfl, lH2, vhb, hj⟩
 obtain ⟨j8, jb, _⟩ := hd.jobs
 have hat := hd1.at lH2 vhb hj jb (by omega)
 have l12 := Hp.le_trans lH1 lH2
 clear hop vab lH1 lH2 hd1 vhb hj
 ((try (refine @unH _ ?_; refine zX y45_96 ?_)); (try (refine hK _ _ ?_; clear hK K; (try simp only [nq, ↓reduceIte, Nat.reduceEqDiff]))); refine @unH _ ?_; refine zA y45_96 ?_; (repeat (refine inC ?_; intro hc)); try (refine inK ?_; intro K hK))
 (intro pb hpb; generalize hG : Hp.set _ pb _ = H3; have lH3 := le_of_set hG hpb; have vpb := at_of_set hG; clear hG)
 have hat3 := hat.le lH3
 have l13 := Hp.le_trans l12 lH3
 clear l12 hat lH3 hpb
 ((try (refine @unH _ ?_; refine zX y45_96 ?_)); (try (refine hK _ _ ?_; clear hK K; (try simp only [nq, ↓reduceIte, Nat.reduceEqDiff]))); refine @unH _ ?_; refine zA y45_96 ?_; (repeat (refine inC ?_; intro hc)); try (refine inK ?_; intro K hK))
 (intro fb hfb; generalize hG : Hp.set _ fb _ = H5; have lH5 := le_of_set hG hfb; have vfb := at_of_set hG; clear hG)
 replace vfb : H5 fb = some (true, .cells #[.func (.func 90) #[] #[]] 113 (0, 0)) := vfb
 have vp5 := lH5 _ _ vpb
 have hat5 := hat3.le lH5
 have l15 := Hp.le_trans l13 lH5
 clear vpb lH5 hfb hat3 l13
 refine ⟨by decide, ?_⟩
 ((try (refine @unH _ ?_; refine zX y45_96 ?_)); (try (refine hK _ _ ?_; clear hK K; (try simp only [nq, ↓reduceIte, Nat.reduceEqDiff]))); refine @unH _ ?_; refine zA y45_96 ?_; (repeat (refine inC ?_; intro hc)); try (refine inK ?_; intro K hK))
 refine (hnum H5).runs.mono ?_
 rintro _ H6 ⟨lv, rfl, hrow⟩
 have vf6 := hrow.1.toLe _ _ vfb
 have vp6 := hrow.1.toLe _ _ vp5
 clear hnum
 rcases hrow.2 with ⟨_, hnil⟩ | ⟨b, c, cap, h0b, hb6, rfl, hcs, hcl, hget⟩
 ·exfalso
  have := congrArg List.length hnil
  rw [ints_len, hlen] at this
  cases this
 have l06 := Hp.le_trans l15 hrow.1.toLe
 have n1 : fb ≠ b := fun h => by rw [h, h0b] at vfb; cases vfb
 have n2 : pb ≠ b := fun h => by rw [h, h0b] at vp5; cases vp5
 rw [ints_len] at hcl ⊢
 have hrev := reverse_spec main H6 ls b cap c hb6 (by omega) (by omega) hcs hcl hget
 clear hget hcs vfb vp5 jb
 replace hmem : SameP (∀ x ∈ ls, 1 <= x /\ x <= 20) := hmem
 replace hlen : SameP (ls.length = 20) := hlen
 replace hrev : SameP _ := hrev
 ((try (refine @unH _ ?_; refine zX y45_96 ?_)); (try (refine hK _ _ ?_; clear hK K; (try simp only [nq, ↓reduceIte, Nat.reduceEqDiff]))); refine @unH _ ?_; refine zA y45_96 ?_; (repeat (refine inC ?_; intro hc)); try (refine inK ?_; intro K hK))
 replace hrev : FnX _ _ _ _ _ _ := hrev
 refine hrev.runs.mono ?_
 rintro _ H7 ⟨rfl, c', hH7, hcs', hget'⟩
 have hb7 : H7 b = some (true, .cells c' 3 (0, 0)) := by rw [hH7]; exact set_at
 have vf7 : H7 fb = _ := (by rw [hH7]; exact set_ne n1 : H7 fb = H6 fb).trans vf6
 have vp7 : H7 pb = _ := (by rw [hH7]; exact set_ne n2 : H7 pb = H6 pb).trans vp6
 have l07 : H.le H7 := fun x u hx => by
  have h5 := l15 _ _ hx
  rw [hH7, set_ne (fun h => by rw [h, h0b] at h5; cases h5)]
  exact l06 _ _ hx
 have hmem' : ∀ x ∈ ls.reverse, 1 <= x /\ x <= 20 := fun x hx => hmem x (by simpa using hx)
 have hl20 : ls.reverse.length <= 1000 := by
  have h : ls.length = 20 := hlen
  rw [List.length_reverse]
  omega
 have h0b' : H b = none := Hp.le_none l15 h0b
 have hsl : SlI H7 (.slice (some ⟨b, 0, none⟩) ls.length cap) ls.reverse := by
  have hr : RowX none H H7 (.slice (some ⟨b, 0, none⟩) (ints ls.reverse).length cap) 3 (ints ls.reverse) :=
   ⟨Lex.of l07, .inr ⟨b, c', cap, h0b', hb7, rfl, hcs', by rw [ints_len, List.length_reverse]; exact hcl, hget'⟩⟩
  rw [ints_len, List.length_reverse] at hr
  exact hr.ints
 have l57 : H5.le H7 := fun x u hx => by
  rw [hH7, set_ne (fun h => by rw [h, h0b] at hx; cases hx)]
  exact hrow.1.toLe _ _ hx
 have hat7 := hat5.le l57
 have hl1 := hd.l1
 have hl3 := hd.l3
 have hfo := firstOf_spec main H7 _ ls.reverse hsl hl20 (.func 94) #[] #[.pointer (some ⟨fb, 0, none⟩), .pointer (some ⟨pb, 0, none⟩)] (slowF n) (fun H' k hl hk => by
  refine CallV.of_fn (fun _ _ _ _ => callF94 _ _ _) ?_
  exact slowSo_spec main H' hb n v jv (hat7.le hl) hl1 hl3 k (hmem' k hk).1 (hmem' k hk).2 j8 fb pb (hl _ _ vf7) (hl _ _ vp7))
 clear hmem' hl20 hsl hmem hlen hrev hrow hH7 hget' hat5 hb7 hb6 vf6 vp6 l06 l15 l57 h0b hcs'
 ((try (refine @unH _ ?_; refine zX y45_96 ?_)); (try (refine hK _ _ ?_; clear hK K; (try simp only [nq, ↓reduceIte, Nat.reduceEqDiff]))); refine @unH _ ?_; refine zA y45_96 ?_; (repeat (refine inC ?_; intro hc)); try (refine inK ?_; intro K hK))
 refine hfo.runs.mono ?_
 rintro _ H8 ⟨lH8, y, is, rfl, hres⟩
 have l08 := Hp.le_trans l07 lH8
 clear hfo
 cases hpf : ls.reverse.find? (slowF n) with
 | none =>
  rw [hpf] at hres
  obtain ⟨rfl, rfl⟩ := hres
  ((try (refine @unH _ ?_; refine zX y45_96 ?_)); (try (refine hK _ _ ?_; clear hK K; (try simp only [nq, ↓reduceIte, Nat.reduceEqDiff]))); refine @unH _ ?_; refine zA y45_96 ?_; (repeat (refine inC ?_; intro hc)); try (refine inK ?_; intro K hK))
  (refine @unH _ ?_; refine zB Tryz.results45 ?_)
  exact ⟨l08, _, _, rfl, by rw [hpf]; exact ⟨rfl, rfl⟩⟩
 | some x =>
  rw [hpf] at hres
  obtain ⟨rfl, rfl⟩ := hres
  ((try (refine @unH _ ?_; refine zX y45_96 ?_)); (try (refine hK _ _ ?_; clear hK K; (try simp only [nq, ↓reduceIte, Nat.reduceEqDiff]))); refine @unH _ ?_; refine zA y45_96 ?_; (repeat (refine inC ?_; intro hc)); try (refine inK ?_; intro K hK))
  (refine @unH _ ?_; refine zB Tryz.results45 ?_)
  exact ⟨l08, _, _, rfl, by rw [hpf]; exact ⟨rfl, rfl⟩⟩
end Go.Proofs.YtofmadjgbcopdaaGreatDoor
end
section
namespace Go.Proofs.YtofmadjgbcopdaaGreatDoor
open Go Go.X
def y65_98 := And.intro (fun H => ex_alloc (H := H) (P := Tryz.prog) (h := Tryz.zeroValue29)) (And.intro @lit_22_2_0_1_0 (And.intro @lit_22_1_0_0 (And.intro @lit_23_4_0_1_2_3_0 (And.intro @bld_25_0_1_2_3_0 (And.intro (fun H => ex_alloc (H := H) (P := Tryz.prog) (h := Tryz.zeroValue25)) (And.intro (fun H => storeAt_agg (H := H) Tryz.sizeOf25) (And.intro (fun H => loadAt_aggE (H := H) Tryz.underlying25 rfl Tryz.sizeOf25) (And.intro @lit_22_4_0_1_2_3_0 (And.intro @bld_27_0_1_0 (And.intro @bld_29_0_1_2_3_4_5_6_7_0 (fun H => storeAt_agg (H := H) Tryz.sizeOf29)))))))))))
def hC : HN := ⟨2, 4, 1, 8, 2, 1, 3, 6, [0, 1], [[2], [0], [1, 3], [0]], [2, 0, 1, 0], [10, 12, 20, 30]⟩
theorem sli_new {H : Hp} {b : Nat} {xs : List Int} {c : Array Value} (h : H b = some (true, .cells c 3 (0, 0))) (hc : c = (ints xs).toArray) : SlI H (.slice (some ⟨b, 0, none⟩) xs.length xs.length) xs :=
 ⟨_, _, rfl, Nat.le_refl _, fun i x hi => ⟨b, 0, true, c, (0, 0), rfl, h, by
  subst hc
  rw [Nat.zero_add]
  simp [ints, hi]⟩⟩
theorem timesC : TimesOk hC.xss.length hC.xs := by unfold TimesOk; decide
theorem okC : VaultOk hC.places hC.pieces hC.start hC.xss /\ TruthOk hC.xss hC.ts := by
 refine ⟨by unfold VaultOk CallOk; decide, rfl, fun i t xs ht hx => ?_⟩
 match i, ht, hx with
 | 0, ht, hx => cases ht; cases hx; decide
 | 1, ht, hx => cases ht; cases hx; decide
 | 2, ht, hx => cases ht; cases hx; decide
 | 3, ht, hx => cases ht; cases hx; decide
 | i + 4, ht, hx => simp [hC] at ht
theorem haulC_spec (main : Md) (H : Hp) : FnX Tryz.prog main 65 #[] H fun e H' => ∃ v, e = .returned (hC.agg v) /\ H.le H' /\ HaulIn H' hC v := by
  refine FnX_start (args := []) Tryz.func65 rfl Tryz.ntmps65 (by simp) ?_
  (refine @unH _ ?_; refine zA y65_98 ?_; (repeat (refine inC ?_; intro hc)); try (refine inK ?_; intro K hK))
  (intro rb hrb; generalize hG : Hp.set _ rb _ = H0; have lH0 := le_of_set hG hrb; have vrb := at_of_set hG; clear hG)
  have h0rb := hrb
  ((try (refine @unH _ ?_; refine zX y65_98 ?_)); (try (refine hK _ _ ?_; clear hK K; (try simp only [nq, ↓reduceIte, Nat.reduceEqDiff]))); refine @unH _ ?_; refine zA y65_98 ?_; (repeat (refine inC ?_; intro hc)); try (refine inK ?_; intro K hK))
  intro b0 hb0 b1 hb1 b2 hb2 b3 hb3 b4 hb4 b5 hb5 b6 hb6
  replace hb1 : (Hp.set H0 b0 _) b1 = none := hb1
  replace hb2 : (Hp.set (Hp.set H0 b0 _) b1 _) b2 = none := hb2
  replace hb3 : (Hp.set (Hp.set (Hp.set H0 b0 _) b1 _) b2 _) b3 = none := hb3
  replace hb4 : (Hp.set (Hp.set (Hp.set (Hp.set H0 b0 _) b1 _) b2 _) b3 _) b4 = none := hb4
  replace hb5 : (Hp.set (Hp.set (Hp.set (Hp.set (Hp.set H0 b0 _) b1 _) b2 _) b3 _) b4 _) b5 = none := hb5
  replace hb6 : (Hp.set (Hp.set (Hp.set (Hp.set (Hp.set (Hp.set H0 b0 _) b1 _) b2 _) b3 _) b4 _) b5 _) b6 = none := hb6
  generalize hG : Hp.set H0 b0 _ = HA1 at hb1 hb2 hb3 hb4 hb5 hb6 ⊢
  have lHA1 := le_of_set hG hb0
  have vb0 := at_of_set hG
  clear hG
  generalize hG : Hp.set HA1 b1 _ = HA2 at hb2 hb3 hb4 hb5 hb6 ⊢
  have lHA2 := le_of_set hG hb1
  have vb1 := at_of_set hG
  clear hG
  generalize hG : Hp.set HA2 b2 _ = HA3 at hb3 hb4 hb5 hb6 ⊢
  have lHA3 := le_of_set hG hb2
  have vb2 := at_of_set hG
  clear hG
  generalize hG : Hp.set HA3 b3 _ = HA4 at hb4 hb5 hb6 ⊢
  have lHA4 := le_of_set hG hb3
  have vb3 := at_of_set hG
  clear hG
  generalize hG : Hp.set HA4 b4 _ = HA5 at hb5 hb6 ⊢
  have lHA5 := le_of_set hG hb4
  have vb4 := at_of_set hG
  clear hG
  generalize hG : Hp.set HA5 b5 _ = HA6 at hb6 ⊢
  have lHA6 := le_of_set hG hb5
  have vb5 := at_of_set hG
  clear hG
  generalize hG : Hp.set HA6 b6 _ = HA7
  have lHA7 := le_of_set hG hb6
  have vb6 := at_of_set hG
  clear hG
  have la6 := lHA7
  have la5 := Hp.le_trans lHA6 la6
  have la4 := Hp.le_trans lHA5 la5
  have la3 := Hp.le_trans lHA4 la4
  have la2 := Hp.le_trans lHA3 la3
  have la1 := Hp.le_trans lHA2 la2
  have la0 := Hp.le_trans lHA1 la1
  have s0 : SlI HA7 (.slice (some ⟨b0, 0, none⟩) 2 2) [0, 1] := sli_new (xs := [0, 1]) (la1 _ _ vb0) rfl
  have s1 : SlI HA7 (.slice (some ⟨b1, 0, none⟩) 1 1) [2] := sli_new (xs := [2]) (la2 _ _ vb1) rfl
  have s2 : SlI HA7 (.slice (some ⟨b2, 0, none⟩) 1 1) [0] := sli_new (xs := [0]) (la3 _ _ vb2) rfl
  have s3 : SlI HA7 (.slice (some ⟨b3, 0, none⟩) 2 2) [1, 3] := sli_new (xs := [1, 3]) (la4 _ _ vb3) rfl
  have s4 : SlI HA7 (.slice (some ⟨b4, 0, none⟩) 1 1) [0] := sli_new (xs := [0]) (la5 _ _ vb4) rfl
  have v5 := la6 _ _ vb5
  have hrows : SlR HA7 (.slice (some ⟨b5, 0, none⟩) 4 4) [[2], [0], [1, 3], [0]] := ⟨_, _, rfl, Nat.le_refl _, fun i xs hi => by
    match i, hi with
    | 0, hi => cases hi; exact ⟨b5, 0, _, _, _, _, rfl, v5, rfl, s1⟩
    | 1, hi => cases hi; exact ⟨b5, 0, _, _, _, _, rfl, v5, rfl, s2⟩
    | 2, hi => cases hi; exact ⟨b5, 0, _, _, _, _, rfl, v5, rfl, s3⟩
    | 3, hi => cases hi; exact ⟨b5, 0, _, _, _, _, rfl, v5, rfl, s4⟩
    | i + 4, hi => simp at hi⟩
  have vrb1 := la0 _ _ vrb
  have lA : H.le HA7 := Hp.le_trans lH0 la0
  have n1 : HA7 rb ≠ none := by rw [vrb1]; simp
  clear la0 la1 la2 la3 la4 la5 la6 lHA1 lHA2 lHA3 lHA4 lHA5 lHA6 lHA7 vb0 vb1 vb2 vb3 vb4 vb5 v5 s1 s2 s3 s4 hb0 hb1 hb2 hb3 hb4 hb5 hb6 vrb lH0 hrb
  ((try (refine @unH _ ?_; refine zX y65_98 ?_)); (try (refine hK _ _ ?_; clear hK K; (try simp only [nq, ↓reduceIte, Nat.reduceEqDiff]))); refine @unH _ ?_; refine zA y65_98 ?_; (repeat (refine inC ?_; intro hc)); try (refine inK ?_; intro K hK))
  intro c0 hc0 c1 hc1
  replace hc1 : (Hp.set HA7 c0 _) c1 = none := hc1
  generalize hG : Hp.set HA7 c0 _ = HB1 at hc1 ⊢
  have lHB1 := le_of_set hG hc0
  have vc0 := at_of_set hG
  clear hG
  generalize hG : Hp.set HB1 c1 _ = HB2
  have lHB2 := le_of_set hG hc1
  have vc1 := at_of_set hG
  clear hG
  have l2 := Hp.le_trans lHB1 lHB2
  have t0 : SlI HB2 (.slice (some ⟨c0, 0, none⟩) 4 4) [2, 0, 1, 0] := sli_new (xs := [2, 0, 1, 0]) (lHB2 _ _ vc0) rfl
  have t1 : SlI HB2 (.slice (some ⟨c1, 0, none⟩) 4 4) [10, 12, 20, 30] := sli_new (xs := [10, 12, 20, 30]) vc1 rfl
  have s0' := s0.le l2
  have hrows' := hrows.le l2
  have vrb2 := l2 _ _ vrb1
  have lB := Hp.le_trans lA l2
  have nrc0 : rb ≠ c0 := ne_new vrb1 hc0
  have nrc1 : rb ≠ c1 := ne_new (lHB1 _ _ vrb1) hc1
  clear s0 hrows vrb1 lA lHB1 lHB2 vc0 vc1 hc0 hc1 l2 n1
  rw [if_neg nrc1, if_neg nrc0]
  ((try (refine @unH _ ?_; refine zX y65_98 ?_)); (try (refine hK _ _ ?_; clear hK K; (try simp only [nq, ↓reduceIte, Nat.reduceEqDiff]))); refine @unH _ ?_; refine zA y65_98 ?_; (repeat (refine inC ?_; intro hc)); try (refine inK ?_; intro K hK))
  (refine wpX_ret ?_; (try simp only [nq, ↓reduceIte, Nat.reduceEqDiff]); rw [bodyX_ret, results_cell Tryz.results65 (by decide) (b := rb) (o := 0) rfl Tryz.underlying29 rfl Tryz.sizeOf29]; simp -implicitDefEqProofs (disch := first | omega | (simp only [qd] <;> omega)) only [xq, ↓xp, qc, Nat.reduceAdd, List.range, List.range.loop, fine, Nat.reduceEqDiff, ↓reduceIte, yielded, reduceCtorEq, Nat.reduceLT, Nat.reduceMul, Nat.reduceSub, one, Nat.reduceLeDiff, runX_cons, y65_98, loadA_set])
  generalize hG : HB2.set rb _ = H9
  have hmv : ∀ x p c fr e, (e = 3 ∨ e = 22) -> HB2 x = some (p, .cells c e fr) -> H9 x = some (p, .cells c e fr) := fun x p c fr e he hx => by
    rw [<- hG, set_ne (fun h => ?_)]
    · exact hx
    · rw [h, vrb2] at hx
      simp only [Option.some.injEq, Prod.mk.injEq, Obj.cells.injEq] at hx
      have h9 := hx.2.2.1
      rcases he with rfl | rfl <;> exact absurd h9 (by decide)
  refine ⟨⟨.slice (some ⟨b0, 0, none⟩) 2 2, .slice (some ⟨b5, 0, none⟩) 4 4, .slice (some ⟨c0, 0, none⟩) 4 4, .slice (some ⟨c1, 0, none⟩) 4 4⟩, rfl, hG ▸ ((Lex.of lB : Lex none H HB2).own h0rb).toLe, ?_⟩
  exact { day := ⟨s0'.move fun x p c fr hx => hmv x p c fr _ (.inl rfl) hx, hrows'.move hmv, t0.move fun x p c fr hx => hmv x p c fr _ (.inl rfl) hx, okC.1, by decide, okC.2⟩,
          times := t1.move fun x p c fr hx => hmv x p c fr _ (.inl rfl) hx,
          ok := timesC,
          r0 := by decide, r3 := by decide, n0 := by decide, n30 := by decide, l1 := by decide, l3 := by decide, b1 := by decide, b4 := by decide, t1 := by decide, t2 := by decide, t20 := by decide }
end Go.Proofs.YtofmadjgbcopdaaGreatDoor
end
section
namespace Go.X
open Go
theorem eqG_agg {P : Program} {H : Hp} {t : TypeId} (h : P.eqGuardType P.depth t = false) (op : BinOp) (x y : Operand) (p q : Array Value) (K : Unit -> Hp -> Prop) (E : Value -> Hp -> Prop) : wpS P (eqGuard op t x y (.agg p) (.agg q)) H K E = K () H := by
 unfold eqGuard
 cases op <;> first | rfl | (simp only [wpS_bind', wpS_program, h, Bool.not_false, if_true]; first | rfl | (simp [wpS_bind', wpS_program, h, wpS_pure]; done))
structure Num3 (P : Program) (ks : TypeId) : Prop where
 ex : ∃ f1 f2 f3 : Field, P.underlying ks = some (.struct #[f1, f2, f3]) /\ f1.name ≠ "_" /\ f2.name ≠ "_" /\ f3.name ≠ "_" /\ f1.offset = 0 /\ f2.offset = 1 /\ f3.offset = 2 /\ (∃ d, P.underlying f1.type = some (.int d)) /\ (∃ d, P.underlying f2.type = some (.int d)) /\ (∃ d, P.underlying f3.type = some (.int d))
 held : P.stoodInHeld ks = false
theorem bin_neq3 {P : Program} {H : Hp} {ks : TypeId} (h : Num3 P ks) (a b c a' b' c' : Int) (K : Value -> Hp -> Prop) (E : Value -> Hp -> Prop) :
  wpS P (binOp .neq ks (.agg #[.int .i64 a, .int .i64 b, .int .i64 c]) (.agg #[.int .i64 a', .int .i64 b', .int .i64 c'])) H K E = K (.bool !(a == a' && (b == b' && c == c'))) H := by
 obtain ⟨⟨f1, f2, f3, hu, hn1, hn2, hn3, ho1, ho2, ho3, ⟨d1, h1⟩, ⟨d2, h2⟩, ⟨d3, h3⟩⟩, hh⟩ := h
 simp only [binOp]
 rw [wpS_bind']
 unfold Op.equal Op.maxDepth
 rw [show (10000 : Nat) = 9998 + 1 + 1 from rfl]
 unfold Op.equalIn
 simp only [wpS_bind', wpS_underlying hu, wpS_program, hh, Bool.false_eq_true, if_false, wpS_pure, List.forIn_toArray, List.forIn_cons, List.forIn_nil, hn1, hn2, hn3, ne_eq, not_false_eq_true, if_true]
 rw [part_one h1 rfl (v := .int .i64 a) _ _ (by simp [ho1])]
 rw [part_one h1 rfl (v := .int .i64 a') _ _ (by simp [ho1]), show (9999 : Nat) = 9998 + 1 from rfl, equal_int h1]
 cases a == a'
 ·simp only [Bool.not_false, if_true, wpS_pure, Bool.false_and]
 ·simp only [Bool.not_true, Bool.false_eq_true, if_false, wpS_pure, Bool.true_and, wpS_bind']
  rw [part_one h2 rfl (v := .int .i64 b) _ _ (by simp [ho2]), part_one h2 rfl (v := .int .i64 b') _ _ (by simp [ho2]), equal_int h2]
  cases b == b'
  ·simp only [Bool.not_false, if_true, wpS_pure, Bool.false_and]
  ·simp only [Bool.not_true, Bool.false_eq_true, if_false, wpS_pure, Bool.true_and, wpS_bind']
   rw [part_one h3 rfl (v := .int .i64 c) _ _ (by simp [ho3]), part_one h3 rfl (v := .int .i64 c') _ _ (by simp [ho3]), equal_int h3]
   cases c == c'
   ·simp only [Bool.not_false, if_true, wpS_pure]
   ·simp only [Bool.not_true, Bool.false_eq_true, if_false, wpS_pure]
end Go.X
namespace Go.Proofs.YtofmadjgbcopdaaGreatDoor
open Go Go.X
def y36_99 := And.intro (fun H => len_slice (H := H) Tryz.underlying45) (And.intro (fun H => indexAt_slice (H := H) Tryz.underlying45 Tryz.sizeOf61) (fun H => loadAt_aggE (H := H) Tryz.underlying61 rfl Tryz.sizeOf61))
theorem z0_99 {p q : Prop} (g : q) (h : Hid q -> p := by
 intro g
 repeat' (first
 | (refine wpX_stmtL rfl ?_; intro Kz hKz; simp -implicitDefEqProofs (disch := first | omega | (simp only [qd] <;> omega)) only [xq, ↓xp, qc, Nat.reduceAdd, List.range, List.range.loop, fine, Nat.reduceEqDiff, ↓reduceIte, yielded, reduceCtorEq, Nat.reduceLT, Nat.reduceMul, Nat.reduceSub, one, Nat.reduceLeDiff, runX_cons, y36_99, aq, ↓ap, qe0, qe1, qe2, *, -g, -hKz, bin_neq3 num3R, eqG_agg guardR]; try (refine hKz _ _ ?_; clear hKz Kz))
 | (refine wpX_lastL rfl ?_; intro Kz hKz; simp -implicitDefEqProofs (disch := first | omega | (simp only [qd] <;> omega)) only [xq, ↓xp, qc, Nat.reduceAdd, List.range, List.range.loop, fine, Nat.reduceEqDiff, ↓reduceIte, yielded, reduceCtorEq, Nat.reduceLT, Nat.reduceMul, Nat.reduceSub, one, Nat.reduceLeDiff, runX_cons, y36_99, aq, ↓ap, qe0, qe1, qe2, *, -g, -hKz, bin_neq3 num3R, eqG_agg guardR]; try (refine hKz _ _ ?_; clear hKz Kz; (try simp only [nq, ↓reduceIte, Nat.reduceEqDiff])))
 | (refine wpX_skip ?_; (try simp only [nq, ↓reduceIte, Nat.reduceEqDiff]))
 | (refine wpX_label ?_; (try simp only [nq, ↓reduceIte, Nat.reduceEqDiff]))
 | (refine wpX_exit ?_; (try simp only [nq, ↓reduceIte, Nat.reduceEqDiff]))
 | (refine wpX_goto ?_; (try simp only [nq, ↓reduceIte, Nat.reduceEqDiff]))
 | (refine wpX_condK (by simp only [act_eval, upd_get, Nat.reduceEqDiff, Nat.reduceLT, ↓reduceIte, *, -g]; rfl) ?_ ?_ <;> (intro hcz; first | (exfalso; simp -implicitDefEqProofs (disch := omega) only [*, -g, bq, reduceCtorEq] at hcz; done) | (simp only [dq, qe3, qe4, qe5, qe6] at hcz) | skip))
 | (refine wpX_scope0 ?_)
 | (refine wpX_block ?_)
 | (refine wpX_seq ?_))
 (try (revert Kz; refine unK ?_)); (repeat (revert hcz; refine unC ?_))
 exact Hid.out g) : Hid p := ⟨h ⟨g⟩⟩
theorem z1_99 {p q : Prop} (g : q) (h : Hid q -> p := by
 intro g
 repeat' (first
 | (refine wpX_stmtL rfl ?_; intro Kz hKz; simp -implicitDefEqProofs (disch := first | omega | (simp only [qd] <;> omega)) only [xq, ↓xp, qc, Nat.reduceAdd, List.range, List.range.loop, fine, Nat.reduceEqDiff, ↓reduceIte, yielded, reduceCtorEq, Nat.reduceLT, Nat.reduceMul, Nat.reduceSub, one, Nat.reduceLeDiff, runX_cons, y36_99, aq, ↓ap, qe0, qe1, qe2, *, -g, -hKz, bin_neq3 num3R, eqG_agg guardR]; try (refine hKz _ _ ?_; clear hKz Kz))
 | (refine wpX_lastL rfl ?_; intro Kz hKz; simp -implicitDefEqProofs (disch := first | omega | (simp only [qd] <;> omega)) only [xq, ↓xp, qc, Nat.reduceAdd, List.range, List.range.loop, fine, Nat.reduceEqDiff, ↓reduceIte, yielded, reduceCtorEq, Nat.reduceLT, Nat.reduceMul, Nat.reduceSub, one, Nat.reduceLeDiff, runX_cons, y36_99, aq, ↓ap, qe0, qe1, qe2, *, -g, -hKz, bin_neq3 num3R, eqG_agg guardR]; try (refine hKz _ _ ?_; clear hKz Kz; (try simp only [nq, ↓reduceIte, Nat.reduceEqDiff])))
 | (refine wpX_skip ?_; (try simp only [nq, ↓reduceIte, Nat.reduceEqDiff]))
 | (refine wpX_label ?_; (try simp only [nq, ↓reduceIte, Nat.reduceEqDiff]))
 | (refine wpX_exit ?_; (try simp only [nq, ↓reduceIte, Nat.reduceEqDiff]))
 | (refine wpX_goto ?_; (try simp only [nq, ↓reduceIte, Nat.reduceEqDiff]))
 | (refine wpX_condK (by simp only [act_eval, upd_get, Nat.reduceEqDiff, Nat.reduceLT, ↓reduceIte, *, -g]; rfl) ?_ ?_ <;> (intro hcz; first | (exfalso; simp -implicitDefEqProofs (disch := omega) only [*, -g, bq, reduceCtorEq] at hcz; done) | (simp only [dq, qe3, qe4, qe5, qe6] at hcz) | skip))
 | (refine wpX_scope0 ?_)
 | (refine wpX_block ?_)
 | (refine wpX_seq ?_))
 (try (revert Kz; refine unK ?_)); (repeat (revert hcz; refine unC ?_))
 exact Hid.out g) : Hid p := ⟨h ⟨g⟩⟩
theorem z2_99 {p q : Prop} (g : q) (h : Hid q -> p := by
 intro g
 repeat' (first
 | (refine wpX_stmtL rfl ?_; intro Kz hKz; simp -implicitDefEqProofs (disch := first | omega | (simp only [qd] <;> omega)) only [xq, ↓xp, qc, Nat.reduceAdd, List.range, List.range.loop, fine, Nat.reduceEqDiff, ↓reduceIte, yielded, reduceCtorEq, Nat.reduceLT, Nat.reduceMul, Nat.reduceSub, one, Nat.reduceLeDiff, runX_cons, y36_99, aq, ↓ap, qe0, qe1, qe2, *, -g, -hKz, bin_neq3 num3R, eqG_agg guardR]; try (refine hKz _ _ ?_; clear hKz Kz))
 | (refine wpX_lastL rfl ?_; intro Kz hKz; simp -implicitDefEqProofs (disch := first | omega | (simp only [qd] <;> omega)) only [xq, ↓xp, qc, Nat.reduceAdd, List.range, List.range.loop, fine, Nat.reduceEqDiff, ↓reduceIte, yielded, reduceCtorEq, Nat.reduceLT, Nat.reduceMul, Nat.reduceSub, one, Nat.reduceLeDiff, runX_cons, y36_99, aq, ↓ap, qe0, qe1, qe2, *, -g, -hKz, bin_neq3 num3R, eqG_agg guardR]; try (refine hKz _ _ ?_; clear hKz Kz; (try simp only [nq, ↓reduceIte, Nat.reduceEqDiff])))
 | (refine wpX_skip ?_; (try simp only [nq, ↓reduceIte, Nat.reduceEqDiff]))
 | (refine wpX_label ?_; (try simp only [nq, ↓reduceIte, Nat.reduceEqDiff]))
 | (refine wpX_exit ?_; (try simp only [nq, ↓reduceIte, Nat.reduceEqDiff]))
 | (refine wpX_goto ?_; (try simp only [nq, ↓reduceIte, Nat.reduceEqDiff]))
 | (refine wpX_condK (by simp only [act_eval, upd_get, Nat.reduceEqDiff, Nat.reduceLT, ↓reduceIte, *, -g]; rfl) ?_ ?_ <;> (intro hcz; first | (exfalso; simp -implicitDefEqProofs (disch := omega) only [*, -g, bq, reduceCtorEq] at hcz; done) | (simp only [dq, qe3, qe4, qe5, qe6] at hcz) | skip))
 | (refine wpX_scope0 ?_)
 | (refine wpX_block ?_)
 | (refine wpX_seq ?_))
 (try (revert Kz; refine unK ?_)); (repeat (revert hcz; refine unC ?_))
 exact Hid.out g) : Hid p := ⟨h ⟨g⟩⟩
theorem num3R : Num3 Tryz.prog 61 := ⟨⟨_, _, _, Tryz.underlying61, by decide, by decide, by decide, rfl, rfl, rfl, ⟨_, Tryz.underlying3⟩, ⟨_, Tryz.underlying3⟩, ⟨_, Tryz.underlying3⟩⟩, by kernel_rfl⟩
theorem guardR : Program.eqGuardType Tryz.prog (Program.depth Tryz.prog) 61 = false := by kernel_rfl
def RidesIn (H : Hp) (v : Value) (rs : List RideV) : Prop := ∃ (a : Option Addr) (cap : Nat), v = .slice a rs.length cap /\ rs.length <= cap /\ ∀ (i : Nat) (r : RideV), rs[i]? = some r -> ∃ (b : Nat) (p : Bool) (c : Array Value) (fr : Nat × Nat), a = some ⟨b, 0, none⟩ /\ H b = some (p, .cells c 61 fr) /\ c.extract (i * 3) (i * 3 + 3) = #[.int .i64 r.barrow, .int .i64 r.out, .int .i64 r.back] /\ i * 3 + 3 <= c.size
theorem RidesIn.le {H H' : Hp} {v : Value} {rs : List RideV} (h : RidesIn H v rs) (hl : H.le H') : RidesIn H' v rs := by
 obtain ⟨a, cap, h1, h2, h3⟩ := h
 exact ⟨a, cap, h1, h2, fun i r hi => by obtain ⟨b, p, c, fr, e1, e2, e3⟩ := h3 i r hi; exact ⟨b, p, c, fr, e1, hl _ _ e2, e3⟩⟩
theorem RidesIn.row {H₀ H : Hp} {v : Value} {rs : List RideV} (h : RowZ (Lex none) H₀ H v 61 3 rs.length (rcells rs)) : RidesIn H v rs := by
 rcases h.2 with ⟨rfl, hn, _⟩ | ⟨b, c, cap, _, hb, rfl, hcs, hcap, _, hget⟩
 ·refine ⟨none, 0, by rw [hn], by omega, fun i r hi => ?_⟩
  rw [List.length_eq_zero_iff.1 hn] at hi
  cases hi
 ·refine ⟨_, cap, rfl, hcap, fun i r hi => ?_⟩
  obtain ⟨g1, g2, g3⟩ := rcells_get rs i r hi
  have hlt := (List.getElem?_eq_some_iff.1 hi).1
  exact ⟨b, true, c, (0, 0), rfl, hb, extract3 (hget _ _ g1) (hget _ _ g2) (hget _ _ g3), by omega⟩
deriving instance DecidableEq for RideV
theorem likeRides_spec (m : Md) (H : Hp) (v w : Value) (xs ys : List RideV) (hv : RidesIn H v xs) (hw : RidesIn H w ys) (hx : xs.length <= 1000000) (hy : ys.length <= 1000000) :
  FnX Tryz.prog m 36 #[v, w] H fun e H' => e = .returned (.bool (decide (xs = ys))) /\ H' = H := by
 obtain ⟨va, vc, rfl, hvc, hgv⟩ := hv
 obtain ⟨wa, wc, rfl, hwc, hgw⟩ := hw
 refine FnX_start Tryz.func36 rfl Tryz.ntmps36 (by simp) ?_
 by_cases hl : xs.length = ys.length
 ·have hll := hl
  replace hl : xs.length <= ys.length /\ ys.length <= xs.length := by omega
  replace hgv : SameP _ := hgv
  replace hgw : SameP _ := hgw
  clear hll
  (refine @unH _ ?_; refine zA y36_99 ?_; (repeat (refine inC ?_; intro hc)); try (refine inK ?_; intro K hK))
  refine wpX_loop (fun w a' H' => ∃ e j, w = xs.length - j /\ j <= xs.length /\ a' = act 26 e [] /\ e 0 = .slice va xs.length vc /\ e 1 = .slice wa ys.length wc /\ e 5 = .int .i64 (j : Nat) /\ H' = H /\ (∀ i, i < j -> xs[i]? = ys[i]?)) (n := xs.length) ?_ ?_
  ·exact ⟨_, 0, by omega, by omega, rfl, rfl, rfl, rfl, by trivial, fun i h => by omega⟩
  ·rintro w' a' H' ⟨e, j, rfl, hj, rfl, e0, e1, e5, hH, hd⟩
   rw [hH]; clear hH H'
   by_cases hlt : j < xs.length
   ·obtain ⟨b, p, c, fr, hva, hb, hex, hsz⟩ := hgv j _ (List.getElem?_eq_getElem hlt)
    have hlt2 : j < ys.length := by omega
    obtain ⟨b2, p2, c2, fr2, hwa, hb2, hex2, hsz2⟩ := hgw j _ (List.getElem?_eq_getElem hlt2)
    have hxj := List.getElem?_eq_getElem hlt
    have hyj := List.getElem?_eq_getElem hlt2
    generalize xs[j] = x at *
    generalize ys[j] = y at *
    subst hva hwa
    have hi3 : 0 + j * 3 = j * 3 := by omega
    obtain ⟨x0, x1, x2⟩ := x
    obtain ⟨y0, y1, y2⟩ := y
    simp only [] at hex hex2
    have hne : (x0 == y0 && (x1 == y1 && x2 == y2)) = false -> xs ≠ ys := fun h e => by
     rw [e, hyj] at hxj
     cases hxj
     simp at h
    have hd2 : (x0 == y0 && (x1 == y1 && x2 == y2)) = true -> ∀ i, i < j + 1 -> xs[i]? = ys[i]? := fun h i hi => by
     by_cases he : i = j
     ·rw [he, hxj, hyj]
      simp only [Bool.and_eq_true, beq_iff_eq] at h
      obtain ⟨rfl, rfl, rfl⟩ := h
      rfl
     ·exact hd i (by omega)
    replace hne : SameP _ := hne
    replace hd2 : SameP _ := hd2
    clear hd hxj hyj
    (refine @unH _ ?_; refine z0_99 ?_; (repeat (refine inC ?_; intro hc)); try (refine inK ?_; intro K hK))
    (refine wpX_dst1 9 [(true, 0), (true, 1), (true, 2), (true, 3), (true, 4), (true, 5), (true, 6), (true, 7), (true, 8)] (by kernel_rfl) (by kernel_rfl) (by simp) (by kernel_rfl) ?_; intro K hK; (iterate 9 (apply plan_take rfl rfl rfl; (focus (simp -implicitDefEqProofs (disch := first | omega | (simp only [qd] <;> omega)) only [xq, ↓xp, qc, Nat.reduceAdd, List.range, List.range.loop, fine, Nat.reduceEqDiff, ↓reduceIte, yielded, reduceCtorEq, Nat.reduceLT, Nat.reduceMul, Nat.reduceSub, one, Nat.reduceLeDiff, runX_cons, y36_99, aq, ↓ap, qe0, qe1, qe2, *, -hK, YN_value, bin_neq3 num3R, eqG_agg guardR] <;> (first | exact rfl | exact ⟨rfl, rfl⟩ | exact ⟨rfl, trivial⟩))); simp -implicitDefEqProofs (disch := first | omega | (simp only [qd] <;> omega)) only [act_put, act_put_none])); refine plan_nil (hK _ _ ?_); clear hK K; (try simp only [nq, ↓reduceIte, Nat.reduceEqDiff]))
    generalize (x0 == y0 && (x1 == y1 && x2 == y2)) = q at *
    cases q with
    | true =>
     (refine @unH _ ?_; refine z1_99 ?_; (repeat (refine inC ?_; intro hc)); try (refine inK ?_; intro K hK))
     exact ⟨_, by omega, _, j + 1, rfl, by omega, rfl, e0, e1, rfl, by trivial, hd2 rfl⟩
    | false =>
     (refine @unH _ ?_; refine z2_99 ?_; (repeat (refine inC ?_; intro hc)); try (refine inK ?_; intro K hK))
     (refine @unH _ ?_; refine z9 Tryz.results36 ?_)
     rw [decide_eq_false (hne rfl)]
     (refine ⟨?_, ?_⟩ <;> first | rfl | trivial | assumption)
   ·obtain rfl : j = xs.length := by omega
    (refine @unH _ ?_; refine zA y36_99 ?_; (repeat (refine inC ?_; intro hc)); try (refine inK ?_; intro K hK))
    (refine @unH _ ?_; refine z9 Tryz.results36 ?_)
    refine ⟨?_, by trivial⟩
    rw [decide_eq_true]
    exact List.ext_getElem? fun i => by
     by_cases hi : i < xs.length
     ·exact hd i hi
     ·rw [List.getElem?_eq_none (by omega), List.getElem?_eq_none (by omega)]
 ·have hne : xs ≠ ys := fun e => hl (by rw [e])
  (refine @unH _ ?_; refine zA y36_99 ?_; (repeat (refine inC ?_; intro hc)); try (refine inK ?_; intro K hK))
  (refine @unH _ ?_; refine z9 Tryz.results36 ?_)
  rw [decide_eq_false hne]
  (refine ⟨?_, ?_⟩ <;> first | rfl | trivial | assumption)
end Go.Proofs.YtofmadjgbcopdaaGreatDoor
end
section
namespace Go.Proofs.YtofmadjgbcopdaaGreatDoor
open Go Go.X
theorem fillR2 (a b c a' b' c' : Int) : Instr.fill (fun i => some (i * 3, 3)) ((Array.range (2 * 3)).map fun x => (Value.agg #[.int .i64 0, .int .i64 0, .int .i64 0]).cells[x % (Value.agg #[.int .i64 0, .int .i64 0, .int .i64 0]).cells.size]!) [(0, .agg #[.int .i64 a, .int .i64 b, .int .i64 c]), (1, .agg #[.int .i64 a', .int .i64 b', .int .i64 c'])] = some #[.int .i64 a, .int .i64 b, .int .i64 c, .int .i64 a', .int .i64 b', .int .i64 c'] := by
 kernel_rfl
theorem build_rides2 {H : Hp} (a b c a' b' c' : Int) (K : Value -> Hp -> Prop) (E : Value -> Hp -> Prop) :
  wpS Tryz.prog (Instr.buildSlice 45 2 #[(0, .agg #[.int .i64 a, .int .i64 b, .int .i64 c]), (1, .agg #[.int .i64 a', .int .i64 b', .int .i64 c'])]) H K E = ∀ nb, H nb = none -> K (.slice (some ⟨nb, 0, none⟩) 2 2) (H.set nb (.cells #[.int .i64 a, .int .i64 b, .int .i64 c, .int .i64 a', .int .i64 b', .int .i64 c'] 61 (0, 0))) := by
 unfold Instr.buildSlice
 have hn1 : ¬ 2 * 3 > 2 ^ 24 := by decide
 have hn2 : ¬ 2 * 3 = 0 := by decide
 simp only [wpS_bind', wpS_underlying Tryz.underlying45, wpS_sizeOf Tryz.sizeOf61, hn1, hn2, if_false, wpS_zeroValue Tryz.zeroValue61, wpS_pure]
 have hl : (#[(0, Value.agg #[.int .i64 a, .int .i64 b, .int .i64 c]), (1, Value.agg #[.int .i64 a', .int .i64 b', .int .i64 c'])] : Array (Nat × Value)).toList = [(0, .agg #[.int .i64 a, .int .i64 b, .int .i64 c]), (1, .agg #[.int .i64 a', .int .i64 b', .int .i64 c'])] := rfl
 rw [fillR2]
 simp only [newRow, newObj, wpS_bind', wpS, wpS_pure]
end Go.Proofs.YtofmadjgbcopdaaGreatDoor
end
section
namespace Go.Proofs.YtofmadjgbcopdaaGreatDoor
open Go Go.X
theorem jobsC : hC.jobs = [0, 1, 2] := by kernel_rfl
theorem driveC : ridesG hC hC.jobs 6 [2, 1] bs0 0 = [⟨0, 4, 10⟩, ⟨0, 12, 18⟩] := by kernel_rfl
theorem lateC : lateG hC hC.jobs 6 [1, 1, 1] bs0 0 = [0, 2, 0] := by kernel_rfl
theorem verdictC : verdictF hC [1, 1, 1] = 3 := by kernel_rfl
theorem planC : planF hC 6 = some [2, 1] := by kernel_rfl
theorem bestC : bestF hC 8 = some [2, 1] := by kernel_rfl
theorem worstC : worstI hC hC.jobs 8 [2, 1] = 2 := by kernel_rfl
theorem fewestC : (numsL 1 4).find? (soF hC 8 1) = some 2 := by kernel_rfl
theorem slowestC : (numsL 1 20).reverse.find? (slowF hC) = some 6 := by kernel_rfl
theorem ruleC : (numsL 0 4).find? (soF hC 7 3) = some 3 := by kernel_rfl
theorem planOkC (pl : List Nat) (h : (∀ m ∈ pl, 1 <= m) /\ (∀ m ∈ pl, (m : Int) <= 2) /\ pl.sum = 3) : PlanOk hC hC.jobs.length pl := ⟨h.1, h.2.1, h.2.2.trans (by rw [jobsC]; rfl)⟩
end Go.Proofs.YtofmadjgbcopdaaGreatDoor
end
section
namespace Go.Proofs.YtofmadjgbcopdaaGreatDoor
open Go Go.X
def y20_102 := And.intro @callF65 (And.intro @callF26 (And.intro @lit_22_2_0_1_0 (And.intro @callF32 (And.intro @lit_22_3_0_1_2_0 (And.intro @callF34 (And.intro @callF43 (And.intro @callF58 (And.intro @callF54 (And.intro @callF47 (And.intro @callF45 (And.intro @callF51 (And.intro @callF30 (And.intro @bld_61_1_2_0 @callF36)))))))))))))
theorem driven_spec (H : Hp) : FnX Tryz.prog (.co Tryz.prog) 20 #[] H fun e H' => e = .returned (.bool true) /\ H.le H' := by
 refine FnX_start (args := []) Tryz.func20 rfl Tryz.ntmps20 (by simp) ?_
 (refine @unH _ ?_; refine zA y20_102 ?_; (repeat (refine inC ?_; intro hc)); try (refine inK ?_; intro K hK))
 refine (haulC_spec _ H).runs.mono ?_
 rintro _ A1 ⟨v1, rfl, lA1, hd1⟩
 have tA1 := lA1
 clear lA1
 ((try (refine @unH _ ?_; refine zX y20_102 ?_)); (try (refine hK _ _ ?_; clear hK K; (try simp only [nq, ↓reduceIte, Nat.reduceEqDiff]))); refine @unH _ ?_; refine zA y20_102 ?_; (repeat (refine inC ?_; intro hc)); try (refine inK ?_; intro K hK))
 refine (jobs_spec _ _ hC v1 hd1).runs.mono ?_
 rintro _ C1 ⟨jv, rfl, lC1, hj⟩
 have tC1 := Hp.le_trans tA1 lC1
 rw [jobsC] at hj
 clear hd1
 clear lC1 tA1
 ((try (refine @unH _ ?_; refine zX y20_102 ?_)); (try (refine hK _ _ ?_; clear hK K; (try simp only [nq, ↓reduceIte, Nat.reduceEqDiff]))); refine @unH _ ?_; refine zA y20_102 ?_; (repeat (refine inC ?_; intro hc)); try (refine inK ?_; intro K hK))
 refine (haulC_spec _ C1).runs.mono ?_
 rintro _ A2 ⟨v2, rfl, lA2, hd2⟩
 have hj_A2 := hj.le lA2
 clear hj
 have tA2 := Hp.le_trans tC1 lA2
 clear lA2 tC1
 ((try (refine @unH _ ?_; refine zX y20_102 ?_)); (try (refine hK _ _ ?_; clear hK K; (try simp only [nq, ↓reduceIte, Nat.reduceEqDiff]))); refine @unH _ ?_; refine zA y20_102 ?_; (repeat (refine inC ?_; intro hc)); try (refine inK ?_; intro K hK))
 (intro b2 hb2; generalize hG : Hp.set _ b2 _ = B2; have lB2 := le_of_set hG hb2; have vb2 := at_of_set hG; clear hG)
 have hj_B2 := hj_A2.le lB2
 clear hj_A2
 have hd2' := hd2.le lB2
 have hp2 : SlI B2 (.slice (some ⟨b2, 0, none⟩) 2 2) [2, 1] := sli_new (xs := [2, 1]) vb2 rfl
 have tB2 := Hp.le_trans tA2 lB2
 clear lB2 tA2 vb2 hd2 hb2
 ((try (refine @unH _ ?_; refine zX y20_102 ?_)); (try (refine hK _ _ ?_; clear hK K; (try simp only [nq, ↓reduceIte, Nat.reduceEqDiff]))); refine @unH _ ?_; refine zA y20_102 ?_; (repeat (refine inC ?_; intro hc)); try (refine inK ?_; intro K hK))
 refine (Drive_spec _ _ hC v2 hd2' _ [2, 1] hp2 (planOkC _ (by decide)) (by rw [jobsC]; decide) (by rw [jobsC]; decide) 6 (by decide) (by decide)).runs.mono ?_
 rintro _ C2 ⟨D2, rv, rfl, lD2, hrow⟩
 have lC2 := Hp.le_trans lD2 hrow.1.toLe
 have hj_C2 := hj_B2.le lC2
 clear hj_B2
 have tC2 := Hp.le_trans tB2 lC2
 rw [driveC] at hrow
 have hr := RidesIn.row (rs := [⟨0, 4, 10⟩, ⟨0, 12, 18⟩]) hrow
 clear hrow lD2 hp2 hd2'
 clear lC2 tB2
 ((try (refine @unH _ ?_; refine zX y20_102 ?_)); (try (refine hK _ _ ?_; clear hK K; (try simp only [nq, ↓reduceIte, Nat.reduceEqDiff]))); refine @unH _ ?_; refine zA y20_102 ?_; (repeat (refine inC ?_; intro hc)); try (refine inK ?_; intro K hK))
 refine (haulC_spec _ C2).runs.mono ?_
 rintro _ A3 ⟨v3, rfl, lA3, hd3⟩
 have hj_A3 := hj_C2.le lA3
 have hr_A3 := hr.le lA3
 clear hj_C2 hr
 have tA3 := Hp.le_trans tC2 lA3
 clear lA3 tC2
 ((try (refine @unH _ ?_; refine zX y20_102 ?_)); (try (refine hK _ _ ?_; clear hK K; (try simp only [nq, ↓reduceIte, Nat.reduceEqDiff]))); refine @unH _ ?_; refine zA y20_102 ?_; (repeat (refine inC ?_; intro hc)); try (refine inK ?_; intro K hK))
 (intro b3 hb3; generalize hG : Hp.set _ b3 _ = B3; have lB3 := le_of_set hG hb3; have vb3 := at_of_set hG; clear hG)
 have hj_B3 := hj_A3.le lB3
 have hr_B3 := hr_A3.le lB3
 clear hj_A3 hr_A3
 have hd3' := hd3.le lB3
 have hp3 : SlI B3 (.slice (some ⟨b3, 0, none⟩) 3 3) [1, 1, 1] := sli_new (xs := [1, 1, 1]) vb3 rfl
 have tB3 := Hp.le_trans tA3 lB3
 clear lB3 tA3 vb3 hd3 hb3
 ((try (refine @unH _ ?_; refine zX y20_102 ?_)); (try (refine hK _ _ ?_; clear hK K; (try simp only [nq, ↓reduceIte, Nat.reduceEqDiff]))); refine @unH _ ?_; refine zA y20_102 ?_; (repeat (refine inC ?_; intro hc)); try (refine inK ?_; intro K hK))
 refine (Late_spec _ _ hC v3 hd3' _ [1, 1, 1] hp3 (planOkC _ (by decide)) (by rw [jobsC]; decide) (by rw [jobsC]; decide) 6 (by decide) (by decide)).runs.mono ?_
 rintro _ C3 ⟨lv, rfl, lC3, hl⟩
 have hj_C3 := hj_B3.le lC3
 have hr_C3 := hr_B3.le lC3
 clear hj_B3 hr_B3
 have tC3 := Hp.le_trans tB3 lC3
 rw [lateC] at hl
 clear hp3 hd3'
 clear lC3 tB3
 ((try (refine @unH _ ?_; refine zX y20_102 ?_)); (try (refine hK _ _ ?_; clear hK K; (try simp only [nq, ↓reduceIte, Nat.reduceEqDiff]))); refine @unH _ ?_; refine zA y20_102 ?_; (repeat (refine inC ?_; intro hc)); try (refine inK ?_; intro K hK))
 refine (haulC_spec _ C3).runs.mono ?_
 rintro _ A4 ⟨v4, rfl, lA4, hd4⟩
 have hj_A4 := hj_C3.le lA4
 have hr_A4 := hr_C3.le lA4
 have hl_A4 := hl.le lA4
 clear hj_C3 hr_C3 hl
 have tA4 := Hp.le_trans tC3 lA4
 clear lA4 tC3
 ((try (refine @unH _ ?_; refine zX y20_102 ?_)); (try (refine hK _ _ ?_; clear hK K; (try simp only [nq, ↓reduceIte, Nat.reduceEqDiff]))); refine @unH _ ?_; refine zA y20_102 ?_; (repeat (refine inC ?_; intro hc)); try (refine inK ?_; intro K hK))
 (intro b4 hb4; generalize hG : Hp.set _ b4 _ = B4; have lB4 := le_of_set hG hb4; have vb4 := at_of_set hG; clear hG)
 have hj_B4 := hj_A4.le lB4
 have hr_B4 := hr_A4.le lB4
 have hl_B4 := hl_A4.le lB4
 clear hj_A4 hr_A4 hl_A4
 have hd4' := hd4.le lB4
 have hp4 : SlI B4 (.slice (some ⟨b4, 0, none⟩) 3 3) [1, 1, 1] := sli_new (xs := [1, 1, 1]) vb4 rfl
 have tB4 := Hp.le_trans tA4 lB4
 clear lB4 tA4 vb4 hd4 hb4
 ((try (refine @unH _ ?_; refine zX y20_102 ?_)); (try (refine hK _ _ ?_; clear hK K; (try simp only [nq, ↓reduceIte, Nat.reduceEqDiff]))); refine @unH _ ?_; refine zA y20_102 ?_; (repeat (refine inC ?_; intro hc)); try (refine inK ?_; intro K hK))
 refine (Verdict_spec _ hC v4 hd4' _ [1, 1, 1] hp4 (planOkC _ (by decide)) (by rw [jobsC]; decide) (by rw [jobsC]; decide)).runs.mono ?_
 rintro _ C4 ⟨rfl, lC4⟩
 have hj_C4 := hj_B4.le lC4
 have hr_C4 := hr_B4.le lC4
 have hl_C4 := hl_B4.le lC4
 clear hj_B4 hr_B4 hl_B4
 have tC4 := Hp.le_trans tB4 lC4
 rw [verdictC]
 clear hp4 hd4'
 clear lC4 tB4
 ((try (refine @unH _ ?_; refine zX y20_102 ?_)); (try (refine hK _ _ ?_; clear hK K; (try simp only [nq, ↓reduceIte, Nat.reduceEqDiff]))); refine @unH _ ?_; refine zA y20_102 ?_; (repeat (refine inC ?_; intro hc)); try (refine inK ?_; intro K hK))
 refine (haulC_spec _ C4).runs.mono ?_
 rintro _ A5 ⟨v5, rfl, lA5, hd5⟩
 have hj_A5 := hj_C4.le lA5
 have hr_A5 := hr_C4.le lA5
 have hl_A5 := hl_C4.le lA5
 clear hj_C4 hr_C4 hl_C4
 have tA5 := Hp.le_trans tC4 lA5
 clear lA5 tC4
 ((try (refine @unH _ ?_; refine zX y20_102 ?_)); (try (refine hK _ _ ?_; clear hK K; (try simp only [nq, ↓reduceIte, Nat.reduceEqDiff]))); refine @unH _ ?_; refine zA y20_102 ?_; (repeat (refine inC ?_; intro hc)); try (refine inK ?_; intro K hK))
 refine (Plan_spec _ _ hC v5 hd5 (by rw [jobsC]; decide) (by rw [jobsC]; decide) 6 (by decide) (by decide)).runs.mono ?_
 rintro _ C5 ⟨lC5, pv, pc, rfl, hpl⟩
 have hj_C5 := hj_A5.le lC5
 have hr_C5 := hr_A5.le lC5
 have hl_C5 := hl_A5.le lC5
 clear hj_A5 hr_A5 hl_A5
 have tC5 := Hp.le_trans tA5 lC5
 rw [planC] at hpl
 obtain ⟨rfl, hp⟩ := hpl
 clear hd5
 clear lC5 tA5
 ((try (refine @unH _ ?_; refine zX y20_102 ?_)); (try (refine hK _ _ ?_; clear hK K; (try simp only [nq, ↓reduceIte, Nat.reduceEqDiff]))); refine @unH _ ?_; refine zA y20_102 ?_; (repeat (refine inC ?_; intro hc)); try (refine inK ?_; intro K hK))
 refine (haulC_spec _ C5).runs.mono ?_
 rintro _ A6 ⟨v6, rfl, lA6, hd6⟩
 have hj_A6 := hj_C5.le lA6
 have hr_A6 := hr_C5.le lA6
 have hl_A6 := hl_C5.le lA6
 have hp_A6 := hp.le lA6
 clear hj_C5 hr_C5 hl_C5 hp
 have tA6 := Hp.le_trans tC5 lA6
 clear lA6 tC5
 ((try (refine @unH _ ?_; refine zX y20_102 ?_)); (try (refine hK _ _ ?_; clear hK K; (try simp only [nq, ↓reduceIte, Nat.reduceEqDiff]))); refine @unH _ ?_; refine zA y20_102 ?_; (repeat (refine inC ?_; intro hc)); try (refine inK ?_; intro K hK))
 refine (Best_spec _ _ hC v6 hd6 (by rw [jobsC]; decide) (by rw [jobsC]; decide) 8 (by decide) (by decide)).runs.mono ?_
 rintro _ C6 ⟨bv, bxs, rfl, lC6, hbf, hb⟩
 have hj_C6 := hj_A6.le lC6
 have hr_C6 := hr_A6.le lC6
 have hl_C6 := hl_A6.le lC6
 have hp_C6 := hp_A6.le lC6
 clear hj_A6 hr_A6 hl_A6 hp_A6
 have tC6 := Hp.le_trans tA6 lC6
 rw [bestC] at hbf
 cases hbf
 rw [worstC]
 clear hd6
 clear lC6 tA6
 ((try (refine @unH _ ?_; refine zX y20_102 ?_)); (try (refine hK _ _ ?_; clear hK K; (try simp only [nq, ↓reduceIte, Nat.reduceEqDiff]))); refine @unH _ ?_; refine zA y20_102 ?_; (repeat (refine inC ?_; intro hc)); try (refine inK ?_; intro K hK))
 refine (haulC_spec _ C6).runs.mono ?_
 rintro _ A7 ⟨v7, rfl, lA7, hd7⟩
 have hj_A7 := hj_C6.le lA7
 have hr_A7 := hr_C6.le lA7
 have hl_A7 := hl_C6.le lA7
 have hp_A7 := hp_C6.le lA7
 have hb_A7 := hb.le lA7
 clear hj_C6 hr_C6 hl_C6 hp_C6 hb
 have tA7 := Hp.le_trans tC6 lA7
 clear lA7 tC6
 ((try (refine @unH _ ?_; refine zX y20_102 ?_)); (try (refine hK _ _ ?_; clear hK K; (try simp only [nq, ↓reduceIte, Nat.reduceEqDiff]))); refine @unH _ ?_; refine zA y20_102 ?_; (repeat (refine inC ?_; intro hc)); try (refine inK ?_; intro K hK))
 refine (fewest_spec _ _ hC v7 hd7 8 (by decide) (by decide)).runs.mono ?_
 rintro _ C7 ⟨lC7, y7, c7, rfl, h7⟩
 have hj_C7 := hj_A7.le lC7
 have hr_C7 := hr_A7.le lC7
 have hl_C7 := hl_A7.le lC7
 have hp_C7 := hp_A7.le lC7
 have hb_C7 := hb_A7.le lC7
 clear hj_A7 hr_A7 hl_A7 hp_A7 hb_A7
 have tC7 := Hp.le_trans tA7 lC7
 rw [fewestC] at h7
 obtain ⟨rfl, rfl⟩ := h7
 clear hd7
 clear lC7 tA7
 ((try (refine @unH _ ?_; refine zX y20_102 ?_)); (try (refine hK _ _ ?_; clear hK K; (try simp only [nq, ↓reduceIte, Nat.reduceEqDiff]))); refine @unH _ ?_; refine zA y20_102 ?_; (repeat (refine inC ?_; intro hc)); try (refine inK ?_; intro K hK))
 refine (haulC_spec _ C7).runs.mono ?_
 rintro _ A8 ⟨v8, rfl, lA8, hd8⟩
 have hj_A8 := hj_C7.le lA8
 have hr_A8 := hr_C7.le lA8
 have hl_A8 := hl_C7.le lA8
 have hp_A8 := hp_C7.le lA8
 have hb_A8 := hb_C7.le lA8
 clear hj_C7 hr_C7 hl_C7 hp_C7 hb_C7
 have tA8 := Hp.le_trans tC7 lA8
 clear lA8 tC7
 ((try (refine @unH _ ?_; refine zX y20_102 ?_)); (try (refine hK _ _ ?_; clear hK K; (try simp only [nq, ↓reduceIte, Nat.reduceEqDiff]))); refine @unH _ ?_; refine zA y20_102 ?_; (repeat (refine inC ?_; intro hc)); try (refine inK ?_; intro K hK))
 refine (Slowest_spec _ _ hC v8 hd8).runs.mono ?_
 rintro _ C8 ⟨lC8, y8, c8, rfl, h8⟩
 have hj_C8 := hj_A8.le lC8
 have hr_C8 := hr_A8.le lC8
 have hl_C8 := hl_A8.le lC8
 have hp_C8 := hp_A8.le lC8
 have hb_C8 := hb_A8.le lC8
 clear hj_A8 hr_A8 hl_A8 hp_A8 hb_A8
 have tC8 := Hp.le_trans tA8 lC8
 rw [slowestC] at h8
 obtain ⟨rfl, rfl⟩ := h8
 clear hd8
 clear lC8 tA8
 ((try (refine @unH _ ?_; refine zX y20_102 ?_)); (try (refine hK _ _ ?_; clear hK K; (try simp only [nq, ↓reduceIte, Nat.reduceEqDiff]))); refine @unH _ ?_; refine zA y20_102 ?_; (repeat (refine inC ?_; intro hc)); try (refine inK ?_; intro K hK))
 refine (haulC_spec _ C8).runs.mono ?_
 rintro _ A9 ⟨v9, rfl, lA9, hd9⟩
 have hj_A9 := hj_C8.le lA9
 have hr_A9 := hr_C8.le lA9
 have hl_A9 := hl_C8.le lA9
 have hp_A9 := hp_C8.le lA9
 have hb_A9 := hb_C8.le lA9
 clear hj_C8 hr_C8 hl_C8 hp_C8 hb_C8
 have tA9 := Hp.le_trans tC8 lA9
 clear lA9 tC8
 ((try (refine @unH _ ?_; refine zX y20_102 ?_)); (try (refine hK _ _ ?_; clear hK K; (try simp only [nq, ↓reduceIte, Nat.reduceEqDiff]))); refine @unH _ ?_; refine zA y20_102 ?_; (repeat (refine inC ?_; intro hc)); try (refine inK ?_; intro K hK))
 refine (rule_spec _ _ hC v9 hd9 7 (by decide) (by decide)).runs.mono ?_
 rintro _ C9 ⟨lC9, y9, c9, rfl, h9⟩
 have hj_C9 := hj_A9.le lC9
 have hr_C9 := hr_A9.le lC9
 have hl_C9 := hl_A9.le lC9
 have hp_C9 := hp_A9.le lC9
 have hb_C9 := hb_A9.le lC9
 clear hj_A9 hr_A9 hl_A9 hp_A9 hb_A9
 have tC9 := Hp.le_trans tA9 lC9
 rw [ruleC] at h9
 obtain ⟨rfl, rfl⟩ := h9
 clear hd9
 clear lC9 tA9
 ((try (refine @unH _ ?_; refine zX y20_102 ?_)); (try (refine hK _ _ ?_; clear hK K; (try simp only [nq, ↓reduceIte, Nat.reduceEqDiff]))); refine @unH _ ?_; refine zA y20_102 ?_; (repeat (refine inC ?_; intro hc)); try (refine inK ?_; intro K hK))
 refine wpX_forget (fun e => e 1 = jv /\ e 2 = .int .i64 0 /\ e 3 = rv /\ e 4 = .int .i64 0 /\ e 5 = lv /\ e 6 = .int .i64 0 /\ e 7 = .int .i64 3 /\ e 8 = .int .i64 0 /\ e 9 = pv /\ e 10 = .int .i64 0 /\ e 11 = bv /\ e 12 = .int .i64 2 /\ e 13 = .int .i64 0 /\ e 14 = .int .i64 2 /\ e 15 = .int .i64 0 /\ e 16 = .int .i64 6 /\ e 17 = .int .i64 0 /\ e 18 = .int .i64 3 /\ e 19 = .int .i64 0) ⟨rfl, rfl, rfl, rfl, rfl, rfl, rfl, rfl, rfl, rfl, rfl, rfl, rfl, rfl, rfl, rfl, rfl, rfl, rfl⟩ ?_
 rintro e ⟨e1, e2, e3, e4, e5, e6, e7, e8, e9, e10, e11, e12, e13, e14, e15, e16, e17, e18, e19⟩
 simp only [List.append]
 refine wpX_lastL rfl ?_; intro K hK
 (refine @unH _ ?_; refine zX y20_102 ?_)
 (intro g1 hg1; generalize hG : Hp.set _ g1 _ = D1; have lD1 := le_of_set hG hg1; have vg1 := at_of_set hG; clear hG)
 have hj_D1 := hj_C9.le lD1
 have hr_D1 := hr_C9.le lD1
 have hl_D1 := hl_C9.le lD1
 have hp_D1 := hp_C9.le lD1
 have hb_D1 := hb_C9.le lD1
 clear hj_C9 hr_C9 hl_C9 hp_C9 hb_C9
 have tD1 := Hp.le_trans tC9 lD1
 have sl1 : SlI D1 (.slice (some ⟨g1, 0, none⟩) 3 3) [0, 1, 2] := sli_new (xs := [0, 1, 2]) vg1 rfl
 clear lD1 tC9 hg1 vg1
 refine (likeInts_spec _ D1 jv _ [0, 1, 2] [0, 1, 2] hj_D1 sl1 (by decide) (by decide)).runs.mono ?_
 rintro _ HQ ⟨rfl, hHQ⟩
 rw [hHQ]
 clear hHQ HQ
 rw [decide_eq_true rfl]
 clear sl1
 ((try (refine @unH _ ?_; refine zX (And.intro y20_102 @build_rides2) ?_)); (try (refine hK _ _ ?_; clear hK K; (try simp only [nq, ↓reduceIte, Nat.reduceEqDiff]))); refine @unH _ ?_; refine zA (And.intro y20_102 @build_rides2) ?_; (repeat (refine inC ?_; intro hc)); try (refine inK ?_; intro K hK))
 (intro g2 hg2; generalize hG : Hp.set _ g2 _ = D2; have lD2 := le_of_set hG hg2; have vg2 := at_of_set hG; clear hG)
 have hj_D2 := hj_D1.le lD2
 have hr_D2 := hr_D1.le lD2
 have hl_D2 := hl_D1.le lD2
 have hp_D2 := hp_D1.le lD2
 have hb_D2 := hb_D1.le lD2
 clear hj_D1 hr_D1 hl_D1 hp_D1 hb_D1
 have tD2 := Hp.le_trans tD1 lD2
 have sl2 : RidesIn D2 (.slice (some ⟨g2, 0, none⟩) 2 2) [⟨0, 4, 10⟩, ⟨0, 12, 18⟩] := ⟨_, 2, rfl, Nat.le_refl _, fun i r hi => by
  match i, hi with
  | 0, hi => cases hi; exact ⟨g2, _, _, _, rfl, vg2, rfl, by decide⟩
  | 1, hi => cases hi; exact ⟨g2, _, _, _, rfl, vg2, rfl, by decide⟩
  | i + 2, hi => simp at hi⟩
 clear lD2 tD1 hg2 vg2
 refine (likeRides_spec _ D2 rv _ [⟨0, 4, 10⟩, ⟨0, 12, 18⟩] [⟨0, 4, 10⟩, ⟨0, 12, 18⟩] hr_D2 sl2 (by decide) (by decide)).runs.mono ?_
 rintro _ HQ ⟨rfl, hHQ⟩
 rw [hHQ]
 clear hHQ HQ
 rw [decide_eq_true rfl]
 clear sl2
 ((try (refine @unH _ ?_; refine zX (And.intro y20_102 @build_rides2) ?_)); (try (refine hK _ _ ?_; clear hK K; (try simp only [nq, ↓reduceIte, Nat.reduceEqDiff]))); refine @unH _ ?_; refine zA (And.intro y20_102 @build_rides2) ?_; (repeat (refine inC ?_; intro hc)); try (refine inK ?_; intro K hK))
 (intro g3 hg3; generalize hG : Hp.set _ g3 _ = D3; have lD3 := le_of_set hG hg3; have vg3 := at_of_set hG; clear hG)
 have hj_D3 := hj_D2.le lD3
 have hr_D3 := hr_D2.le lD3
 have hl_D3 := hl_D2.le lD3
 have hp_D3 := hp_D2.le lD3
 have hb_D3 := hb_D2.le lD3
 clear hj_D2 hr_D2 hl_D2 hp_D2 hb_D2
 have tD3 := Hp.le_trans tD2 lD3
 have sl3 : SlI D3 (.slice (some ⟨g3, 0, none⟩) 3 3) [0, 2, 0] := sli_new (xs := [0, 2, 0]) vg3 rfl
 clear lD3 tD2 hg3 vg3
 refine (likeInts_spec _ D3 lv _ [0, 2, 0] [0, 2, 0] hl_D3 sl3 (by decide) (by decide)).runs.mono ?_
 rintro _ HQ ⟨rfl, hHQ⟩
 rw [hHQ]
 clear hHQ HQ
 rw [decide_eq_true rfl]
 clear sl3
 ((try (refine @unH _ ?_; refine zX (And.intro y20_102 @build_rides2) ?_)); (try (refine hK _ _ ?_; clear hK K; (try simp only [nq, ↓reduceIte, Nat.reduceEqDiff]))); refine @unH _ ?_; refine zA (And.intro y20_102 @build_rides2) ?_; (repeat (refine inC ?_; intro hc)); try (refine inK ?_; intro K hK))
 (intro g4 hg4; generalize hG : Hp.set _ g4 _ = D4; have lD4 := le_of_set hG hg4; have vg4 := at_of_set hG; clear hG)
 have hj_D4 := hj_D3.le lD4
 have hr_D4 := hr_D3.le lD4
 have hl_D4 := hl_D3.le lD4
 have hp_D4 := hp_D3.le lD4
 have hb_D4 := hb_D3.le lD4
 clear hj_D3 hr_D3 hl_D3 hp_D3 hb_D3
 have tD4 := Hp.le_trans tD3 lD4
 have sl4 : SlI D4 (.slice (some ⟨g4, 0, none⟩) 2 2) [2, 1] := sli_new (xs := [2, 1]) vg4 rfl
 clear lD4 tD3 hg4 vg4
 refine (likeInts_spec _ D4 pv _ [2, 1] [2, 1] hp_D4 sl4 (by decide) (by decide)).runs.mono ?_
 rintro _ HQ ⟨rfl, hHQ⟩
 rw [hHQ]
 clear hHQ HQ
 rw [decide_eq_true rfl]
 clear sl4
 ((try (refine @unH _ ?_; refine zX (And.intro y20_102 @build_rides2) ?_)); (try (refine hK _ _ ?_; clear hK K; (try simp only [nq, ↓reduceIte, Nat.reduceEqDiff]))); refine @unH _ ?_; refine zA (And.intro y20_102 @build_rides2) ?_; (repeat (refine inC ?_; intro hc)); try (refine inK ?_; intro K hK))
 (intro g5 hg5; generalize hG : Hp.set _ g5 _ = D5; have lD5 := le_of_set hG hg5; have vg5 := at_of_set hG; clear hG)
 have hj_D5 := hj_D4.le lD5
 have hr_D5 := hr_D4.le lD5
 have hl_D5 := hl_D4.le lD5
 have hp_D5 := hp_D4.le lD5
 have hb_D5 := hb_D4.le lD5
 clear hj_D4 hr_D4 hl_D4 hp_D4 hb_D4
 have tD5 := Hp.le_trans tD4 lD5
 have sl5 : SlI D5 (.slice (some ⟨g5, 0, none⟩) 2 2) [2, 1] := sli_new (xs := [2, 1]) vg5 rfl
 clear lD5 tD4 hg5 vg5
 refine (likeInts_spec _ D5 bv _ [2, 1] [2, 1] hb_D5 sl5 (by decide) (by decide)).runs.mono ?_
 rintro _ HQ ⟨rfl, hHQ⟩
 rw [hHQ]
 clear hHQ HQ
 rw [decide_eq_true rfl]
 clear sl5
 ((try (refine @unH _ ?_; refine zX (And.intro y20_102 @build_rides2) ?_)); (try (refine hK _ _ ?_; clear hK K; (try simp only [nq, ↓reduceIte, Nat.reduceEqDiff]))); refine @unH _ ?_; refine zA (And.intro y20_102 @build_rides2) ?_; (repeat (refine inC ?_; intro hc)); try (refine inK ?_; intro K hK))
 (refine @unH _ ?_; refine z9 Tryz.results20 ?_)
 exact ⟨by trivial, tD5⟩
end Go.Proofs.YtofmadjgbcopdaaGreatDoor
end
section
namespace Go.Proofs.YtofmadjgbcopdaaGreatDoor
open Go Go.X
def y38_103 := And.intro (fun H => ex_alloc (H := H) (P := Tryz.prog) (h := Tryz.zeroValue29)) (And.intro @callF81 (And.intro (fun H => fieldAt_eq (H := H) Tryz.underlying29 (i := 0) rfl (off := 0) rfl Tryz.sizeOf25) (And.intro (fun H => storeAt_agg (H := H) Tryz.sizeOf25) (And.intro (fun H => fieldAt_eq (H := H) Tryz.underlying29 (i := 1) rfl (off := 4) rfl Tryz.sizeOf22) (And.intro (fun H => storeAt_slice (H := H) Tryz.sizeOf22) (And.intro @callF42 (And.intro (fun H => fieldAt_eq (H := H) Tryz.underlying29 (i := 2) rfl (off := 5) rfl Tryz.sizeOf3) (And.intro (fun H => storeAt_int (H := H) Tryz.sizeOf3) (And.intro (fun H => fieldAt_eq (H := H) Tryz.underlying25 (i := 3) rfl (off := 3) rfl Tryz.sizeOf23) (And.intro (fun H => loadAt_one (H := H) Tryz.underlying23 rfl) (And.intro (fun H => len_slice (H := H) Tryz.underlying23) (And.intro (fun H => fieldAt_eq (H := H) Tryz.underlying29 (i := 3) rfl (off := 6) rfl Tryz.sizeOf22) (And.intro (fun H => loadAt_one (H := H) Tryz.underlying22 rfl) (And.intro @lit_22_1_0_0 (And.intro @lit_22_4_0_1_2_3_0 (And.intro @callF82 (And.intro @lit_22_2_0_1_0 (And.intro @callF24 (And.intro (fun H => fieldAt_eq (H := H) Tryz.underlying29 (i := 4) rfl (off := 7) rfl Tryz.sizeOf3) (And.intro (fun H => fieldAt_eq (H := H) Tryz.underlying29 (i := 5) rfl (off := 8) rfl Tryz.sizeOf3) (And.intro (fun H => fieldAt_eq (H := H) Tryz.underlying29 (i := 6) rfl (off := 9) rfl Tryz.sizeOf3) (And.intro @lit_22_3_0_1_2_0 (And.intro @callF83 (And.intro (fun H => fieldAt_eq (H := H) Tryz.underlying29 (i := 7) rfl (off := 10) rfl Tryz.sizeOf27) (And.intro (fun H => storeAt_agg (H := H) Tryz.sizeOf27) (And.intro (fun H => loadAt_aggE (H := H) Tryz.underlying29 rfl Tryz.sizeOf29) (fun H => storeAt_agg (H := H) Tryz.sizeOf29)))))))))))))))))))))))))))
theorem haulN_specX (m : Md) (H : Hp) (b k c : Nat) (hc : c <= 8) (hT : TinI H b (k + 220)) :
  FnX Tryz.prog m 38 #[.pointer (some ⟨b, 0, none⟩), .int .i64 (c : Nat)] H fun e H' => ∃ n v, e = .returned (n.agg v) /\ HaulIn H' n v /\ n.xss.length <= c /\ Lex (some b) H H' /\ TinI H' b k /\ ∀ x ∈ n.xs, x <= 82 := by
 refine FnX_start Tryz.func38 rfl Tryz.ntmps38 (by simp) ?_
 (refine @unH _ ?_; refine z8 y38_103 ?_; try (refine inK ?_; intro K hK))
 intro rb hrb
 refine hK _ _ ?_; clear hK K
 (refine @unH _ ?_; refine z8 y38_103 ?_; try (refine inK ?_; intro K hK))
 intro hb hhb
 refine hK _ _ ?_; clear hK K
 have hrbn := hT.ne hrb
 have hT1 := hT.new hrb (o := .cells #[.int .i64 0, .int .i64 0, .slice none 0 0, .slice none 0 0, .slice none 0 0, .int .i64 0, .slice none 0 0, .int .i64 0, .int .i64 0, .int .i64 0, .int .i64 0, .int .i64 0] 29 (0, 0))
 have hT2 := hT1.new hhb (o := .cells #[.int .i64 0, .int .i64 0, .slice none 0 0, .slice none 0 0, .slice none 0 0, .int .i64 0, .slice none 0 0, .int .i64 0, .int .i64 0, .int .i64 0, .int .i64 0, .int .i64 0] 29 (0, 0))
 have hhbn := hT1.ne hhb
 (refine @unH _ ?_; refine z8 y38_103 ?_; try (refine inK ?_; intro K hK))
 refine (vaultOf_spec m _ b (k + 110) c 2 (by omega) (by omega) (by omega) (by exact hT2.less (by omega))).runs.mono ?_
 rintro _ H3 ⟨places, pieces, st, start, cv, xss, tv, ts, rfl, hst, hcv, hts, hvok, hxl, htok, hl3, hT3⟩
 have hhb3 := hl3.keeps set_at hhbn
 obtain ⟨sa, sc, rfl, hsc, hsi⟩ := hst
 obtain ⟨ca, cc, rfl, hcc, hci⟩ := hcv
 obtain ⟨ta, tc, rfl, htc, hti⟩ := hts
 simp -implicitDefEqProofs (disch := first | omega | (simp only [qd] <;> omega)) only [xq, ↓xp, qc, Nat.reduceAdd, List.range, List.range.loop, fine, Nat.reduceEqDiff, ↓reduceIte, yielded, reduceCtorEq, Nat.reduceLT, Nat.reduceMul, Nat.reduceSub, one, Nat.reduceLeDiff, runX_cons, y38_103, storL_of hhb3, stor_at hhb3]
 refine hK _ _ ?_; clear hK K
 have hvt3 : VT H3 (.slice sa start.length sc) start (.slice ca xss.length cc) xss (.slice ta ts.length tc) ts := ⟨⟨sa, sc, rfl, hsc, hsi⟩, ⟨ca, cc, rfl, hcc, hci⟩, ⟨ta, tc, rfl, htc, hti⟩⟩
 have hvt4 := hvt3.set hhb3 (by decide) (by decide) (o := .cells #[.int .i64 places, .int .i64 pieces, .slice sa start.length sc, .slice ca xss.length cc, .slice ta ts.length tc, .int .i64 0, .slice none 0 0, .int .i64 0, .int .i64 0, .int .i64 0, .int .i64 0, .int .i64 0] 29 (0, 0))
 have hT4 := hT3.own hhb3 hhbn.symm (o' := .cells #[.int .i64 places, .int .i64 pieces, .slice sa start.length sc, .slice ca xss.length cc, .slice ta ts.length tc, .int .i64 0, .slice none 0 0, .int .i64 0, .int .i64 0, .int .i64 0, .int .i64 0, .int .i64 0] 29 (0, 0))
 have hl4 := ((Lex.refl.new hhb).trans hl3).own hhb (o := .cells #[.int .i64 places, .int .i64 pieces, .slice sa start.length sc, .slice ca xss.length cc, .slice ta ts.length tc, .int .i64 0, .slice none 0 0, .int .i64 0, .int .i64 0, .int .i64 0, .int .i64 0, .int .i64 0] 29 (0, 0))
 have hhb4 : (H3.set hb (.cells #[.int .i64 places, .int .i64 pieces, .slice sa start.length sc, .slice ca xss.length cc, .slice ta ts.length tc, .int .i64 0, .slice none 0 0, .int .i64 0, .int .i64 0, .int .i64 0, .int .i64 0, .int .i64 0] 29 (0, 0))) hb = _ := set_at
 generalize (H3.set hb (.cells #[.int .i64 places, .int .i64 pieces, .slice sa start.length sc, .slice ca xss.length cc, .slice ta ts.length tc, .int .i64 0, .slice none 0 0, .int .i64 0, .int .i64 0, .int .i64 0, .int .i64 0, .int .i64 0] 29 (0, 0))) = H4 at *
 (refine @unH _ ?_; refine z8 y38_103 ?_; try (refine inK ?_; intro K hK))
 refine (uptoL m H4 b (k + 109) 3 (by omega) (hT4.less (by omega))).runs.mono ?_
 rintro _ H5 ⟨rule, hru0, hru1, rfl, hl5, hT5⟩
 have hhb5 := hl5.keeps hhb4 hhbn
 simp -implicitDefEqProofs (disch := first | omega | (simp only [qd] <;> omega)) only [xq, ↓xp, qc, Nat.reduceAdd, List.range, List.range.loop, fine, Nat.reduceEqDiff, ↓reduceIte, yielded, reduceCtorEq, Nat.reduceLT, Nat.reduceMul, Nat.reduceSub, one, Nat.reduceLeDiff, runX_cons, y38_103, stor_at hhb5]
 refine hK _ _ ?_; clear hK K
 have hvt6 := (hvt4.lex hl5 hT4).set hhb5 (by decide) (by decide) (o := .cells #[.int .i64 places, .int .i64 pieces, .slice sa start.length sc, .slice ca xss.length cc, .slice ta ts.length tc, .int .i64 rule, .slice none 0 0, .int .i64 0, .int .i64 0, .int .i64 0, .int .i64 0, .int .i64 0] 29 (0, 0))
 have hT6 := hT5.own hhb5 hhbn.symm (o' := .cells #[.int .i64 places, .int .i64 pieces, .slice sa start.length sc, .slice ca xss.length cc, .slice ta ts.length tc, .int .i64 rule, .slice none 0 0, .int .i64 0, .int .i64 0, .int .i64 0, .int .i64 0, .int .i64 0] 29 (0, 0))
 have hl6 := (hl4.trans hl5).own hhb (o := .cells #[.int .i64 places, .int .i64 pieces, .slice sa start.length sc, .slice ca xss.length cc, .slice ta ts.length tc, .int .i64 rule, .slice none 0 0, .int .i64 0, .int .i64 0, .int .i64 0, .int .i64 0, .int .i64 0] 29 (0, 0))
 have hhb6 : (H5.set hb (.cells #[.int .i64 places, .int .i64 pieces, .slice sa start.length sc, .slice ca xss.length cc, .slice ta ts.length tc, .int .i64 rule, .slice none 0 0, .int .i64 0, .int .i64 0, .int .i64 0, .int .i64 0, .int .i64 0] 29 (0, 0))) hb = _ := set_at
 generalize (H5.set hb (.cells #[.int .i64 places, .int .i64 pieces, .slice sa start.length sc, .slice ca xss.length cc, .slice ta ts.length tc, .int .i64 rule, .slice none 0 0, .int .i64 0, .int .i64 0, .int .i64 0, .int .i64 0, .int .i64 0] 29 (0, 0))) = H6 at *
 (refine @unH _ ?_; refine z8 y38_103 ?_; try (refine inK ?_; intro K hK))
 refine (uptoL m H6 b (k + 108) 10 (by omega) (hT6.less (by omega))).runs.mono ?_
 rintro _ H7 ⟨at0, hat0, hat1, rfl, hl7, hT7⟩
 have hhb7 := hl7.keeps hhb6 hhbn
 have hvt7 := hvt6.lex hl7 hT6
 have hl7' := hl6.trans hl7
 (refine @unH _ ?_; refine z0 y38_103 ?_)
 refine hK _ _ ?_; clear hK K
 have hrhb : rb ≠ hb := fun e => by rw [<- e, set_at] at hhb; cases hhb
 have hrb7 := hl7'.keeps set_at hrbn
 have hvtB := hvt7.drop hhb7 (by decide) (by decide)
 have hTB := hT7.drop hhb7 hhbn
 have hlB := hl7'.drop hhb
 have hrbB : drop H7 hb rb = _ := (drop_ne hrhb).trans hrb7
 have hBle : (drop H7 hb).le H7 := drop_le
 have hB0 : drop H7 hb hb = none := drop_at
 generalize drop H7 hb = B at *
 refine wpX_seq ?_
 (refine @unH _ ?_; refine z1 y38_103 ?_)
 refine wpX_block (wpX_loop (fun w a' H' => ∃ e j at' xv xs, w = xss.length - j /\ j <= xss.length /\ a' = act 64 e [] /\ e 0 = .pointer (some ⟨b, 0, none⟩) /\ e 4 = .pointer (some ⟨rb, 0, none⟩) /\ e 5 = .pointer (some ⟨hb, 0, none⟩) /\ e 6 = .int .i64 at' /\ e 7 = .int .i64 (j : Nat) /\
  H' hb = some (true, .cells #[.int .i64 places, .int .i64 pieces, .slice sa start.length sc, .slice ca xss.length cc, .slice ta ts.length tc, .int .i64 rule, xv, .int .i64 0, .int .i64 0, .int .i64 0, .int .i64 0, .int .i64 0] 29 (0, 0)) /\ RowX (some b) B H' xv 3 (ints xs) /\ xs.length = j /\ xs.Pairwise (· <= ·) /\ (∀ x ∈ xs, 0 <= x /\ x <= at') /\ 0 <= at' /\ at' <= 10 + 9 * j /\ TinI H' b (k + 80 + 2 * (xss.length - j))) (n := xss.length) ?_ ?_)
 ·exact ⟨_, 0, at0, _, [], by omega, by omega, rfl, rfl, rfl, rfl, rfl, rfl, hhb7, ⟨Lex.of hBle, .inl ⟨rfl, rfl⟩⟩, rfl, by simp, by simp, hat0, by omega, hT7.less (by omega)⟩
 ·rintro w a' H' ⟨e, j, at', xv, xs, rfl, hj, rfl, e0, e4, e5, e6, e7, hh, hrow, hxsl, hasc, hxb, hat', hat'', hT'⟩
  obtain ⟨xa, xc, rfl⟩ := hrow.len
  refine wpX_seq ?_
  (refine wpX_stmt ?_; intro K hK; simp -implicitDefEqProofs (disch := first | omega | (simp only [qd] <;> omega)) only [xq, ↓xp, qc, Nat.reduceAdd, List.range, List.range.loop, fine, Nat.reduceEqDiff, ↓reduceIte, yielded, reduceCtorEq, Nat.reduceLT, Nat.reduceMul, Nat.reduceSub, one, Nat.reduceLeDiff, runX_cons, y38_103, e5, e7, cell_of hh, exists_eq_left']; refine hK _ _ ?_; clear hK K)
  refine wpX_cond (by simp -implicitDefEqProofs (disch := first | omega | (simp only [qd] <;> omega)) only [act_eval, upd_get, Nat.reduceEqDiff, ↓reduceIte]; rfl) ?_
  by_cases hlt : j < xss.length
  ·simp only [Int.ofNat_lt, hlt, decide_true, if_true]
   refine wpX_skip (wpX_seq (wpX_block ?_))
   (refine wpX_stmt ?_; intro K hK; simp -implicitDefEqProofs (disch := first | omega | (simp only [qd] <;> omega)) only [xq, ↓xp, qc, Nat.reduceAdd, List.range, List.range.loop, fine, Nat.reduceEqDiff, ↓reduceIte, yielded, reduceCtorEq, Nat.reduceLT, Nat.reduceMul, Nat.reduceSub, one, Nat.reduceLeDiff, runX_cons, y38_103, e5, e6, cell_of hh, exists_eq_left'])
   intro gb hgb
   refine append_i hrow hgb (by omega) _ _ _ _ ?_
   intro v' H8 hr8 ho8
   obtain ⟨va, vc, rfl⟩ := hr8.len
   have hh8 := ho8.cells hh (by decide)
   have hT8 := ho8.tin (by decide) hT'
   simp -implicitDefEqProofs (disch := first | omega | (simp only [qd] <;> omega)) only [xq, ↓xp, qc, Nat.reduceAdd, List.range, List.range.loop, fine, Nat.reduceEqDiff, ↓reduceIte, yielded, reduceCtorEq, Nat.reduceLT, Nat.reduceMul, Nat.reduceSub, one, Nat.reduceLeDiff, runX_cons, y38_103, e5, stor_at hh8]
   refine hK _ _ ?_; clear hK K
   have hh9 : (H8.set hb (.cells #[.int .i64 places, .int .i64 pieces, .slice sa start.length sc, .slice ca xss.length cc, .slice ta ts.length tc, .int .i64 rule, .slice va (ints (xs ++ [at'])).length vc, .int .i64 0, .int .i64 0, .int .i64 0, .int .i64 0, .int .i64 0] 29 (0, 0))) hb = _ := set_at
   have hr9 := hr8.own hB0 hh8 (by decide) (o := .cells #[.int .i64 places, .int .i64 pieces, .slice sa start.length sc, .slice ca xss.length cc, .slice ta ts.length tc, .int .i64 rule, .slice va (ints (xs ++ [at'])).length vc, .int .i64 0, .int .i64 0, .int .i64 0, .int .i64 0, .int .i64 0] 29 (0, 0))
   have hT9 := hT8.own hh8 hhbn.symm (o' := .cells #[.int .i64 places, .int .i64 pieces, .slice sa start.length sc, .slice ca xss.length cc, .slice ta ts.length tc, .int .i64 rule, .slice va (ints (xs ++ [at'])).length vc, .int .i64 0, .int .i64 0, .int .i64 0, .int .i64 0, .int .i64 0] 29 (0, 0))
   generalize H8.set hb (.cells #[.int .i64 places, .int .i64 pieces, .slice sa start.length sc, .slice ca xss.length cc, .slice ta ts.length tc, .int .i64 rule, .slice va (ints (xs ++ [at'])).length vc, .int .i64 0, .int .i64 0, .int .i64 0, .int .i64 0, .int .i64 0] 29 (0, 0)) = H9 at *
   refine wpX_last ?_; intro K hK
   (refine @unH _ ?_; refine z0 (And.intro y38_103 (And.intro @e0 @e6)) ?_)
   refine (uptoL m H9 b (k + 80 + 2 * (xss.length - (j + 1)) + 1) 9 (by omega) (hT9.less (by omega))).runs.mono ?_
   rintro _ H10 ⟨u, hu0, hu1, rfl, hl10, hT10⟩
   (refine @unH _ ?_; refine z0 (And.intro y38_103 (And.intro @e0 @e6)) ?_)
   intro g2 hg2
   refine (eitherL m _ b (k + 80 + 2 * (xss.length - (j + 1))) _ [0, 1, 2, u] (by exact SlI.lit (vs := [_, _, _, _]) _ rfl rfl) (by simp) (by simp) (by exact hT10.new hg2)).runs.mono ?_
   rintro _ H11 ⟨d, hd, rfl, hl11, hT11⟩
   have hd' : 0 <= d /\ d <= 9 := by simp at hd; omega
   (refine @unH _ ?_; refine z0 y38_103 ?_)
   refine hK _ _ ?_; clear hK K
   simp -implicitDefEqProofs (disch := first | omega | (simp only [qd] <;> omega)) only [thn, blk, ↓reduceIte, Nat.reduceEqDiff]
   (refine @unH _ ?_; refine z2 (And.intro y38_103 @e7) ?_)
   simp -implicitDefEqProofs (disch := first | omega | (simp only [qd] <;> omega)) only [thn, blk, ↓reduceIte, Nat.reduceEqDiff]
   have hL := (hl10.new hg2 (o := .cells #[.int .i64 0, .int .i64 1, .int .i64 2, .int .i64 u] 3 (0, 0))).trans hl11
   refine ⟨_, ?_, _, j + 1, at' + d, _, xs ++ [at'], rfl, hlt, rfl, e0, e4, e5, rfl, rfl, hL.keeps hh9 hhbn, hr9.lex hL (hT9.notI (by decide)), by simp [hxsl], ?_, ?_, by omega, by omega, hT11⟩
   ·omega
   ·rw [List.pairwise_append]
    refine ⟨hasc, by simp, fun x hx y hy => ?_⟩
    simp at hy
    have := hxb x hx
    omega
   ·intro x hx
    rcases List.mem_append.1 hx with hx | hx
    ·have := hxb x hx; omega
    ·simp at hx; omega
  ·simp only [Int.ofNat_lt, hlt, decide_false, Bool.false_eq_true, if_false]
   (refine wpX_exit ?_; simp only [thn, blk, ↓reduceIte, Nat.reduceEqDiff])
   have hje : j = xss.length := by omega
   have hvt12 := hvtB.lex hrow.1 hTB
   have hrb12 := hrow.1.keeps hrbB hrbn
   have hsx12 := hrow.ints
   have hl12 := hlB.trans hrow.1
   have hT12 : TinI H' b (k + 20) := hT'.less (by omega)
   (refine @unH _ ?_; refine z8 (And.intro y38_103 @e0) ?_; try (refine inK ?_; intro K hK))
   refine (uptoL m H' b (k + 19) 10 (by omega) hT12).runs.mono ?_
   rintro _ H13 ⟨u1, hu10, hu11, rfl, hl13, hT13⟩
   (refine @unH _ ?_; refine z0 (And.intro y38_103 @e0) ?_)
   refine (uptoL m H13 b (k + 18) 30 (by omega) hT13).runs.mono ?_
   rintro _ H14 ⟨u2, hu20, hu21, rfl, hl14, hT14⟩
   (refine @unH _ ?_; refine z0 (And.intro y38_103 @e0) ?_)
   intro g1 hg1
   refine (eitherL m _ b (k + 17) _ [u1, u2] (by exact SlI.lit (vs := [_, _]) _ rfl rfl) (by simp) (by simp) (by exact hT14.new hg1)).runs.mono ?_
   rintro _ H15 ⟨notice, hno, rfl, hl15, hT15⟩
   have hno' : 0 <= notice /\ notice <= 30 := by simp at hno; omega
   (refine @unH _ ?_; refine z0 (And.intro y38_103 @e0) ?_)
   refine (withinL m _ b (k + 16) 1 3 (by omega) (by omega) (by omega) (by omega) hT15).runs.mono ?_
   rintro _ H16 ⟨load, hlo0, hlo1, rfl, hl16, hT16⟩
   (refine @unH _ ?_; refine z0 (And.intro y38_103 @e0) ?_)
   intro g2 hg2
   refine (eitherL m _ b (k + 15) _ [1, 1, 2, 4] (by exact SlI.lit (vs := [_, _, _, _]) _ rfl rfl) (by simp) (by simp) (by exact hT16.new hg2)).runs.mono ?_
   rintro _ H17 ⟨barrows, hba, rfl, hl17, hT17⟩
   have hba' : 1 <= barrows /\ barrows <= 4 := by simp at hba; omega
   have hL := ((((hl13.trans hl14).new hg1 (o := .cells #[.int .i64 u1, .int .i64 u2] 3 (0, 0))).trans hl15).trans hl16).new hg2 (o := .cells #[.int .i64 1, .int .i64 1, .int .i64 2, .int .i64 4] 3 (0, 0)) |>.trans hl17
   have hh17 := hL.keeps hh hhbn
   simp -implicitDefEqProofs (disch := first | omega | (simp only [qd] <;> omega)) only [xq, ↓xp, qc, Nat.reduceAdd, List.range, List.range.loop, fine, Nat.reduceEqDiff, ↓reduceIte, yielded, reduceCtorEq, Nat.reduceLT, Nat.reduceMul, Nat.reduceSub, one, Nat.reduceLeDiff, runX_cons, y38_103, e5, stor_at hh17]
   refine hK _ _ ?_; clear hK K
   have hvt18 := (hvt12.lex hL hT12).set hh17 (by decide) (by decide) (o := .cells #[.int .i64 places, .int .i64 pieces, .slice sa start.length sc, .slice ca xss.length cc, .slice ta ts.length tc, .int .i64 rule, .slice xa (ints xs).length xc, .int .i64 notice, .int .i64 load, .int .i64 barrows, .int .i64 0, .int .i64 0] 29 (0, 0))
   have hsx18 := (hsx12.lex hL hT12).set (o := .cells #[.int .i64 places, .int .i64 pieces, .slice sa start.length sc, .slice ca xss.length cc, .slice ta ts.length tc, .int .i64 rule, .slice xa (ints xs).length xc, .int .i64 notice, .int .i64 load, .int .i64 barrows, .int .i64 0, .int .i64 0] 29 (0, 0)) (b := hb) fun p c fr e' => by rw [hh17] at e'; cases e'
   have hrb18 := (set_ne (H := H17) (o := .cells #[.int .i64 places, .int .i64 pieces, .slice sa start.length sc, .slice ca xss.length cc, .slice ta ts.length tc, .int .i64 rule, .slice xa (ints xs).length xc, .int .i64 notice, .int .i64 load, .int .i64 barrows, .int .i64 0, .int .i64 0] 29 (0, 0)) hrhb).trans (hL.keeps hrb12 hrbn)
   have hl18 := (hl12.trans hL).own hhb (o := .cells #[.int .i64 places, .int .i64 pieces, .slice sa start.length sc, .slice ca xss.length cc, .slice ta ts.length tc, .int .i64 rule, .slice xa (ints xs).length xc, .int .i64 notice, .int .i64 load, .int .i64 barrows, .int .i64 0, .int .i64 0] 29 (0, 0))
   have hT18 := hT17.own hh17 hhbn.symm (o' := .cells #[.int .i64 places, .int .i64 pieces, .slice sa start.length sc, .slice ca xss.length cc, .slice ta ts.length tc, .int .i64 rule, .slice xa (ints xs).length xc, .int .i64 notice, .int .i64 load, .int .i64 barrows, .int .i64 0, .int .i64 0] 29 (0, 0))
   have hh18 : (H17.set hb (.cells #[.int .i64 places, .int .i64 pieces, .slice sa start.length sc, .slice ca xss.length cc, .slice ta ts.length tc, .int .i64 rule, .slice xa (ints xs).length xc, .int .i64 notice, .int .i64 load, .int .i64 barrows, .int .i64 0, .int .i64 0] 29 (0, 0))) hb = _ := set_at
   generalize H17.set hb (.cells #[.int .i64 places, .int .i64 pieces, .slice sa start.length sc, .slice ca xss.length cc, .slice ta ts.length tc, .int .i64 rule, .slice xa (ints xs).length xc, .int .i64 notice, .int .i64 load, .int .i64 barrows, .int .i64 0, .int .i64 0] 29 (0, 0)) = H18 at *
   (refine @unH _ ?_; refine z8 (And.intro y38_103 @e0) ?_; try (refine inK ?_; intro K hK))
   intro g3 hg3
   refine (eitherL m _ b (k + 14) _ [4, 8, 20] (by exact SlI.lit (vs := [_, _, _]) _ rfl rfl) (by simp) (by simp) (by exact (hT18.new hg3).less (by omega))).runs.mono ?_
   rintro _ H19 ⟨hm, hhm, rfl, hl19, hT19⟩
   have hhm' : 4 <= hm /\ hm <= 20 := by simp at hhm; omega
   (refine @unH _ ?_; refine z0 (And.intro y38_103 @e0) ?_)
   refine (bandIn_spec m _ b (k + 12) 1 hm (by omega) (by omega) (by omega) (by exact hT19.less (by omega))).runs.mono ?_
   rintro _ H20 ⟨lo, hi, hb1, hb2, hb3, rfl, hl20, hT20⟩
   have hL2 := ((Lex.refl.new hg3 (o := .cells #[.int .i64 4, .int .i64 8, .int .i64 20] 3 (0, 0))).trans hl19).trans hl20
   have hh20 := hL2.keeps hh18 hhbn
   simp -implicitDefEqProofs (disch := first | omega | (simp only [qd] <;> omega)) only [xq, ↓xp, qc, Nat.reduceAdd, List.range, List.range.loop, fine, Nat.reduceEqDiff, ↓reduceIte, yielded, reduceCtorEq, Nat.reduceLT, Nat.reduceMul, Nat.reduceSub, one, Nat.reduceLeDiff, runX_cons, y38_103, e5, storL_of hh20]
   refine hK _ _ ?_; clear hK K
   have hvt21 := (hvt18.lex hL2 hT18).set hh20 (by decide) (by decide) (o := .cells #[.int .i64 places, .int .i64 pieces, .slice sa start.length sc, .slice ca xss.length cc, .slice ta ts.length tc, .int .i64 rule, .slice xa (ints xs).length xc, .int .i64 notice, .int .i64 load, .int .i64 barrows, .int .i64 lo, .int .i64 hi] 29 (0, 0))
   have hsx21 := (hsx18.lex hL2 hT18).set (o := .cells #[.int .i64 places, .int .i64 pieces, .slice sa start.length sc, .slice ca xss.length cc, .slice ta ts.length tc, .int .i64 rule, .slice xa (ints xs).length xc, .int .i64 notice, .int .i64 load, .int .i64 barrows, .int .i64 lo, .int .i64 hi] 29 (0, 0)) (b := hb) fun p c fr e' => by rw [hh20] at e'; cases e'
   have hrb21 := (set_ne (H := H20) (o := .cells #[.int .i64 places, .int .i64 pieces, .slice sa start.length sc, .slice ca xss.length cc, .slice ta ts.length tc, .int .i64 rule, .slice xa (ints xs).length xc, .int .i64 notice, .int .i64 load, .int .i64 barrows, .int .i64 lo, .int .i64 hi] 29 (0, 0)) hrhb).trans (hL2.keeps hrb18 hrbn)
   have hl21 := (hl18.trans hL2).own hhb (o := .cells #[.int .i64 places, .int .i64 pieces, .slice sa start.length sc, .slice ca xss.length cc, .slice ta ts.length tc, .int .i64 rule, .slice xa (ints xs).length xc, .int .i64 notice, .int .i64 load, .int .i64 barrows, .int .i64 lo, .int .i64 hi] 29 (0, 0))
   have hT21 := hT20.own hh20 hhbn.symm (o' := .cells #[.int .i64 places, .int .i64 pieces, .slice sa start.length sc, .slice ca xss.length cc, .slice ta ts.length tc, .int .i64 rule, .slice xa (ints xs).length xc, .int .i64 notice, .int .i64 load, .int .i64 barrows, .int .i64 lo, .int .i64 hi] 29 (0, 0))
   have hh21 : (H20.set hb (.cells #[.int .i64 places, .int .i64 pieces, .slice sa start.length sc, .slice ca xss.length cc, .slice ta ts.length tc, .int .i64 rule, .slice xa (ints xs).length xc, .int .i64 notice, .int .i64 load, .int .i64 barrows, .int .i64 lo, .int .i64 hi] 29 (0, 0))) hb = _ := set_at
   generalize H20.set hb (.cells #[.int .i64 places, .int .i64 pieces, .slice sa start.length sc, .slice ca xss.length cc, .slice ta ts.length tc, .int .i64 rule, .slice xa (ints xs).length xc, .int .i64 notice, .int .i64 load, .int .i64 barrows, .int .i64 lo, .int .i64 hi] 29 (0, 0)) = H21 at *
   (refine wpX_stmt ?_; intro K hK; simp -implicitDefEqProofs (disch := first | omega | (simp only [qd] <;> omega)) only [xq, ↓xp, qc, Nat.reduceAdd, List.range, List.range.loop, fine, Nat.reduceEqDiff, ↓reduceIte, yielded, reduceCtorEq, Nat.reduceLT, Nat.reduceMul, Nat.reduceSub, one, Nat.reduceLeDiff, runX_cons, y38_103, e5, e4, loadA_at hh21, storL_of hrb21])
   refine hK _ _ ?_; clear hK K
   (refine wpX_ret ?_; (try simp only [nq, ↓reduceIte, Nat.reduceEqDiff]); rw [bodyX_ret, results_cell Tryz.results38 (by decide) (b := rb) (o := 0) ?hcell Tryz.underlying29 rfl Tryz.sizeOf29]; (case hcell => exact e4); simp -implicitDefEqProofs (disch := first | omega | (simp only [qd] <;> omega)) only [xq, ↓xp, qc, Nat.reduceAdd, List.range, List.range.loop, fine, Nat.reduceEqDiff, ↓reduceIte, yielded, reduceCtorEq, Nat.reduceLT, Nat.reduceMul, Nat.reduceSub, one, Nat.reduceLeDiff, runX_cons, y38_103, loadA_set])
   have hvt22 := hvt21.set hrb21 (by decide) (by decide) (o := .cells #[.int .i64 places, .int .i64 pieces, .slice sa start.length sc, .slice ca xss.length cc, .slice ta ts.length tc, .int .i64 rule, .slice xa (ints xs).length xc, .int .i64 notice, .int .i64 load, .int .i64 barrows, .int .i64 lo, .int .i64 hi] 29 (0, 0))
   refine ⟨⟨places, pieces, rule, notice, load, barrows, lo, hi, start, xss, ts, xs⟩, ⟨_, _, _, _⟩, rfl, { day := ⟨hvt22.1, hvt22.2.1, hvt22.2.2, hvok, Nat.le_trans hxl hc, htok⟩, times := hsx21.set (fun p c fr e' => by rw [hrb21] at e'; cases e'), ok := ⟨hxsl.trans hje, hasc, fun x hx => by have := hxb x hx; omega⟩, r0 := hru0, r3 := (by show rule <= 3; omega), n0 := hno'.1, n30 := hno'.2, l1 := hlo0, l3 := (by show load <= 3; omega), b1 := hba'.1, b4 := hba'.2, t1 := hb1, t2 := hb2, t20 := Int.le_trans hb3 hhm'.2 }, hxl, ((Lex.refl.new hrb).trans hl21).own hrb, (hT21.own hrb21 hrbn.symm).less (by omega), fun x hx => by have := hxb x hx; omega⟩
end Go.Proofs.YtofmadjgbcopdaaGreatDoor
end
section
namespace Go.Proofs.YtofmadjgbcopdaaGreatDoor
open Go Go.X
end Go.Proofs.YtofmadjgbcopdaaGreatDoor
end
section
namespace Go.Proofs.YtofmadjgbcopdaaGreatDoor
open Go Go.X
theorem oList_len (m : Nat) : (oList m).length = oCount m := by
 simp [oList, oListN, oCount, List.countP_eq_length_filter]
def optsF (pl : Int) (m : Nat) (t : Int) : List Int := if m.testBit t.toNat then [-1] else if pl <= oCount m then oList m else [-1]
def costF (m : Nat) (t : Int) : Nat := if m.testBit t.toNat then 0 else 1
theorem oWith_bit (m n x : Nat) : (oWith m n).testBit x = (m.testBit x || decide (x = n)) := by
 unfold oWith
 rw [Nat.testBit_or, Nat.testBit_two_pow]
 congr 1
 exact decide_eq_decide.2 eq_comm
theorem mask_bit : ∀ n : Fin 6, ∀ x : Fin 6, (63 - 2 ^ n.val).testBit x.val = !decide (x.val = n.val) := by decide
theorem oWithout_bit (m n x : Nat) (hn : n < 6) (hx : x < 6) : (oWithout m n).testBit x = (m.testBit x && !decide (x = n)) := by
 unfold oWithout
 rw [Nat.testBit_and, mask_bit ⟨n, hn⟩ ⟨x, hx⟩]
theorem oNext_bit (m : Nat) (s t : Int) (hs : -1 <= s) (hs6 : s < 6) (h0 : 0 <= t) (x : Nat) (hx : x < 6) : (oNext m s t).testBit x = (decide ((x : Int) = t) || (m.testBit x && !decide ((x : Int) = s))) := by
 unfold oNext
 rw [oWith_bit]
 have ht : decide (x = t.toNat) = decide ((x : Int) = t) := decide_eq_decide.2 (by omega)
 rw [ht]
 split
 ·rw [oWithout_bit m _ x (by omega) hx]
  have : decide (x = s.toNat) = decide ((x : Int) = s) := decide_eq_decide.2 (by omega)
  rw [this, Bool.or_comm]
 ·have : decide ((x : Int) = s) = false := decide_eq_false (by omega)
  rw [this, Bool.not_false, Bool.and_true, Bool.or_comm]
def inO (m : Nat) (x : Int) : Prop := 0 <= x /\ x < 6 /\ m.testBit x.toNat = true
theorem inO_next {m : Nat} {s t x : Int} (hs : -1 <= s) (hs6 : s < 6) (h0 : 0 <= t) (h6 : t < 6) : inO (oNext m s t) x ↔ x = t ∨ (inO m x /\ x ≠ s) := by
 unfold inO
 by_cases hx : 0 <= x /\ x < 6
 ·rw [oNext_bit m s t hs hs6 h0 x.toNat (by omega), Bool.or_eq_true, Bool.and_eq_true, Bool.not_eq_true', decide_eq_true_eq, decide_eq_false_iff_not]
  have hxe : (x.toNat : Int) = x := by omega
  rw [hxe]
  constructor
  ·rintro ⟨_, _, h | h⟩
   ·exact .inl h
   ·exact .inr ⟨⟨hx.1, hx.2, h.1⟩, h.2⟩
  ·rintro (h | h)
   ·exact ⟨hx.1, hx.2, .inl h⟩
   ·exact ⟨hx.1, hx.2, .inr ⟨h.1.2.2, h.2⟩⟩
 ·constructor
  ·rintro ⟨h1, h2, _⟩; exact absurd ⟨h1, h2⟩ hx
  ·rintro (h | h)
   ·exact absurd ⟨by omega, by omega⟩ hx
   ·exact absurd ⟨h.1.1, h.1.2.1⟩ hx
theorem inO_list {m : Nat} {x : Int} : x ∈ oList m ↔ inO m x := by
 refine ⟨fun h => oList_mem h, fun ⟨h0, h6, hb⟩ => ?_⟩
 simp only [oList, oListN, List.mem_map, List.mem_filter, List.mem_range]
 exact ⟨x.toNat, ⟨by omega, by simpa using hb⟩, by omega⟩
theorem inO_bit {m : Nat} {x : Int} (h0 : 0 <= x) (h6 : x < 6) : m.testBit x.toNat = true ↔ inO m x := ⟨fun h => ⟨h0, h6, h⟩, fun h => h.2.2⟩
theorem oCount_mono {m n : Nat} (h : ∀ x, inO m x -> inO n x) : oCount m <= oCount n := by
 unfold oCount
 refine List.countP_mono_left fun x hx hb => ?_
 rw [List.mem_range] at hx
 have := (h (x : Int) ⟨by omega, by omega, by simpa using hb⟩).2.2
 simpa using this
theorem optsF_range {pl : Int} {m : Nat} {t s : Int} (h : s ∈ optsF pl m t) : -1 <= s /\ s < 6 := by
 unfold optsF at h
 split at h
 ·rw [List.mem_singleton.1 h]; omega
 ·split at h
  ·have := oList_mem h; omega
  ·rw [List.mem_singleton.1 h]; omega
theorem optsF_hit {pl : Int} {m : Nat} {t : Int} (h0 : 0 <= t) (h6 : t < 6) (h : inO m t) : optsF pl m t = [-1] /\ costF m t = 0 := by
 unfold optsF costF
 rw [(inO_bit h0 h6).2 h]
 simp
theorem optsF_miss {pl : Int} {m : Nat} {t : Int} (h : ¬ inO m t) (h0 : 0 <= t) (h6 : t < 6) : optsF pl m t = (if pl <= oCount m then oList m else [-1]) /\ costF m t = 1 := by
 unfold optsF costF
 have : m.testBit t.toNat ≠ true := fun hb => h ((inO_bit h0 h6).1 hb)
 simp [this]
theorem inO_none {m : Nat} {x : Int} (h : inO m x) : x ≠ -1 := fun e => by have := h.1; omega
theorem next_count : ∀ m : Fin 64, ∀ s t : Fin 6, m.val.testBit s.val = true -> m.val.testBit t.val = false -> oCount (oNext m.val (s.val : Int) (t.val : Int)) = oCount m.val := by decide +kernel
theorem next_more : ∀ m : Fin 64, ∀ t : Fin 6, oCount (oNext m.val (-1) (t.val : Int)) <= oCount m.val + 1 := by decide +kernel
theorem oCount_send {m : Nat} {s t : Int} (hm : m < 64) (hs : inO m s) (h0 : 0 <= t) (h6 : t < 6) (ht : ¬ inO m t) : oCount (oNext m s t) = oCount m := by
 have := next_count ⟨m, hm⟩ ⟨s.toNat, by have := hs.1; have := hs.2.1; omega⟩ ⟨t.toNat, by omega⟩ hs.2.2 (by
  cases hb : m.testBit t.toNat
  ·rfl
  ·exact absurd ⟨h0, h6, hb⟩ ht)
 simp only [] at this
 rwa [show ((s.toNat : Nat) : Int) = s by have := hs.1; omega, show ((t.toNat : Nat) : Int) = t by omega] at this
theorem oCount_more {m : Nat} {t : Int} (hm : m < 64) (h0 : 0 <= t) (h6 : t < 6) : oCount (oNext m (-1) t) <= oCount m + 1 := by
 have := next_more ⟨m, hm⟩ ⟨t.toNat, by omega⟩
 simp only [] at this
 rwa [show ((t.toNat : Nat) : Int) = t by omega] at this
theorem oCount_hit {m : Nat} {t : Int} (h0 : 0 <= t) (h6 : t < 6) (ht : inO m t) : oCount (oNext m (-1) t) <= oCount m := oCount_mono fun x hx => by
 rcases (inO_next (by omega) (by omega) h0 h6).1 hx with rfl | hx
 ·exact ht
 ·exact hx.1
structure Fit (pl : Int) (m : Nat) : Prop where
 lt : m < 64
 few : (oCount m : Int) <= pl
theorem Fit.next {pl : Int} {m : Nat} {s t : Int} (h : Fit pl m) (h0 : 0 <= t) (h6 : t < 6) (hs : s ∈ optsF pl m t) : Fit pl (oNext m s t) := by
 refine ⟨oNext_lt h.lt (optsF_range hs).2 h0 h6, ?_⟩
 have hf := h.few
 by_cases ht : inO m t
 ·rw [(optsF_hit h0 h6 ht).1, List.mem_singleton] at hs
  subst hs
  have := oCount_hit h0 h6 ht
  omega
 ·rw [(optsF_miss ht h0 h6).1] at hs
  split at hs
  ·have := oCount_send h.lt (inO_list.1 hs) h0 h6 ht
   omega
  ·rw [List.mem_singleton] at hs
   subst hs
   have := oCount_more h.lt h0 h6
   omega
theorem pickF_min (rk : Int -> Int) : ∀ (l : List Int) (c : Int), (∀ x ∈ l, 0 <= x) -> (c < 0 -> l ≠ []) ->
  let r := l.foldl (fun c q => if c < 0 ∨ rk q < rk c then q else c) c
  (r ∈ l ∨ (r = c /\ 0 <= c)) /\ (∀ x ∈ l, rk r <= rk x) /\ (0 <= c -> rk r <= rk c)
 | [], c, _, hc => by
  refine ⟨.inr ⟨rfl, ?_⟩, by simp, fun _ => Int.le_refl _⟩
  exact Int.not_lt.1 fun h => hc h rfl
 | x :: l, c, hl, hc => by
  have hx := hl x List.mem_cons_self
  simp only [List.foldl_cons]
  by_cases hif : c < 0 ∨ rk x < rk c
  ·rw [if_pos hif]
   obtain ⟨h1, h2, h3⟩ := pickF_min rk l x (fun y hy => hl y (List.mem_cons_of_mem _ hy)) (by omega)
   refine ⟨.inl ?_, fun y hy => ?_, fun h => ?_⟩
   ·rcases h1 with h1 | h1
    ·exact List.mem_cons_of_mem _ h1
    ·rw [h1.1]; exact List.mem_cons_self
   ·rcases List.mem_cons.1 hy with rfl | hy
    ·exact h3 hx
    ·exact h2 y hy
   ·have := h3 hx; omega
  ·rw [if_neg hif]
   have hc0 : 0 <= c := by omega
   obtain ⟨h1, h2, h3⟩ := pickF_min rk l c (fun y hy => hl y (List.mem_cons_of_mem _ hy)) (by omega)
   refine ⟨?_, fun y hy => ?_, h3⟩
   ·rcases h1 with h1 | h1
    ·exact .inl (List.mem_cons_of_mem _ h1)
    ·exact .inr h1
   ·rcases List.mem_cons.1 hy with rfl | hy
    ·have := h3 hc0; omega
    ·exact h2 y hy
theorem pickF_spec (rk : Int -> Int) (m : Nat) (h : 0 < oCount m) : inO m (pickF rk (oList m)) /\ ∀ x, inO m x -> rk (pickF rk (oList m)) <= rk x := by
 obtain ⟨h1, h2, _⟩ := pickF_min rk (oList m) (-1) (fun x hx => (oList_mem hx).1) (fun _ hn => by
  have := oList_len m; rw [hn] at this; simp at this; omega)
 refine ⟨?_, fun x hx => h2 x (inO_list.2 hx)⟩
 rcases h1 with h1 | h1
 ·exact inO_list.1 h1
 ·omega
theorem sendB_iff {pl : Int} {m : Nat} {t : Int} (h0 : 0 <= t) (h6 : t < 6) : sendB pl m t = true ↔ ¬ inO m t /\ pl <= oCount m := by
 unfold sendB
 rw [Bool.and_eq_true, Bool.not_eq_true', decide_eq_true_eq, <- inO_bit h0 h6]
 simp
theorem rsent_opts {pl r : Int} {ts : List Int} {i : Nat} {t : Int} {s : RS} (h1 : 1 <= pl) (h0 : 0 <= t) (h6 : t < 6) : rsent pl r ts i t s ∈ optsF pl s.m t := by
 unfold rsent
 by_cases hs : sendB pl s.m t = true
 ·rw [if_pos hs]
  obtain ⟨hm, hf⟩ := (sendB_iff h0 h6).1 hs
  rw [(optsF_miss hm h0 h6).1, if_pos hf]
  exact inO_list.2 (pickF_spec _ s.m (by omega)).1
 ·rw [if_neg hs]
  by_cases hm : inO s.m t
  ·rw [(optsF_hit h0 h6 hm).1]; simp
  ·rw [(optsF_miss hm h0 h6).1, if_neg (fun hf => hs ((sendB_iff h0 h6).2 ⟨hm, hf⟩))]; simp
theorem ts_in {ts : List Int} {i : Nat} (h : i < ts.length) (hb : ∀ t ∈ ts, 0 <= t /\ t < 6) : 0 <= ts.getD i 0 /\ ts.getD i 0 < 6 := by
 simp [List.getD, List.getElem?_eq_getElem h]
 exact hb _ (List.getElem_mem _)
theorem cost_f (s : RS) (pl r : Int) (ts : List Int) (i : Nat) (t : Int) : (rstep pl r ts i t s).f = s.f + costF s.m t := by
 simp [rstep, costF]
theorem rrun_fit {pl r : Int} {ts : List Int} {s0 : RS} (h1 : 1 <= pl) (hb : ∀ t ∈ ts, 0 <= t /\ t < 6) (hf : Fit pl s0.m) : ∀ i, i <= ts.length -> Fit pl (rrun pl r ts s0 i).m
 | 0, _ => hf
 | i + 1, h => by
  have h6 := ts_in (i := i) (by omega) hb
  exact (rrun_fit h1 hb hf i (by omega)).next h6.1 h6.2 (rsent_opts h1 h6.1 h6.2)
theorem oWith_inO {m : Nat} {n x : Int} (h0 : 0 <= n) (h6 : n < 6) : inO (oWith m n.toNat) x ↔ x = n ∨ inO m x := by
 have := inO_next (m := m) (s := -1) (t := n) (x := x) (by omega) (by omega) h0 h6
 have e : oNext m (-1) n = oWith m n.toNat := by simp [oNext]
 rw [e] at this
 rw [this]
 constructor
 ·rintro (h | h)
  ·exact .inl h
  ·exact .inr h.1
 ·rintro (h | h)
  ·exact .inl h
  ·exact .inr ⟨h, inO_none h⟩
theorem oOf_inO : ∀ (xs : List Int) (m : Nat) (x : Int), (∀ y ∈ xs, 0 <= y /\ y < 6) -> (inO (xs.foldl (fun m x => oWith m x.toNat) m) x ↔ x ∈ xs ∨ inO m x)
 | [], m, x, _ => by simp
 | y :: xs, m, x, h => by
  have hy := h y List.mem_cons_self
  rw [List.foldl_cons, oOf_inO xs _ x fun z hz => h z (List.mem_cons_of_mem _ hz), oWith_inO hy.1 hy.2, List.mem_cons]
  constructor
  ·rintro (h | h | h)
   ·exact .inl (.inr h)
   ·exact .inl (.inl h)
   ·exact .inr h
  ·rintro ((h | h) | h)
   ·exact .inr (.inl h)
   ·exact .inl h
   ·exact .inr (.inr h)
theorem inO_zero (x : Int) : ¬ inO 0 x := fun h => by have := h.2.2; simp at this
theorem start_inO {start : List Int} (h : ∀ y ∈ start, 0 <= y /\ y < 6) (x : Int) : inO (oOf start) x ↔ x ∈ start := by
 rw [oOf, oOf_inO start 0 x h]
 exact ⟨fun h => h.resolve_right (inO_zero x), .inl⟩
theorem with_more : ∀ m : Fin 64, ∀ t : Fin 6, oCount (oWith m.val t.val) <= oCount m.val + 1 := by decide +kernel
theorem oOf_count : ∀ (xs : List Int) (m : Nat), m < 64 -> (∀ y ∈ xs, 0 <= y /\ y < 6) -> oCount (xs.foldl (fun m x => oWith m x.toNat) m) <= oCount m + xs.length
 | [], m, _, _ => Nat.le_refl _
 | y :: xs, m, hm, h => by
  have hy := h y List.mem_cons_self
  rw [List.foldl_cons]
  have h1 := oOf_count xs _ (oWith_lt hm hy.1 hy.2) fun z hz => h z (List.mem_cons_of_mem _ hz)
  have h2 := with_more ⟨m, hm⟩ ⟨y.toNat, by omega⟩
  simp only [] at h2
  simp only [List.length_cons]
  omega
theorem start_fit {pl : Int} {start : List Int} (h : ∀ y ∈ start, 0 <= y /\ y < 6) (hl : (start.length : Int) <= pl) : Fit pl (oOf start) := by
 refine ⟨oOf_lt start 0 (by omega) h, ?_⟩
 have := oOf_count start 0 (by omega) h
 have h0 : oCount 0 = 0 := by decide
 unfold oOf
 omega
theorem rrun_cl {pl r : Int} {ts : List Int} {s0 : RS} (hl : s0.cl.length = 8) (h8 : ts.length <= 8) : ∀ k, k <= ts.length -> (rrun pl r ts s0 k).cl.length = 8 /\ ∀ i, i < k -> (rrun pl r ts s0 k).cl[i]? = some (rsent pl r ts i (ts.getD i 0) (rrun pl r ts s0 i))
 | 0, _ => ⟨hl, fun i h => by omega⟩
 | k + 1, h => by
  obtain ⟨h1, h2⟩ := rrun_cl (pl := pl) (r := r) (s0 := s0) hl h8 k (by omega)
  refine ⟨by simp [rrun, rstep, h1], fun i hi => ?_⟩
  simp only [rrun, rstep]
  by_cases hik : i = k
  ·subst hik
   rw [List.getElem?_set_self (by omega)]
  ·rw [List.getElem?_set_ne (by omega)]
   exact h2 i (by omega)
theorem sents_at {pl r : Int} {ts : List Int} {s0 : RS} (hl : s0.cl.length = 8) (h8 : ts.length <= 8) {i : Nat} (hi : i < ts.length) : ((rrun pl r ts s0 ts.length).cl.take ts.length).getD i 0 = rsent pl r ts i (ts.getD i 0) (rrun pl r ts s0 i) := by
 have := (rrun_cl (pl := pl) (r := r) hl h8 ts.length (Nat.le_refl _)).2 i hi
 simp [List.getD, List.getElem?_take_of_lt hi, this]
theorem nhS_run {pl r : Int} {ts start : List Int} (h1 : 1 <= pl) (h8 : ts.length <= 8) (hb : ∀ t ∈ ts, 0 <= t /\ t < 6) (hs : ∀ y ∈ start, 0 <= y /\ y < 6) (ss : List Int) (hss : ∀ i, i < ts.length -> ss.getD i 0 = rsent pl r ts i (ts.getD i 0) (rrun pl r ts (rs0 start) i)) :
  ∀ i, i <= ts.length -> (∀ x, x ∈ (nhS ts ss start i).1 ↔ inO (rrun pl r ts (rs0 start) i).m x) /\ (nhS ts ss start i).2.length = (rrun pl r ts (rs0 start) i).f /\ ∀ j ∈ (nhS ts ss start i).2, 0 <= j /\ j < i
 | 0, _ => ⟨fun x => (start_inO hs x).symm, rfl, by simp [nhS]⟩
 | i + 1, h => by
  obtain ⟨ih1, ih2, ih3⟩ := nhS_run h1 h8 hb hs ss hss i (by omega)
  have h6 := ts_in (i := i) (by omega) hb
  have hsi := hss i (by omega)
  have hmem := rsent_opts (pl := pl) (r := r) (ts := ts) (i := i) (s := rrun pl r ts (rs0 start) i) h1 h6.1 h6.2
  have e : (rrun pl r ts (rs0 start) (i + 1)).m = oNext (rrun pl r ts (rs0 start) i).m (rsent pl r ts i (ts.getD i 0) (rrun pl r ts (rs0 start) i)) (ts.getD i 0) := rfl
  have ef : (rrun pl r ts (rs0 start) (i + 1)).f = (rrun pl r ts (rs0 start) i).f + costF (rrun pl r ts (rs0 start) i).m (ts.getD i 0) := cost_f _ _ _ _ _ _
  rw [e, ef]
  rw [nhS, hsi]
  have hsr := optsF_range hmem
  by_cases ht : inO (rrun pl r ts (rs0 start) i).m (ts.getD i 0)
  ·rw [if_pos ((ih1 _).2 ht)]
   obtain ⟨ho, hc⟩ := optsF_hit (pl := pl) h6.1 h6.2 ht
   rw [ho, List.mem_singleton] at hmem
   rw [hmem, hc]
   refine ⟨fun x => ?_, ih2, fun j hj => by have := ih3 j hj; omega⟩
   rw [ih1, inO_next (by omega) (by omega) h6.1 h6.2]
   constructor
   ·intro hx; exact .inr ⟨hx, inO_none hx⟩
   ·rintro (rfl | hx)
    ·exact ht
    ·exact hx.1
  ·rw [if_neg (fun h => ht ((ih1 _).1 h))]
   obtain ⟨ho, hc⟩ := optsF_miss (pl := pl) ht h6.1 h6.2
   rw [hc]
   refine ⟨fun x => ?_, by simp [ih2], fun j hj => ?_⟩
   ·rw [inO_next hsr.1 hsr.2 h6.1 h6.2, List.mem_append, List.mem_filter, List.mem_singleton, ih1]
    simp only [Bool.not_eq_true', beq_eq_false_iff_ne, ne_eq]
    exact or_comm
   ·simp only [List.mem_append, List.mem_singleton] at hj
    rcases hj with hj | rfl
    ·have := ih3 j hj; omega
    ·omega
structure NumOk (n : HN) : Prop where
 pl : 1 <= n.places
 t8 : n.ts.length <= 8
 tb : ∀ t ∈ n.ts, 0 <= t /\ t < 6
 sb : ∀ y ∈ n.start, 0 <= y /\ y < 6
 sl : (n.start.length : Int) <= n.places
end Go.Proofs.YtofmadjgbcopdaaGreatDoor
end
section
namespace Go.Proofs.YtofmadjgbcopdaaGreatDoor
open Go Go.X
theorem append_rowI {H₀ H : Hp} {v : Value} {xs ys : List Int} (h : RowX none H₀ H v 3 (ints xs)) {g o m cap : Nat} (hm : ys.length = m) (hgx : ∃ u, H g = some u) (hsep : rowB v ≠ some g)
  (hys : ∀ (j : Nat) (y : Int), ys[j]? = some y -> H.cell ⟨g, o + j, none⟩ = some (.int .i64 y)) (hn : xs.length + m <= 1000000) (ty : TypeId) (cb : Array Bool) (K : Next -> Hp -> Prop) (E : Value -> Hp -> Prop)
  (h' : ∀ v' H', RowX none H₀ H' v' 3 (ints (xs ++ ys)) -> (∀ x u, H x = some u -> rowB v ≠ some x -> H' x = some u) -> K (.value v') H') :
  wpS Tryz.prog (builtin .append #[22, 22] ty cb #[v, .slice (some ⟨g, o, none⟩) m cap]) H K E := by
 obtain ⟨hlex, hrow⟩ := h
 obtain ⟨ug, hug⟩ := hgx
 rcases hrow with ⟨rfl, hx0⟩ | ⟨b, c, cp, hb0, hb, rfl, hcs, hcap, hget⟩
 ·have : xs = [] := by simpa [ints] using hx0
  subst this
  refine append_ints (H₀ := H) (H := H) (n := 0) (xs := []) (NewRow.nil H _ 1) (Hp.le_refl _) hm id hys (by omega) ty cb K E (fun v' H1 H2 hr hl => ?_)
  have hle : H.le H2 := fun x u hx => hl _ _ (hr.le _ _ hx)
  refine h' v' H2 ⟨hlex.le hle, ?_⟩ (fun x u hx _ => hle _ _ hx)
  rcases hr with ⟨rfl, hn0, he, _⟩ | ⟨b', c', cap', hb', rfl, rfl, hs', hl', hn', hg'⟩
  ·exact .inl ⟨rfl, he⟩
  ·refine .inr ⟨b', c', cap', hlex.gone hb', hl _ _ (by rw [get_set, if_pos rfl]), ?_, by omega, by omega, hg'⟩
   rw [hl', Nat.mul_one]
 ·have hgb : g ≠ b := fun e => hsep (by rw [e]; rfl)
  have hD : (fun x => if x = b then none else H x : Hp) b = none := by simp
  have hH : H = Hp.set (fun x => if x = b then none else H x) b (.cells c 3 (0, 0)) := by
   funext x
   unfold Hp.set
   by_cases e : x = b
   ·subst e; simp [hb]
   ·simp [e]
  rw [ints_len] at hcap
  have hil := ints_len xs
  refine append_ints (H₀ := fun x => if x = b then none else H x) (H := H) (n := xs.length) (xs := xs) (.inr ⟨b, c, cp, hD, hH, by rw [hil], by omega, by omega, hcap, hget⟩) (Hp.le_refl _) hm (fun h => by simp only [hgb, if_false] at h; exact h) hys (by omega) ty cb K E (fun v' H1 H2 hr hl => ?_)
  have hkeep : ∀ x u, x ≠ b -> H x = some u -> H2 x = some u := fun x u hn hx => hl _ _ (hr.le _ _ (by simp only [hn, if_false]; exact hx))
  have hlx : Lex none H₀ H2 := fun x u hx => by
   obtain ⟨u', hu', e'⟩ := hlex x u hx
   exact ⟨u', hkeep x u' (fun e => by rw [e, hb0] at hx; cases hx) hu', e'⟩
  rcases hr with ⟨rfl, hn0, he, _⟩ | ⟨b', c', cap', hb', rfl, rfl, hs', hl', hn', hg'⟩
  ·exact h' _ H2 ⟨hlx, .inl ⟨rfl, he⟩⟩ (fun x u hx ho => hkeep x _ (fun e => ho (by rw [e]; rfl)) hx)
  ·have hb2 : H2 b' = some (true, .cells c' 3 (0, 0)) := hl _ _ (by rw [get_set, if_pos rfl])
   have hb'0 : H₀ b' = none := by
    by_cases e : b' = b
    ·rw [e]; exact hb0
    ·simp only [e, if_false] at hb'; exact hlex.gone hb'
   refine h' _ H2 ⟨hlx, .inr ⟨b', c', cap', hb'0, hb2, ?_, by omega, by omega, hg'⟩⟩ (fun x u hx ho => hkeep x _ (fun e => ho (by rw [e]; rfl)) hx)
   rw [hl', Nat.mul_one]
theorem nhS_nodup {ts ss start : List Int} (h : start.Nodup) : ∀ i, (nhS ts ss start i).1.Nodup
 | 0 => h
 | i + 1 => by
  have ih := nhS_nodup (ts := ts) (ss := ss) h i
  unfold nhS
  split
  ·exact ih
  ·rename_i hm
   rw [List.nodup_append]
   refine ⟨ih.filter _, by simp, fun a ha b hb => ?_⟩
   have : b = ts.getD i 0 := by simpa using hb
   subst this
   exact fun e => hm (e ▸ (List.mem_filter.1 ha).1)
end Go.Proofs.YtofmadjgbcopdaaGreatDoor
end
section
namespace Go.Proofs.YtofmadjgbcopdaaGreatDoor
open Go Go.X
def y149_108 := And.intro (fun H => len_slice (H := H) Tryz.underlying22) (And.intro (fun H => indexAt_slice (H := H) Tryz.underlying22 Tryz.sizeOf3) (fun H => loadAt_one (H := H) Tryz.underlying3 rfl))
def y167_108 := And.intro (fun H => indexAt_slice (H := H) Tryz.underlying22 Tryz.sizeOf3) (And.intro (fun H => loadAt_one (H := H) Tryz.underlying3 rfl) (And.intro (fun H => fieldAt_eq (H := H) Tryz.underlying25 (i := 2) rfl (off := 2) rfl Tryz.sizeOf22) (And.intro (fun H => loadAt_one (H := H) Tryz.underlying22 rfl) @callF149)))
def y168_108 := And.intro (fun H => len_slice (H := H) Tryz.underlying22) (And.intro (fun H => indexAt_slice (H := H) Tryz.underlying22 Tryz.sizeOf3) (fun H => loadAt_one (H := H) Tryz.underlying3 rfl))
theorem rin_spec (m : Md) (H : Hp) (n lo hi : Int) :
  FnX Tryz.prog m 150 #[.int .i64 n, .int .i64 lo, .int .i64 hi] H fun e H' => e = .returned (.bool (decide (lo <= n) && decide (n <= hi))) /\ H' = H := by
 refine FnX_start Tryz.func150 rfl Tryz.ntmps150 (by simp) ?_
 by_cases h : lo <= n
 ·(refine @unH _ ?_; refine zA trivial ?_; (repeat (refine inC ?_; intro hc)); try (refine inK ?_; intro K hK))
  (refine @unH _ ?_; refine z9 Tryz.results150 ?_)
  simp [h]
 ·(refine @unH _ ?_; refine zA trivial ?_; (repeat (refine inC ?_; intro hc)); try (refine inK ?_; intro K hK))
  (refine @unH _ ?_; refine z9 Tryz.results150 ?_)
  simp [h]
theorem rin_yes (m : Md) (H : Hp) (n lo hi : Int) (h0 : lo <= n) (h1 : n <= hi) :
  FnX Tryz.prog m 150 #[.int .i64 n, .int .i64 lo, .int .i64 hi] H fun e H' => e = .returned (.bool true) /\ H' = H :=
 (rin_spec m H n lo hi).mono fun e H' ⟨he, hH⟩ => ⟨by rw [he, decide_eq_true h0, decide_eq_true h1]; rfl, hH⟩
def atF (xs : List Int) (n : Int) : Int := match xs.findIdx? (· == n) with
 | some k => k
 | none => -1
theorem atF_no {xs : List Int} {n : Int} (h : n ∉ xs) : atF xs n = -1 := by
 unfold atF
 have e : xs.findIdx? (· == n) = none := List.findIdx?_eq_none_iff.2 (fun x hx => beq_false_of_ne fun e => h (by rw [<- e]; exact hx))
 rw [e]
theorem atF_at {xs : List Int} {n : Int} {k : Nat} (hk : xs[k]? = some n) (hn : n ∉ xs.take k) : atF xs n = k := by
 obtain ⟨hlt, he⟩ := List.getElem?_eq_some_iff.1 hk
 unfold atF
 rw [List.findIdx?_eq_some_iff_getElem.2 ⟨hlt, by simp [he], fun j hj => by
  have : xs[j]'(by omega) ∈ xs.take k := List.mem_iff_getElem.2 ⟨j, by rw [List.length_take]; omega, by rw [List.getElem_take]⟩
  simp
  intro e
  exact hn (e ▸ this)⟩]
theorem atF_mem {xs : List Int} {n : Int} (h : n ∈ xs) : 0 <= atF xs n /\ atF xs n < xs.length /\ xs[(atF xs n).toNat]? = some n := by
 unfold atF
 cases hf : xs.findIdx? (· == n) with
 | none => exact absurd h (fun hm => by have := List.findIdx?_eq_none_iff.1 hf n hm; simp at this)
 | some k =>
  obtain ⟨h1, h2, _⟩ := List.findIdx?_eq_some_iff_getElem.1 hf
  simp only [beq_iff_eq] at h2
  simp only [Int.toNat_natCast]
  refine ⟨by omega, by omega, ?_⟩
  rw [List.getElem?_eq_getElem h1, h2]
theorem atF_bnd (xs : List Int) (n : Int) : -1 <= atF xs n /\ atF xs n < xs.length := by
 by_cases h : n ∈ xs
 ·have := atF_mem h; omega
 ·rw [atF_no h]; omega
theorem rat_spec (m : Md) (H : Hp) (v : Value) (xs : List Int) (n : Int) (hv : SlI H v xs) (hl : xs.length <= 1000000) :
  FnX Tryz.prog m 149 #[v, .int .i64 n] H fun e H' => e = .returned (.int .i64 (atF xs n)) /\ H' = H := by
 have hvS := hv
 obtain ⟨a, cap, rfl, hcap, hx⟩ := hv
 refine FnX_start Tryz.func149 rfl Tryz.ntmps149 (by simp) ?_
 (refine @unH _ ?_; refine zA y149_108 ?_; (repeat (refine inC ?_; intro hc)); try (refine inK ?_; intro K hK))
 refine wpX_loop (fun w a' H' => ∃ e j, w = xs.length - j /\ j <= xs.length /\ a' = act 19 e [] /\ e 0 = .slice a xs.length cap /\ e 1 = .int .i64 n /\ e 5 = .int .i64 (j : Nat) /\ H' = H /\ n ∉ xs.take j) (n := xs.length) ?_ ?_
 ·exact ⟨_, 0, by omega, by omega, rfl, rfl, rfl, rfl, by trivial, by simp⟩
 ·rintro w a' H' ⟨e, j, rfl, hj, rfl, e0, e1, e5, hH, hno⟩
  rw [hH]; clear hH H'
  by_cases hlt : j < xs.length
  ·obtain ⟨b, o, p, c, fr, rfl, hb, hcx⟩ := hx j xs[j] (List.getElem?_eq_getElem hlt)
   have hxj := List.getElem?_eq_getElem hlt
   generalize hy : xs[j] = y at *
   have hcx' : c[o + (j : Int).toNat * 1]? = some (.int .i64 y) := by simpa using hcx
   have hno' : SameP (n ∉ xs.take j) := hno
   have hxj' : SameP (xs[j]? = some y) := hxj
   clear hx hno hxj hy
   by_cases hyn : y = n
   ·subst hyn
    (refine @unH _ ?_; refine zA (And.intro y149_108 ((beq_self_eq_true y))) ?_; (repeat (refine inC ?_; intro hc)); try (refine inK ?_; intro K hK))
    (refine @unH _ ?_; refine z9 Tryz.results149 ?_)
    exact ⟨by rw [atF_at hxj' hno'], by trivial⟩
   ·have hne : (y == n) = false := beq_false_of_ne hyn
    clear hyn
    have hnext : n ∉ xs.take (j + 1) := fun h => by
     have hxj : xs[j]? = some y := hxj'
     rw [List.take_add_one, hxj] at h
     rcases List.mem_append.1 h with h | h
     ·exact hno' h
     ·rw [show n = y by simpa using h] at hne
      simp at hne
    replace hnext : SameP _ := hnext
    (refine @unH _ ?_; refine zA y149_108 ?_; (repeat (refine inC ?_; intro hc)); try (refine inK ?_; intro K hK))
    exact ⟨_, by omega, _, j + 1, rfl, hlt, rfl, e0, e1, rfl, by trivial, hnext⟩
  ·obtain rfl : j = xs.length := by omega
   (refine @unH _ ?_; refine zA y149_108 ?_; (repeat (refine inC ?_; intro hc)); try (refine inK ?_; intro K hK))
   (refine @unH _ ?_; refine z9 Tryz.results149 ?_)
   exact ⟨by rw [atF_no (by simpa using hno)], by trivial⟩
def lastF (start ts : List Int) (p : Int) : Nat -> Int
 | 0 => atF start p - 4
 | i + 1 => if ts.getD i 0 = p then i else lastF start ts p i
theorem lastCall_spec (m : Md) (H : Hp) (places pieces : Int) (sv cv tv : Value) (start ts : List Int) (hs : SlI H sv start) (ht : SlI H tv ts) (hsl : start.length <= 1000) (htl : ts.length <= 1000) (i : Nat) (hi : i <= ts.length) (p : Int) :
  FnX Tryz.prog m 167 #[.agg #[.int .i64 places, .int .i64 pieces, sv, cv], tv, .int .i64 i, .int .i64 p] H fun e H' => e = .returned (.int .i64 (lastF start ts p i)) /\ H.le H' := by
 have hsS := hs
 have htS := ht
 obtain ⟨sa, sc, rfl, hsc, _⟩ := hs
 obtain ⟨ta, tc, rfl, htc, _⟩ := ht
 refine FnX_start Tryz.func167 rfl Tryz.ntmps167 (by simp) ?_
 (refine @unH _ ?_; refine zA y167_108 ?_; (repeat (refine inC ?_; intro hc)); try (refine inK ?_; intro K hK))
 (intro vb hvb; generalize hG : Hp.set _ vb _ = H1; have lH1 := le_of_set hG hvb; have vvb := at_of_set hG; clear hG)
 have hs1 := hsS.le lH1
 have ht1 := htS.le lH1
 ((try (refine @unH _ ?_; refine zX y167_108 ?_)); (try (refine hK _ _ ?_; clear hK K; (try simp only [nq, ↓reduceIte, Nat.reduceEqDiff]))); refine @unH _ ?_; refine zA y167_108 ?_; (repeat (refine inC ?_; intro hc)); try (refine inK ?_; intro K hK))
 refine wpX_loop (fun w a' H' => ∃ e j, w = j /\ j <= i /\ a' = act 28 e [] /\ e 1 = .slice ta ts.length tc /\ e 3 = .int .i64 p /\ e 4 = .pointer (some ⟨vb, 0, none⟩) /\ e 9 = .int .i64 ((j : Int) - 1) /\ H' = H1 /\ lastF start ts p i = lastF start ts p j) (n := i) ?_ ?_
 ·exact ⟨_, i, rfl, Nat.le_refl _, rfl, rfl, rfl, rfl, rfl, by trivial, rfl⟩
 ·rintro w a' H' ⟨e, j, hw, hj, rfl, e1, e3, e4, e9, hH, heq⟩
  rw [hH]; clear hH H'
  subst hw
  cases w with
  | zero =>
   replace heq : SameP _ := heq
   have hab := atF_bnd start p
   (refine @unH _ ?_; refine zA y167_108 ?_; (repeat (refine inC ?_; intro hc)); try (refine inK ?_; intro K hK))
   refine (rat_spec m H1 _ start p hs1 (by omega)).runs.mono ?_; rintro _ HQ ⟨rfl, hHQ⟩; rw [hHQ]; clear hHQ HQ; ((try (refine @unH _ ?_; refine zX y167_108 ?_)); (try (refine hK _ _ ?_; clear hK K; (try simp only [nq, ↓reduceIte, Nat.reduceEqDiff]))); refine @unH _ ?_; refine zA y167_108 ?_; (repeat (refine inC ?_; intro hc)); try (refine inK ?_; intro K hK))
   (refine @unH _ ?_; refine z9 Tryz.results167 ?_)
   exact ⟨by rw [show lastF start ts p i = lastF start ts p 0 from heq]; rfl, lH1⟩
  | succ j =>
   have hlt : j < ts.length := by omega
   obtain ⟨b, o, pp, c, fr, rfl, hb, hcx⟩ := SlI.get ht1 (List.getElem?_eq_getElem hlt)
   have hg : ts.getD j 0 = ts[j] := by simp [List.getD, List.getElem?_eq_getElem hlt]
   have hst : lastF start ts p (j + 1) = if ts[j] = p then (j : Int) else lastF start ts p j := by rw [lastF, hg]
   rw [hst] at heq
   generalize ts[j] = y at *
   replace heq : SameP _ := heq
   clear hg hst
   have hj1 : ((j + 1 : Nat) : Int) - 1 = j := by omega
   rw [hj1] at e9
   clear hj1
   by_cases hyp : y = p
   ·subst hyp
    (refine @unH _ ?_; refine zA (And.intro y167_108 ((beq_self_eq_true y))) ?_; (repeat (refine inC ?_; intro hc)); try (refine inK ?_; intro K hK))
    (refine @unH _ ?_; refine z9 Tryz.results167 ?_)
    exact ⟨by rw [show lastF start ts y i = _ from heq, if_pos rfl], lH1⟩
   ·have hne : (y == p) = false := beq_false_of_ne hyp
    (refine @unH _ ?_; refine zA y167_108 ?_; (repeat (refine inC ?_; intro hc)); try (refine inK ?_; intro K hK))
    refine ⟨_, Nat.lt_succ_self _, _, j, rfl, by omega, rfl, e1, e3, e4, rfl, by trivial, ?_⟩
    rw [show lastF start ts p i = _ from heq, if_neg hyp]
def nextF (ts : List Int) (p : Int) (i : Nat) : Int := match (ts.drop (i + 1)).findIdx? (· == p) with
 | some k => i + 1 + k
 | none => ts.length
theorem nextF_hit {ts : List Int} {p : Int} {i j : Nat} (hij : i < j) (hj : ts[j]? = some p) (hn : ∀ k, i < k -> k < j -> ts[k]? ≠ some p) : nextF ts p i = j := by
 obtain ⟨hlt, he⟩ := List.getElem?_eq_some_iff.1 hj
 unfold nextF
 have hf : (ts.drop (i + 1)).findIdx? (· == p) = some (j - (i + 1)) := List.findIdx?_eq_some_iff_getElem.2 ⟨by rw [List.length_drop]; omega, by simp [List.getElem_drop, show i + 1 + (j - (i + 1)) = j by omega, he], fun k hk => by
  simp only [List.getElem_drop, beq_iff_eq]
  intro e
  exact hn (i + 1 + k) (by omega) (by omega) (by rw [List.getElem?_eq_getElem (by omega), e])⟩
 rw [hf]
 simp only []
 omega
theorem nextF_none {ts : List Int} {p : Int} {i : Nat} (hn : ∀ k, i < k -> k < ts.length -> ts[k]? ≠ some p) : nextF ts p i = ts.length := by
 unfold nextF
 have hf : (ts.drop (i + 1)).findIdx? (· == p) = none := List.findIdx?_eq_none_iff.2 fun x hx => ?_
 ·rw [hf]
 obtain ⟨k, hk, he⟩ := List.mem_iff_getElem.1 hx
 rw [List.length_drop] at hk
 refine beq_false_of_ne fun e => hn (i + 1 + k) (by omega) (by omega) ?_
 rw [List.getElem_drop] at he
 rw [List.getElem?_eq_getElem (by omega), he, e]
theorem nextCall_spec (m : Md) (H : Hp) (tv : Value) (ts : List Int) (ht : SlI H tv ts) (htl : ts.length <= 1000) (i : Nat) (hi : i < ts.length) (p : Int) :
  FnX Tryz.prog m 168 #[tv, .int .i64 i, .int .i64 p] H fun e H' => e = .returned (.int .i64 (nextF ts p i)) /\ H' = H := by
 have htS := ht
 obtain ⟨ta, tc, rfl, htc, _⟩ := ht
 refine FnX_start Tryz.func168 rfl Tryz.ntmps168 (by simp) ?_
 (refine @unH _ ?_; refine zA y168_108 ?_; (repeat (refine inC ?_; intro hc)); try (refine inK ?_; intro K hK))
 refine wpX_loop (fun w a' H' => ∃ e j, w = ts.length - j /\ i < j /\ j <= ts.length /\ a' = act 25 e [] /\ e 0 = .slice ta ts.length tc /\ e 2 = .int .i64 p /\ e 7 = .int .i64 (j : Nat) /\ H' = H /\ ∀ k, i < k -> k < j -> ts[k]? ≠ some p) (n := ts.length - (i + 1)) ?_ ?_
 ·exact ⟨_, i + 1, rfl, by omega, hi, rfl, rfl, rfl, rfl, by trivial, fun k h1 h2 => by omega⟩
 ·rintro w a' H' ⟨e, j, rfl, hij, hj, rfl, e0, e2, e7, hH, hno⟩
  rw [hH]; clear hH H'
  replace hno : SameP _ := hno
  by_cases hlt : j < ts.length
  ·obtain ⟨b, o, pp, c, fr, rfl, hb, hcx⟩ := SlI.get htS (List.getElem?_eq_getElem hlt)
   have hxj : ts[j]? = some ts[j] := List.getElem?_eq_getElem hlt
   generalize ts[j] = y at *
   replace hxj : SameP _ := hxj
   by_cases hyp : y = p
   ·subst hyp
    (refine @unH _ ?_; refine zA (And.intro y168_108 ((beq_self_eq_true y))) ?_; (repeat (refine inC ?_; intro hc)); try (refine inK ?_; intro K hK))
    (refine @unH _ ?_; refine z9 Tryz.results168 ?_)
    exact ⟨by rw [nextF_hit hij hxj hno], by trivial⟩
   ·have hne : (y == p) = false := beq_false_of_ne hyp
    (refine @unH _ ?_; refine zA y168_108 ?_; (repeat (refine inC ?_; intro hc)); try (refine inK ?_; intro K hK))
    refine ⟨_, by omega, _, j + 1, rfl, by omega, hlt, rfl, e0, e2, rfl, by trivial, fun k h1 h2 => ?_⟩
    by_cases hkj : k = j
    ·subst hkj
     have h3 : ts[k]? = some y := hxj
     rw [h3]
     exact fun e => hyp (Option.some.inj e)
    ·exact hno k h1 (by omega)
  ·obtain rfl : j = ts.length := by omega
   (refine @unH _ ?_; refine zA y168_108 ?_; (repeat (refine inC ?_; intro hc)); try (refine inK ?_; intro K hK))
   (refine @unH _ ?_; refine z9 Tryz.results168 ?_)
   exact ⟨by rw [nextF_none hno], by trivial⟩
end Go.Proofs.YtofmadjgbcopdaaGreatDoor
end
section
namespace Go.Proofs.YtofmadjgbcopdaaGreatDoor
open Go Go.X
def y151_109 := And.intro @callF149 (And.intro (fun H => loadAt_aggE (H := H) Tryz.underlying25 rfl Tryz.sizeOf25) (And.intro @callF167 @callF168))
def y152_109 := And.intro (fun H => len_slice (H := H) Tryz.underlying22) (And.intro (fun H => indexAt_slice (H := H) Tryz.underlying22 Tryz.sizeOf3) (And.intro (fun H => loadAt_one (H := H) Tryz.underlying3 rfl) @lit_22_1_0_0))
def befF (start ts off : List Int) (r : Int) (i : Nat) (a b : Int) : Bool :=
 if r = 1 then decide (atF off a < atF off b)
 else if r = 2 then decide (lastF start ts a i < lastF start ts b i)
 else if r = 3 then (if nextF ts a i = nextF ts b i then decide (a < b) else decide (nextF ts b i < nextF ts a i))
 else decide (a < b)
theorem before_spec (m : Md) (H : Hp) (places pieces : Int) (sv cv tv ov : Value) (start ts off : List Int) (hs : SlI H sv start) (ht : SlI H tv ts) (ho : SlI H ov off) (hcs : ∃ a n c, cv = .slice a n c) (hsl : start.length <= 1000) (htl : ts.length <= 1000) (hol : off.length <= 1000) (r : Int) (hr0 : 0 <= r) (hr3 : r <= 3) (i : Nat) (hi : i < ts.length) (a b : Int) :
  FnX Tryz.prog m 151 #[.agg #[.int .i64 places, .int .i64 pieces, sv, cv], tv, ov, .int .i64 r, .int .i64 i, .int .i64 a, .int .i64 b] H fun e H' => e = .returned (.bool (befF start ts off r i a b)) /\ H.le H' := by
 obtain ⟨ca, cn, cc, rfl⟩ := hcs
 have hsS := hs
 have htS := ht
 have hoS := ho
 obtain ⟨sa, sc, rfl, hsc, _⟩ := hs
 obtain ⟨ta, tc, rfl, htc, _⟩ := ht
 obtain ⟨oa, oc, rfl, hoc, _⟩ := ho
 have hcase : r = 0 ∨ r = 1 ∨ r = 2 ∨ r = 3 := by omega
 refine FnX_start Tryz.func151 rfl Tryz.ntmps151 (by simp) ?_
 (refine @unH _ ?_; refine zA y151_109 ?_; (repeat (refine inC ?_; intro hc)); try (refine inK ?_; intro K hK))
 (intro vb hvb; generalize hG : Hp.set _ vb _ = H1; have lH1 := le_of_set hG hvb; have vvb := at_of_set hG; clear hG)
 have hs1 := hsS.le lH1
 have ht1 := htS.le lH1
 have ho1 := hoS.le lH1
 rcases hcase with rfl | rfl | rfl | rfl
 ·((try (refine @unH _ ?_; refine zX y151_109 ?_)); (try (refine hK _ _ ?_; clear hK K; (try simp only [nq, ↓reduceIte, Nat.reduceEqDiff]))); refine @unH _ ?_; refine zA y151_109 ?_; (repeat (refine inC ?_; intro hc)); try (refine inK ?_; intro K hK))
  (refine @unH _ ?_; refine z9 Tryz.results151 ?_)
  exact ⟨rfl, lH1⟩
 ·((try (refine @unH _ ?_; refine zX y151_109 ?_)); (try (refine hK _ _ ?_; clear hK K; (try simp only [nq, ↓reduceIte, Nat.reduceEqDiff]))); refine @unH _ ?_; refine zA y151_109 ?_; (repeat (refine inC ?_; intro hc)); try (refine inK ?_; intro K hK))
  refine (rat_spec m H1 _ off a ho1 (by omega)).runs.mono ?_; rintro _ HQ ⟨rfl, hHQ⟩; rw [hHQ]; clear hHQ HQ; ((try (refine @unH _ ?_; refine zX y151_109 ?_)); (try (refine hK _ _ ?_; clear hK K; (try simp only [nq, ↓reduceIte, Nat.reduceEqDiff]))); refine @unH _ ?_; refine zA y151_109 ?_; (repeat (refine inC ?_; intro hc)); try (refine inK ?_; intro K hK))
  refine (rat_spec m H1 _ off b ho1 (by omega)).runs.mono ?_; rintro _ HQ ⟨rfl, hHQ⟩; rw [hHQ]; clear hHQ HQ; ((try (refine @unH _ ?_; refine zX y151_109 ?_)); (try (refine hK _ _ ?_; clear hK K; (try simp only [nq, ↓reduceIte, Nat.reduceEqDiff]))); refine @unH _ ?_; refine zA y151_109 ?_; (repeat (refine inC ?_; intro hc)); try (refine inK ?_; intro K hK))
  (refine @unH _ ?_; refine z9 Tryz.results151 ?_)
  exact ⟨rfl, lH1⟩
 ·((try (refine @unH _ ?_; refine zX y151_109 ?_)); (try (refine hK _ _ ?_; clear hK K; (try simp only [nq, ↓reduceIte, Nat.reduceEqDiff]))); refine @unH _ ?_; refine zA y151_109 ?_; (repeat (refine inC ?_; intro hc)); try (refine inK ?_; intro K hK))
  have hq := fun p => lastCall_spec m H1 places pieces _ (.slice ca cn cc) _ start ts hs1 ht1 hsl htl i (by omega) p
  refine wpX_dst1 12 [(true, 0), (true, 1), (true, 2), (true, 3), (true, 4), (true, 5), (true, 6), (true, 7), (true, 8), (true, 9), (true, 10), (true, 11)] (by kernel_rfl) (by kernel_rfl) (by simp) (by kernel_rfl) ?_; intro K hK
  (iterate 4 (refine @unH _ ?_; refine z3 y151_109 ?_))
  (apply plan_take rfl rfl rfl; (focus ((refine @unH _ ?_; refine zX y151_109 ?_); exact quiet_le (hq a))); simp -implicitDefEqProofs (disch := first | omega | (simp only [qd] <;> omega)) only [act_put, act_put_none])
  (iterate 4 (refine @unH _ ?_; refine z3 y151_109 ?_))
  (apply plan_take rfl rfl rfl; (focus ((refine @unH _ ?_; refine zX y151_109 ?_); exact quiet_le (hq b))); simp -implicitDefEqProofs (disch := first | omega | (simp only [qd] <;> omega)) only [act_put, act_put_none])
  (iterate 2 (refine @unH _ ?_; refine z3 y151_109 ?_))
  refine plan_nil (hK _ _ ?_)
  clear hK K
  (try simp only [nq, ↓reduceIte, Nat.reduceEqDiff])
  (refine @unH _ ?_; refine zA y151_109 ?_; (repeat (refine inC ?_; intro hc)); try (refine inK ?_; intro K hK))
  (refine @unH _ ?_; refine z9 Tryz.results151 ?_)
  exact ⟨rfl, lH1⟩
 ·((try (refine @unH _ ?_; refine zX y151_109 ?_)); (try (refine hK _ _ ?_; clear hK K; (try simp only [nq, ↓reduceIte, Nat.reduceEqDiff]))); refine @unH _ ?_; refine zA y151_109 ?_; (repeat (refine inC ?_; intro hc)); try (refine inK ?_; intro K hK))
  refine (nextCall_spec m H1 _ ts ht1 htl i hi a).runs.mono ?_; rintro _ HQ ⟨rfl, hHQ⟩; rw [hHQ]; clear hHQ HQ; ((try (refine @unH _ ?_; refine zX y151_109 ?_)); (try (refine hK _ _ ?_; clear hK K; (try simp only [nq, ↓reduceIte, Nat.reduceEqDiff]))); refine @unH _ ?_; refine zA y151_109 ?_; (repeat (refine inC ?_; intro hc)); try (refine inK ?_; intro K hK))
  refine (nextCall_spec m H1 _ ts ht1 htl i hi b).runs.mono ?_
  rintro _ HQ ⟨rfl, hHQ⟩; rw [hHQ]; clear hHQ HQ
  have hbf : befF start ts off 3 i a b = (if nextF ts a i = nextF ts b i then decide (a < b) else decide (nextF ts b i < nextF ts a i)) := rfl
  generalize nextF ts a i = x at *
  generalize nextF ts b i = y at *
  replace hbf : SameP _ := hbf
  by_cases hxy : x = y
  ·subst hxy
   ((try (refine @unH _ ?_; refine zX y151_109 ?_)); (try (refine hK _ _ ?_; clear hK K; (try simp only [nq, ↓reduceIte, Nat.reduceEqDiff]))); refine @unH _ ?_; refine zA y151_109 ?_; (repeat (refine inC ?_; intro hc)); try (refine inK ?_; intro K hK))
   (refine @unH _ ?_; refine z9 Tryz.results151 ?_)
   exact ⟨by rw [show befF start ts off 3 i a b = _ from hbf, if_pos rfl], lH1⟩
  ·((try (refine @unH _ ?_; refine zX y151_109 ?_)); (try (refine hK _ _ ?_; clear hK K; (try simp only [nq, ↓reduceIte, Nat.reduceEqDiff]))); refine @unH _ ?_; refine zA y151_109 ?_; (repeat (refine inC ?_; intro hc)); try (refine inK ?_; intro K hK))
   (refine @unH _ ?_; refine z9 Tryz.results151 ?_)
   exact ⟨by rw [show befF start ts off 3 i a b = _ from hbf, if_neg hxy], lH1⟩
theorem append_i2 {t : Option Nat} {H₀ H : Hp} {v : Value} {xs : List Int} (h : RowX t H₀ H v 3 (ints xs)) {g : Nat} {x : Int} (hg : H g = none) (hn : xs.length <= 1000000) (ty : TypeId) (cb : Array Bool) (K : Next -> Hp -> Prop) (E : Value -> Hp -> Prop)
  (h' : ∀ v' H', RowX t H₀ H' v' 3 (ints (xs ++ [x])) -> (∀ b u, H b = some u -> rowB v ≠ some b -> H' b = some u) -> (∀ b, rowB v' = some b -> rowB v = some b ∨ H b = none) -> K (.value v') H') :
  wpS Tryz.prog (builtin .append #[22, 22] ty cb #[v, .slice (some ⟨g, 0, none⟩) 1 1]) (H.set g (.cells #[.int .i64 x] 3 (0, 0))) K E :=
 append_row2 Tryz.underlying22 Tryz.sizeOf3 Tryz.zeroValue3 rfl Tryz.typeInfo3 (by decide) (by decide) h hg rfl (by rw [ints_len]; exact hn) ty cb K E fun v' H' hr hk hnw => h' v' H' (by rw [ints_app]; exact hr) hk hnw
theorem rwithout_spec (m : Md) (H : Hp) (v : Value) (xs : List Int) (n : Int) (hv : SlI H v xs) (hl : xs.length <= 1000) :
  FnX Tryz.prog m 152 #[v, .int .i64 n] H fun e H' => ∃ w, e = .returned w /\ RowX none H H' w 3 (ints (xs.filter fun x => !(x == n))) := by
 have hvS := hv
 obtain ⟨a, cap, rfl, hcap, _⟩ := hv
 refine FnX_start Tryz.func152 rfl Tryz.ntmps152 (by simp) ?_
 (refine @unH _ ?_; refine zA y152_109 ?_; (repeat (refine inC ?_; intro hc)); try (refine inK ?_; intro K hK))
 refine wpX_loop (fun w a' H' => ∃ e j ov, w = xs.length - j /\ j <= xs.length /\ a' = act 27 e [] /\ e 0 = .slice a xs.length cap /\ e 1 = .int .i64 n /\ e 5 = ov /\ e 6 = .int .i64 (j : Nat) /\ RowX none H H' ov 3 (ints ((xs.take j).filter fun x => !(x == n)))) (n := xs.length) ?_ ?_
 ·exact ⟨_, 0, _, by omega, by omega, rfl, rfl, rfl, rfl, rfl, RowX.nil⟩
 ·rintro w a' H2 ⟨e, j, ov, rfl, hj, rfl, e0, e1, e5, e6, hov⟩
  by_cases hlt : j < xs.length
  ·obtain ⟨b, o, pp, c, fr, rfl, hb, hcx⟩ := SlI.get (hvS.le hov.1.toLe) (List.getElem?_eq_getElem hlt)
   have hnext : (xs.take (j + 1)).filter (fun x => !(x == n)) = (xs.take j).filter (fun x => !(x == n)) ++ (if xs[j] = n then [] else [xs[j]]) := by
    rw [List.take_add_one, List.getElem?_eq_getElem hlt, List.filter_append]
    congr 1
    by_cases h : xs[j] = n <;> simp [h]
   have hfl : ((xs.take j).filter fun x => !(x == n)).length <= 1000000 := by
    have h1 := List.length_filter_le (fun x => !(x == n)) (xs.take j)
    rw [List.length_take] at h1
    omega
   generalize (xs.take j).filter (fun x => !(x == n)) = off at hov hnext hfl
   generalize xs[j] = y at *
   replace hnext : SameP _ := hnext
   obtain ⟨oa, oc, rfl⟩ := hov.len
   by_cases hyn : y = n
   ·subst hyn
    (refine @unH _ ?_; refine zA (And.intro y152_109 (And.intro ((beq_self_eq_true y)) @Bool.not_true)) ?_; (repeat (refine inC ?_; intro hc)); try (refine inK ?_; intro K hK))
    refine ⟨_, by omega, _, j + 1, _, rfl, hlt, rfl, e0, e1, e5, rfl, ?_⟩
    rw [show List.filter _ _ = _ from hnext, if_pos rfl, List.append_nil]
    exact hov
   ·have hne : (y == n) = false := beq_false_of_ne hyn
    (refine @unH _ ?_; refine zA (And.intro y152_109 @Bool.not_false) ?_; (repeat (refine inC ?_; intro hc)); try (refine inK ?_; intro K hK))
    intro g hg
    refine append_i hov hg hfl _ _ _ _ ?_
    intro v' H3 hr3 _
    ((try (refine @unH _ ?_; refine zX y152_109 ?_)); (try (refine hK _ _ ?_; clear hK K; (try simp only [nq, ↓reduceIte, Nat.reduceEqDiff]))); refine @unH _ ?_; refine zA y152_109 ?_; (repeat (refine inC ?_; intro hc)); try (refine inK ?_; intro K hK))
    refine ⟨_, by omega, _, j + 1, v', rfl, hlt, rfl, e0, e1, rfl, rfl, ?_⟩
    rw [show List.filter _ _ = _ from hnext, if_neg hyn]
    exact hr3
  ·obtain rfl : j = xs.length := by omega
   rw [List.take_length] at hov
   (refine @unH _ ?_; refine zA y152_109 ?_; (repeat (refine inC ?_; intro hc)); try (refine inK ?_; intro K hK))
   (refine @unH _ ?_; refine z9 Tryz.results152 ?_)
   exact ⟨ov, rfl, hov⟩
end Go.Proofs.YtofmadjgbcopdaaGreatDoor
end
section
namespace Go.Proofs.YtofmadjgbcopdaaGreatDoor
open Go Go.X
def y148_110 := And.intro (fun H => fieldAt_eq (H := H) Tryz.underlying25 (i := 0) rfl (off := 0) rfl Tryz.sizeOf3) (And.intro (fun H => loadAt_one (H := H) Tryz.underlying3 rfl) (And.intro @callF150 (And.intro (fun H => fieldAt_eq (H := H) Tryz.underlying25 (i := 1) rfl (off := 1) rfl Tryz.sizeOf3) (And.intro (fun H => fieldAt_eq (H := H) Tryz.underlying25 (i := 2) rfl (off := 2) rfl Tryz.sizeOf22) (And.intro (fun H => loadAt_one (H := H) Tryz.underlying22 rfl) (And.intro (fun H => len_slice (H := H) Tryz.underlying22) (And.intro (fun H => indexAt_slice (H := H) Tryz.underlying22 Tryz.sizeOf3) (And.intro (fun H => slice_hi (H := H) Tryz.underlying22 Tryz.sizeOf3) (And.intro (fun H => slice_lo (H := H) Tryz.underlying22 Tryz.sizeOf3) (And.intro (fun H => slice_lohi (H := H) Tryz.underlying22 Tryz.sizeOf3) (And.intro @callF149 (And.intro (fun H => fieldAt_eq (H := H) Tryz.underlying25 (i := 3) rfl (off := 3) rfl Tryz.sizeOf23) (And.intro (fun H => loadAt_one (H := H) Tryz.underlying23 rfl) (And.intro (fun H => len_slice (H := H) Tryz.underlying23) (fun H => indexAt_slice (H := H) Tryz.underlying23 Tryz.sizeOf22)))))))))))))))
theorem getD_at {xs : List Int} {i : Nat} (h : i < xs.length) : xs.getD i 0 = xs[i] := by simp [List.getD, List.getElem?_eq_getElem h]
theorem SlR.get {H : Hp} {a : Option Addr} {n cap : Nat} {xss : List (List Int)} (h : SlR H (.slice a n cap) xss) {i : Nat} {xs : List Int} (hx : xss[i]? = some xs) :
  ∃ (b o : Nat) (p : Bool) (c : Array Value) (fr : Nat × Nat) (w : Value), a = some ⟨b, o, none⟩ /\ H b = some (p, .cells c 22 fr) /\ c[o + i]? = some w /\ SlI H w xs := by
 obtain ⟨a', cap', he, _, hg⟩ := h
 cases he
 exact hg i xs hx
theorem sli_pre {H : Hp} {a : Option Addr} {m cap : Nat} {xs : List Int} (h : SlI H (.slice a m cap) xs) {k : Nat} (hk : k <= xs.length) : SlI H (.slice a k cap) (xs.take k) := by
 obtain ⟨a', c', h1, h2, h3⟩ := h
 cases h1
 have hl : (xs.take k).length = k := by rw [List.length_take]; omega
 refine ⟨_, _, by rw [hl], by omega, fun i x hi => ?_⟩
 rw [List.getElem?_take] at hi
 split at hi
 ·exact h3 i x hi
 ·cases hi
theorem rat_no (m : Md) (H : Hp) (v : Value) (xs : List Int) (n : Int) (hv : SlI H v xs) (hl : xs.length <= 1000000) (hn : n ∉ xs) :
  FnX Tryz.prog m 149 #[v, .int .i64 n] H fun e H' => e = .returned (.int .i64 (-1)) /\ H' = H :=
 (rat_spec m H v xs n hv hl).mono fun e H' ⟨he, hH⟩ => ⟨by rw [he, atF_no hn], hH⟩
theorem rcheck_spec (m : Md) (H : Hp) (places pieces : Int) (sv cv : Value) (start : List Int) (xss : List (List Int)) (hs : SlI H sv start) (hc : SlR H cv xss) (hok : VaultOk places pieces start xss) (hx8 : xss.length <= 8) :
  FnX Tryz.prog m 148 #[.agg #[.int .i64 places, .int .i64 pieces, sv, cv]] H fun e H' => e = .returned (.int .i64 0) /\ H.le H' := by
 obtain ⟨hp1, hp4, hq1, hq6, hsl, hsd, hsb, hcs⟩ := hok
 have hsS := hs
 have hcS := hc
 obtain ⟨sa, sc, rfl, hsc, _⟩ := hs
 obtain ⟨ca, cc, rfl, hcc, _⟩ := hc
 have hcs' : SameP _ := hcs
 have hsb' : SameP _ := hsb
 have hsd' : SameP _ := hsd
 clear hcs hsb hsd
 refine FnX_start Tryz.func148 rfl Tryz.ntmps148 (by simp) ?_
 (refine @unH _ ?_; refine zA y148_110 ?_; (repeat (refine inC ?_; intro hc)); try (refine inK ?_; intro K hK))
 (intro vb hvb; generalize hG : Hp.set _ vb _ = H1; have lH1 := le_of_set hG hvb; have vvb := at_of_set hG; clear hG)
 have hs1 := hsS.le lH1
 have hc1 := hcS.le lH1
 clear hsS hcS
 ((try (refine @unH _ ?_; refine zX y148_110 ?_)); (try (refine hK _ _ ?_; clear hK K; (try simp only [nq, ↓reduceIte, Nat.reduceEqDiff]))); refine @unH _ ?_; refine zA y148_110 ?_; (repeat (refine inC ?_; intro hc)); try (refine inK ?_; intro K hK))
 refine (rin_yes m H1 places 1 4 hp1 hp4).runs.mono ?_; rintro _ HQ ⟨rfl, hHQ⟩; rw [hHQ]; clear hHQ HQ; ((try (refine @unH _ ?_; refine zX y148_110 ?_)); (try (refine hK _ _ ?_; clear hK K; (try simp only [nq, ↓reduceIte, Nat.reduceEqDiff]))); refine @unH _ ?_; refine zA y148_110 ?_; (repeat (refine inC ?_; intro hc)); try (refine inK ?_; intro K hK))
 refine (rin_yes m H1 pieces 1 6 hq1 hq6).runs.mono ?_; rintro _ HQ ⟨rfl, hHQ⟩; rw [hHQ]; clear hHQ HQ; ((try (refine @unH _ ?_; refine zX y148_110 ?_)); (try (refine hK _ _ ?_; clear hK K; (try simp only [nq, ↓reduceIte, Nat.reduceEqDiff]))); refine @unH _ ?_; refine zA y148_110 ?_; (repeat (refine inC ?_; intro hc)); try (refine inK ?_; intro K hK))
 refine wpX_loop (fun w a' H' => ∃ e j, w = start.length - j /\ j <= start.length /\ a' = act 99 e [] /\ e 1 = .pointer (some ⟨vb, 0, none⟩) /\ e 3 = .int .i64 (j : Nat) /\ H' = H1) (n := start.length) ?_ ?_
 ·exact ⟨_, 0, by omega, by omega, rfl, rfl, rfl, by trivial⟩
 ·rintro w a' H' ⟨e, j, rfl, hj, rfl, e1, e3, hH⟩
  rw [hH]; clear hH H'
  by_cases hlt : j < start.length
  ·obtain ⟨b, o, p, c, fr, rfl, hb, hcx⟩ := SlI.get hs1 (List.getElem?_eq_getElem hlt)
   have hxb := (show ∀ x ∈ start, 0 <= x /\ x < pieces from hsb') _ (List.getElem_mem hlt)
   have hnot : start[j] ∉ start.take j := fun hmem => by
    obtain ⟨i, hi, he⟩ := List.getElem_of_mem hmem
    rw [List.getElem_take] at he
    rw [List.length_take] at hi
    exact (List.pairwise_iff_getElem.1 (show start.Nodup from hsd')) i j (by omega) hlt (by omega) he
   have hpre := sli_pre hs1 (k := j) (by omega)
   have hpl : (start.take j).length <= 1000000 := by rw [List.length_take]; omega
   generalize start[j] = x at *
   replace hpre : SameP _ := hpre
   replace hnot : SameP _ := hnot
   replace hpl : SameP _ := hpl
   (refine @unH _ ?_; refine zA y148_110 ?_; (repeat (refine inC ?_; intro hc)); try (refine inK ?_; intro K hK))
   refine wpX_dst1 10 [(true, 0), (true, 1), (true, 2), (true, 3), (true, 4), (true, 5), (true, 6), (true, 7), (true, 8), (true, 9)] (by kernel_rfl) (by kernel_rfl) (by simp) (by kernel_rfl) ?_; intro K hK
   (iterate 8 (refine @unH _ ?_; refine z3 y148_110 ?_))
   (apply plan_take rfl rfl rfl; (focus ((refine @unH _ ?_; refine zX y148_110 ?_); exact quiet_of (rin_yes m H1 x 0 (pieces - 1) hxb.1 (by omega)))); simp -implicitDefEqProofs (disch := first | omega | (simp only [qd] <;> omega)) only [act_put, act_put_none])
   (refine @unH _ ?_; refine z3 y148_110 ?_)
   refine plan_nil (hK _ _ ?_)
   clear hK K
   (try simp only [nq, ↓reduceIte, Nat.reduceEqDiff])
   (refine @unH _ ?_; refine zA y148_110 ?_; (repeat (refine inC ?_; intro hc)); try (refine inK ?_; intro K hK))
   refine wpX_dst1 11 [(true, 0), (true, 1), (true, 2), (true, 3), (true, 4), (true, 5), (true, 6), (true, 7), (true, 8), (true, 9), (true, 10)] (by kernel_rfl) (by kernel_rfl) (by simp) (by kernel_rfl) ?_; intro K hK
   (iterate 9 (refine @unH _ ?_; refine z3 y148_110 ?_))
   (apply plan_take rfl rfl rfl; (focus ((refine @unH _ ?_; refine zX y148_110 ?_); exact quiet_of (rat_no m H1 _ (start.take j) x hpre hpl hnot))); simp -implicitDefEqProofs (disch := first | omega | (simp only [qd] <;> omega)) only [act_put, act_put_none])
   (refine @unH _ ?_; refine z3 y148_110 ?_)
   refine plan_nil (hK _ _ ?_)
   clear hK K
   (try simp only [nq, ↓reduceIte, Nat.reduceEqDiff])
   (refine @unH _ ?_; refine zA y148_110 ?_; (repeat (refine inC ?_; intro hc)); try (refine inK ?_; intro K hK))
   exact ⟨_, by omega, _, j + 1, rfl, hlt, rfl, e1, rfl, by trivial⟩
  ·obtain rfl : j = start.length := by omega
   (refine @unH _ ?_; refine zA y148_110 ?_; (repeat (refine inC ?_; intro hc)); try (refine inK ?_; intro K hK))
   refine wpX_loop (fun w a' H' => ∃ e i, w = xss.length - i /\ i <= xss.length /\ a' = act 99 e [] /\ e 1 = .pointer (some ⟨vb, 0, none⟩) /\ e 4 = .int .i64 (i : Nat) /\ H' = H1) (n := xss.length) ?_ ?_
   ·exact ⟨_, 0, by omega, by omega, rfl, e1, rfl, by trivial⟩
   ·clear e1 e3 e
    rintro w a' H' ⟨e, i, rfl, hi, rfl, e1, e4, hH⟩
    rw [hH]; clear hH H'
    by_cases hlt2 : i < xss.length
    ·obtain ⟨b, o, p, c, fr, rw', rfl, hb, hcx, hrow⟩ := SlR.get hc1 (List.getElem?_eq_getElem hlt2)
     have hco := (show ∀ xs ∈ xss, CallOk pieces.toNat xs from hcs') _ (List.getElem_mem hlt2)
     generalize xss[i] = xs at *
     have hxl := hco.len
     obtain ⟨hne, hasc, hxb⟩ := hco
     obtain ⟨ra, rc, rfl, hrc, hrx⟩ := id hrow
     have hpos : 0 < xs.length := List.length_pos_iff.2 hne
     have hl0 : ((xs.length : Int) == 0) = false := by simp; omega
     replace hasc : SameP _ := hasc
     replace hxb : SameP _ := hxb
     replace hrx : SameP _ := hrx
     replace hne : SameP _ := hne
     (refine @unH _ ?_; refine zA y148_110 ?_; (repeat (refine inC ?_; intro hc)); try (refine inK ?_; intro K hK))
     refine wpX_loop (fun w a' H' => ∃ e k, w = xs.length - k /\ k <= xs.length /\ a' = act 99 e [] /\ e 1 = .pointer (some ⟨vb, 0, none⟩) /\ e 4 = .int .i64 (i : Nat) /\ e 5 = .slice ra xs.length rc /\ e 6 = .int .i64 (k : Nat) /\ H' = H1) (n := xs.length) ?_ ?_
     ·exact ⟨_, 0, by omega, by omega, rfl, e1, e4, rfl, rfl, by trivial⟩
     ·clear e1 e4 e
      rintro w a' H' ⟨e, k, rfl, hk, rfl, e1, e4, e5, e6, hH⟩
      rw [hH]; clear hH H'
      by_cases hlt3 : k < xs.length
      ·obtain ⟨b2, o2, p2, c2, fr2, rfl, hb2, hx2⟩ := SlI.get hrow (List.getElem?_eq_getElem hlt3)
       have hxk := (show ∀ x ∈ xs, 0 <= x /\ x < (pieces.toNat : Int) from hxb) _ (List.getElem_mem hlt3)
       have hprev : 0 < k -> ∃ y : Int, c2[o2 + ((k : Int) - 1).toNat]? = some (.int .i64 y) /\ y < xs[k] := fun hk0 => by
        have hk1 : k - 1 < xs.length := by omega
        obtain ⟨b3, o3, p3, c3, fr3, hre, hb3, hx3⟩ := SlI.get hrow (List.getElem?_eq_getElem hk1)
        cases hre
        rw [hb2] at hb3
        cases hb3
        refine ⟨xs[k - 1], ?_, (List.pairwise_iff_getElem.1 hasc) (k - 1) k hk1 hlt3 (by omega)⟩
        rw [show ((k : Int) - 1).toNat = k - 1 by omega]
        exact hx3
       generalize xs[k] = x at *
       replace hprev : SameP _ := hprev
       (refine @unH _ ?_; refine zA y148_110 ?_; (repeat (refine inC ?_; intro hc)); try (refine inK ?_; intro K hK))
       refine wpX_dst1 9 [(true, 0), (true, 1), (true, 2), (true, 3), (true, 4), (true, 5), (true, 6), (true, 7), (true, 8)] (by kernel_rfl) (by kernel_rfl) (by simp) (by kernel_rfl) ?_; intro K hK
       (iterate 7 (refine @unH _ ?_; refine z3 y148_110 ?_))
       (apply plan_take rfl rfl rfl; (focus ((refine @unH _ ?_; refine zX y148_110 ?_); exact quiet_of (rin_yes m H1 x 0 (pieces - 1) hxk.1 (by omega)))); simp -implicitDefEqProofs (disch := first | omega | (simp only [qd] <;> omega)) only [act_put, act_put_none])
       (refine @unH _ ?_; refine z3 y148_110 ?_)
       refine plan_nil (hK _ _ ?_)
       clear hK K
       (try simp only [nq, ↓reduceIte, Nat.reduceEqDiff])
       (refine @unH _ ?_; refine zA y148_110 ?_; (repeat (refine inC ?_; intro hc)); try (refine inK ?_; intro K hK))
       by_cases hk0 : k = 0
       ·subst hk0
        refine wpX_dst1 14 [(true, 0), (true, 1), (true, 2), (true, 3), (true, 4), (true, 5), (true, 6), (true, 7), (true, 8), (true, 9), (true, 10), (true, 11), (true, 12), (true, 13)] (by kernel_rfl) (by kernel_rfl) (by simp) (by kernel_rfl) ?_; intro K hK
        (iterate 3 (refine @unH _ ?_; refine z3 y148_110 ?_))
        (iterate 10 (apply plan_skip rfl (by simp -implicitDefEqProofs (disch := omega) only [wanted_some, yielded_list, ylK_bool, List.getElem?_cons_succ, List.getElem?_cons_zero, Option.bind_some, act_get?, upd_get, Nat.reduceEqDiff, ↓reduceIte, *]; rfl); simp -implicitDefEqProofs (disch := first | omega | (simp only [qd] <;> omega)) only [act_put, act_put_none]))
        (refine @unH _ ?_; refine z3 y148_110 ?_)
        refine plan_nil (hK _ _ ?_)
        clear hK K
        (try simp only [nq, ↓reduceIte, Nat.reduceEqDiff])
        (refine @unH _ ?_; refine zA y148_110 ?_; (repeat (refine inC ?_; intro hc)); try (refine inK ?_; intro K hK))
        exact ⟨_, by omega, _, 1, rfl, hlt3, rfl, e1, e4, e5, rfl, by trivial⟩
       ·obtain ⟨y, hy, hyx⟩ := (show 0 < k -> _ from hprev) (by omega)
        refine wpX_dst1 14 [(true, 0), (true, 1), (true, 2), (true, 3), (true, 4), (true, 5), (true, 6), (true, 7), (true, 8), (true, 9), (true, 10), (true, 11), (true, 12), (true, 13)] (by kernel_rfl) (by kernel_rfl) (by simp) (by kernel_rfl) ?_; intro K hK
        (iterate 3 (refine @unH _ ?_; refine z3 y148_110 ?_))
        (iterate 10 (refine @unH _ ?_; refine z6 y148_110 ?_))
        (refine @unH _ ?_; refine z3 y148_110 ?_)
        refine plan_nil (hK _ _ ?_)
        clear hK K
        (try simp only [nq, ↓reduceIte, Nat.reduceEqDiff])
        (refine @unH _ ?_; refine zA y148_110 ?_; (repeat (refine inC ?_; intro hc)); try (refine inK ?_; intro K hK))
        exact ⟨_, by omega, _, k + 1, rfl, hlt3, rfl, e1, e4, e5, rfl, by trivial⟩
      ·obtain rfl : k = xs.length := by omega
       (refine @unH _ ?_; refine zA y148_110 ?_; (repeat (refine inC ?_; intro hc)); try (refine inK ?_; intro K hK))
       exact ⟨_, by omega, _, i + 1, rfl, hlt2, rfl, e1, rfl, by trivial⟩
    ·obtain rfl : i = xss.length := by omega
     (refine @unH _ ?_; refine zA y148_110 ?_; (repeat (refine inC ?_; intro hc)); try (refine inK ?_; intro K hK))
     (refine @unH _ ?_; refine z9 Tryz.results148 ?_)
     exact ⟨by trivial, lH1⟩
end Go.Proofs.YtofmadjgbcopdaaGreatDoor
end
