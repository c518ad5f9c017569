/- Texts KeepH KeepX LMore PVaultMore SVaultMore. -/
import Derived.Test.YtgniilnljeedlaaGreatDoorJ23
import Derived.Test.YtgniilnljeedlaaGreatDoorAFactA
import Derived.Test.YtgniilnljeedlaaGreatDoorAFactVB
import Derived.Test.YtgniilnljeedlaaGreatDoorAFactVC
set_option linter.defProp false
set_option linter.unusedSimpArgs false
set_option linter.unusedVariables false
set_option maxRecDepth 100000
set_option maxHeartbeats 2000000
section
namespace Go.Proofs.YtgniilnljeedlaaGreatDoor
open Go Go.X
theorem set_keeps0 {H : Hp} {b : Nat} {p : Bool} {c0 : Array Value} {e0 : TypeId} {fr0 : Nat × Nat} {o : Obj} (hb : H b = some (p, .cells c0 e0 fr0)) (h1 : e0 ≠ 3) (h2 : e0 ≠ 22) : ∀ x p c fr e, (e = 3 ∨ e = 22) -> H x = some (p, .cells c e fr) -> (H.set b o) x = some (p, .cells c e fr) := fun x p c fr e he hx => by
 rw [Aqo (fun e' => ?_)]
 ·exact hx
 ·rw [e', hb] at hx
  simp only [Option.some.injEq, Prod.mk.injEq, Obj.cells.injEq] at hx
  rcases he with he | he <;> rw [he] at hx
  ·exact h1 hx.2.2.1
  ·exact h2 hx.2.2.1
def y25_124 := And.intro (fun H => Aq0 (H := H) (P := Tryz.prog) (h := Tryz.zeroValue25)) (And.intro (fun H => Aqg (H := H) Tryz.underlying25 (i := 0) rfl (off := 0) rfl Tryz.sizeOf3) (And.intro (fun H => Aqd (H := H) Tryz.underlying3 rfl) (And.intro (fun H => Aqg (H := H) Tryz.underlying25 (i := 1) rfl (off := 1) rfl Tryz.sizeOf3) (And.intro (fun H => Aqg (H := H) Tryz.underlying25 (i := 2) rfl (off := 2) rfl Tryz.sizeOf22) (And.intro (fun H => Aqd (H := H) Tryz.underlying22 rfl) (And.intro @Dq3 (And.intro (fun H => Aqg (H := H) Tryz.underlying25 (i := 3) rfl (off := 3) rfl Tryz.sizeOf23) (And.intro (fun H => Aqd (H := H) Tryz.underlying23 rfl) (And.intro @callF71 (And.intro @Awh (fun H => Aq3 (H := H) Tryz.sizeOf25)))))))))))
def y71_124 := And.intro (fun H => Aq4 (H := H) Tryz.underlying23) (And.intro (fun H => Aqq (H := H) Tryz.underlying23 Tryz.sizeOf22) (And.intro (fun H => Aqd (H := H) Tryz.underlying22 rfl) (And.intro @Dq3 @Bx6)))
theorem RowX.own_set {H H2 H3 : Hp} {v : Value} {e : TypeId} {cs : List Value} (h : RowX none H2 H3 v e cs) (hl : H.le H2) {ob : Nat} {u : Bool × Obj} (hob : H ob = none) (h2 : H2 ob = some u) {o : Obj} : RowX none H (H3.set ob o) v e cs := by
 refine ⟨(Lex.of (Hp.le_trans hl h.1.toLe) : Lex none H H3).own hob, h.2.imp id ?_⟩
 rintro ⟨b, c, cap, h0, h1, h2', h3, h4, h5⟩
 exact ⟨b, c, cap, Hp.le_none hl h0, (Aqo (fun e => by rw [e, h2] at h0; cases h0)).trans h1, h2', h3, h4, h5⟩
theorem keepRx_spec (m : Md) (H : Hp) (v : Value) (xss : List (List Int)) (hv : SlR H v xss) (hl : xss.length <= 1000) (hx : ∀ xs ∈ xss, xs.length <= 1000000) :
  FnX Tryz.prog m 71 #[v] H fun e H' => ∃ w vs, e = .returned w /\ RowX none H H' w 22 vs /\ Rows H' vs xss := by
 have hvS := hv
 obtain ⟨a, cap, rfl, hcap, _⟩ := hv
 replace hx : Aq1 _ := hx
 refine Aqk Tryz.func71 rfl Tryz.ntmps71 (by simp) ?_
 (refine @unH _ ?_; refine zA y71_124 ?_; (repeat (refine inC ?_; intro hc)); try (refine inK ?_; intro K hK))
 refine Axc (fun w a' H' => ∃ e j ov vs, w = xss.length - j /\ j <= xss.length /\ a' = act 20 e [] /\ e 0 = .slice a xss.length cap /\ e 3 = ov /\ e 4 = .int .i64 (j : Nat) /\ RowX none H H' ov 22 vs /\ Rows H' vs (xss.take j)) (n := xss.length) ?_ ?_
 ·exact ⟨_, 0, .slice none 0 0, [], by omega, by omega, rfl, rfl, rfl, rfl, RowX.nil, by simpa using Rows.nil⟩
 ·rintro w a' H2 ⟨e, j, ov, vs, rfl, hj, rfl, e0, e3, e4, hov, hvs⟩
  by_cases hlt : j < xss.length
  ·obtain ⟨b, o, p, c, fr, u, rfl, hb, hc, hu⟩ := SlR.get hvS (List.getElem?_eq_getElem hlt)
   have hb2 := hov.1.toLe _ _ hb
   have hu2 := hu.le hov.1.toLe
   have hlx := (show ∀ xs ∈ xss, xs.length <= 1000000 from hx) _ (List.getElem_mem hlt)
   have htk : xss.take (j + 1) = xss.take j ++ [xss[j]] := by rw [List.take_add_one, List.getElem?_eq_getElem hlt]; rfl
   have hvl : vs.length = j := by rw [hvs.1, List.length_take]; omega
   generalize xss[j] = xs at *
   generalize xss.take j = T0 at *
   replace htk : Aq1 _ := htk
   replace hvl : vs.length <= j /\ j <= vs.length := by omega
   (refine @unH _ ?_; refine zA y71_124 ?_; (repeat (refine inC ?_; intro hc)); try (refine inK ?_; intro K hK))
   refine (keepI_spec m H2 u xs hu2 hlx).runs.mono ?_
   rintro _ H3 ⟨z, rfl, hz⟩
   have hov3 := hov.le hz.1.toLe
   have hvs3 := hvs.mono fun v xs h => h.le hz.1.toLe
   have hz3 := hz.ints
   obtain ⟨za, zc, rfl⟩ := hz.len
   clear hov hvs hu hu2 hz
   ((try (refine @unH _ ?_; refine zX y71_124 ?_)); (try (refine hK _ _ ?_; clear hK K; (try simp only [nq, ↓reduceIte, Nat.reduceEqDiff]))); refine @unH _ ?_; refine zA y71_124 ?_; (repeat (refine inC ?_; intro hc)); try (refine inK ?_; intro K hK))
   intro g hg
   refine Cwa hov3 rfl hg (by omega) _ _ _ _ ?_
   intro v' H5 hr5 ho5
   ((try (refine @unH _ ?_; refine zX y71_124 ?_)); (try (refine hK _ _ ?_; clear hK K; (try simp only [nq, ↓reduceIte, Nat.reduceEqDiff]))); refine @unH _ ?_; refine zA y71_124 ?_; (repeat (refine inC ?_; intro hc)); try (refine inK ?_; intro K hK))
   refine ⟨_, by omega, _, j + 1, v', _, rfl, hlt, rfl, e0, rfl, rfl, hr5, ?_⟩
   rw [show List.take (j + 1) xss = _ from htk]
   exact (hvs3.mono fun v xs h => h.move fun x q c fr hx => ho5.cells hx (by decide)).snoc (hz3.move fun x q c fr hx => ho5.cells hx (by decide))
  ·obtain rfl : j = xss.length := by omega
   rw [List.take_length] at hvs
   have hovS := hov
   obtain ⟨oa, oc, rfl⟩ := hov.len
   (refine @unH _ ?_; refine zA y71_124 ?_; (repeat (refine inC ?_; intro hc)); try (refine inK ?_; intro K hK))
   (refine @unH _ ?_; refine z9 Tryz.results71 ?_)
   exact ⟨_, _, rfl, hovS, hvs⟩
theorem keepVx_spec (m : Md) (H : Hp) (places pieces : Int) (sv cv : Value) (start : List Int) (xss : List (List Int)) (hs : SlI H sv start) (hc : SlR H cv xss) (hl : xss.length <= 1000) (hsl : start.length <= 1000000) (hx : ∀ xs ∈ xss, xs.length <= 1000000) :
  FnX Tryz.prog m 25 #[.agg #[.int .i64 places, .int .i64 pieces, sv, cv]] H fun e H' => ∃ sw cw vs, e = .returned (.agg #[.int .i64 places, .int .i64 pieces, sw, cw]) /\ SlI H' sw start /\ RowX none H H' cw 22 vs /\ Rows H' vs xss := by
 have hsS := hs
 have hcS := hc
 obtain ⟨sa, sc, rfl, _, _⟩ := hs
 obtain ⟨ca, cc, rfl, _, _⟩ := hc
 replace hx : Aq1 _ := hx
 refine Aqk Tryz.func25 rfl Tryz.ntmps25 (by simp) ?_
 (refine @unH _ ?_; refine zA y25_124 ?_; (repeat (refine inC ?_; intro hc)); try (refine inK ?_; intro K hK))
 intro bb hbb ob hob
 replace hob : (Hp.set H bb _) ob = none := hob
 have vbb : ((H.set bb (.cells #[.int .i64 places, .int .i64 pieces, .slice sa start.length sc, .slice ca xss.length cc] 25 (0, 0))).set ob (.cells #[.int .i64 0, .int .i64 0, .slice none 0 0, .slice none 0 0] 25 (0, 0))) bb = some (true, .cells #[.int .i64 places, .int .i64 pieces, .slice sa start.length sc, .slice ca xss.length cc] 25 (0, 0)) := (Aqo (fun e => by rw [e, Aqu] at hob; cases hob)).trans Aqu
 have vob : ((H.set bb (.cells #[.int .i64 places, .int .i64 pieces, .slice sa start.length sc, .slice ca xss.length cc] 25 (0, 0))).set ob (.cells #[.int .i64 0, .int .i64 0, .slice none 0 0, .slice none 0 0] 25 (0, 0))) ob = some (true, .cells #[.int .i64 0, .int .i64 0, .slice none 0 0, .slice none 0 0] 25 (0, 0)) := Aqu
 have l1 : H.le ((H.set bb (.cells #[.int .i64 places, .int .i64 pieces, .slice sa start.length sc, .slice ca xss.length cc] 25 (0, 0))).set ob (.cells #[.int .i64 0, .int .i64 0, .slice none 0 0, .slice none 0 0] 25 (0, 0))) := Hp.le_trans (Hp.le_set hbb) (Hp.le_set hob)
 have hobH : H ob = none := Hp.le_none (Hp.le_set hbb) hob
 have hne : bb ≠ ob := fun e => by rw [e, Aqu] at hob; cases hob
 generalize ((H.set bb _).set ob _) = H1 at *
 clear hbb hob
 have hs1 := hsS.le l1
 have hc1 := hcS.le l1
 refine hK _ _ ?_
 clear hK K
 (try simp only [nq, ↓reduceIte, Nat.reduceEqDiff])
 refine Bjx (fun HX => HX bb = some (true, .cells #[.int .i64 places, .int .i64 pieces, .slice sa start.length sc, .slice ca xss.length cc] 25 (0, 0))) 11 [(true, 0), (true, 1), (true, 2), (true, 3), (true, 4), (true, 5), (true, 7), (true, 8), (false, 6), (false, 9), (true, 10), (false, 11)] (by kernel_rfl) (by kernel_rfl) (by decide) (by kernel_rfl) ?_; intro K hK
 (iterate 8 (refine @unH _ ?_; refine z5 y25_124 ?_))
 refine Ajj ?_
 (refine @unH _ ?_; refine zX y25_124 ?_)
 refine (keepI_spec m H1 _ start hs1 hsl).runs.mono ?_
 rintro _ H2 ⟨sw, rfl, hsw⟩
 have l2 := hsw.1.toLe
 have vbb2 := l2 _ _ vbb
 have vob2 := l2 _ _ vob
 have hc2 := hc1.le l2
 have hsw2 := hsw.ints
 have l12 := Hp.le_trans l1 l2
 obtain ⟨wa, wc, rfl⟩ := hsw.len
 clear hsw hc1 hs1 vbb vob l1 l2
 (refine @unH _ ?_; refine zX (And.intro y25_124 @Ck8) ?_)
 refine ⟨.inr trivial, ?_⟩
 refine Ajj ?_
 (refine @unH _ ?_; refine zX y25_124 ?_)
 refine (keepRx_spec m H2 _ xss hc2 hl hx).runs.mono ?_
 rintro _ H3 ⟨cw, vs, rfl, hrow, hrows⟩
 have l3 := hrow.1.toLe
 have vbb3 := l3 _ _ vbb2
 have vob3 := l3 _ _ vob2
 have hsw3 := hsw2.le l3
 have l13 := Hp.le_trans l12 l3
 have hr4 := hrow.own_set l12 hobH vob2 (o := .cells #[.int .i64 places, .int .i64 pieces, .slice wa (ints start).length wc, cw] 25 (0, 0))
 obtain ⟨ya, yc, rfl⟩ := hrow.len
 generalize hyn : vs.length = yn at *
 clear hsw2 hc2 vbb2 vob2 l12 l3 hrow
 (refine @unH _ ?_; refine zX (And.intro y25_124 @Ck8) ?_)
 refine ⟨.inr trivial, ?_⟩
 (refine @unH _ ?_; refine z5 y25_124 ?_)
 refine Ajj ?_
 (refine @unH _ ?_; refine zX y25_124 ?_)
 refine ⟨.inr trivial, Axz (hK _ _ ?_)⟩
 clear hK K
 (try simp only [nq, ↓reduceIte, Nat.reduceEqDiff])
 have hsw4 := hsw3.set (fun p c fr h => by rw [vob3] at h; cases h) (b := ob) (o := .cells #[.int .i64 places, .int .i64 pieces, .slice wa (ints start).length wc, .slice ya yn yc] 25 (0, 0))
 have hcw4 := hrows.mono fun v xs h => h.move fun x p c fr hx => set_keeps0 vob3 (by decide) (by decide) (o := .cells #[.int .i64 places, .int .i64 pieces, .slice wa (ints start).length wc, .slice ya yn yc] 25 (0, 0)) x p c fr _ (.inl rfl) hx
 (refine Ax8 ?_; (try simp only [nq, ↓reduceIte, Nat.reduceEqDiff]); rw [Axs, Az6 Tryz.results25 (by decide) (b := ob) (o := 0) rfl Tryz.underlying25 rfl Tryz.sizeOf25]; simp -implicitDefEqProofs (disch := first | omega | (simp only [qd] <;> omega)) only [xq, ↓xp, qc, Nat.reduceAdd, List.range, List.range.loop, fine, Nat.reduceEqDiff, ↓reduceIte, yielded, reduceCtorEq, Nat.reduceLT, Nat.reduceMul, Nat.reduceSub, one, Nat.reduceLeDiff, Aqa, y25_124, Ajh])
 exact ⟨_, _, vs, rfl, hsw4, hr4, hcw4⟩
def y11_128 := And.intro @callF23 (And.intro @callF46 (And.intro (fun H => Aq0 (H := H) (P := Tryz.prog) (h := Tryz.zeroValue25)) (And.intro (fun H => Aq3 (H := H) Tryz.sizeOf25) (And.intro (fun H => Aqg (H := H) Tryz.underlying25 (i := 1) rfl (off := 1) rfl Tryz.sizeOf3) (And.intro (fun H => Aqd (H := H) Tryz.underlying3 rfl) (And.intro @Bxo (And.intro (fun H => Aqw (H := H) Tryz.underlying25 rfl Tryz.sizeOf25) (And.intro @callF25 (And.intro @Dq3 (And.intro @Axp (And.intro (fun H => Aqg (H := H) Tryz.underlying25 (i := 3) rfl (off := 3) rfl Tryz.sizeOf23) (And.intro (fun H => Aqd (H := H) Tryz.underlying23 rfl) (And.intro @Bx6 (And.intro (fun H => Ajw (H := H) Tryz.sizeOf23) (And.intro @Dq7 (And.intro @Dq4 (And.intro (fun H => Aq4 (H := H) Tryz.underlying22) (And.intro (fun H => Cxu (H := H) Tryz.underlying22 Tryz.sizeOf3) (And.intro (fun H => Cxv (H := H) Tryz.underlying22 Tryz.sizeOf3) (And.intro (fun H => Bkn (H := H) Tryz.underlying22 Tryz.sizeOf3) (And.intro @Dq5 @callF22)))))))))))))))))))))
theorem more_ok {pl pc : Int} {start : List Int} {xss : List (List Int)} (h : Aje pl pc start xss) {p : Int} (h0 : 0 <= p) (h1 : p < pc) : Aje pl pc start (xss ++ [[p]]) := by
 obtain ⟨a1, a2, a3, a4, a5, a6, a7, a8⟩ := h
 refine ⟨a1, a2, a3, a4, a5, a6, a7, fun xs hx => ?_⟩
 rcases List.mem_append.1 hx with hx | hx
 ·exact a8 xs hx
 ·rw [List.mem_singleton.1 hx]
  exact ⟨by simp, List.pairwise_singleton _ _, fun x hx => by rw [List.mem_singleton.1 hx]; omega⟩
theorem more_true {xss : List (List Int)} {ts : List Int} (h : Ajd xss ts) {p : Int} : Ajd (xss ++ [[p]]) (ts ++ [p]) := by
 refine ⟨by simp [h.1], fun i t xs ht hx => ?_⟩
 by_cases hi : i < ts.length
 ·rw [List.getElem?_append_left hi] at ht
  rw [List.getElem?_append_left (by rw [<- h.1]; exact hi)] at hx
  exact h.2 i t xs ht hx
 ·rw [List.getElem?_append_right (by omega)] at ht
  rw [List.getElem?_append_right (by rw [<- h.1]; omega), <- h.1] at hx
  generalize i - ts.length = k at *
  cases k with
  | zero => simp only [List.getElem?_cons_zero, Option.some.injEq] at ht hx; rw [<- ht, <- hx]; exact List.mem_singleton.2 rfl
  | succ k => simp at ht
theorem more_run {pl r : Int} (hr : r ≠ 3) (ts : List Int) (p : Int) (s : RS) : (rrun pl r ts s ts.length).f <= (rrun pl r (ts ++ [p]) s (ts.length + 1)).f /\ (rrun pl r (ts ++ [p]) s (ts.length + 1)).f <= (rrun pl r ts s ts.length).f + 1 /\ ((rrun pl r (ts ++ [p]) s (ts.length + 1)).cl.take (ts.length + 1)).take ts.length = (rrun pl r ts s ts.length).cl.take ts.length := by
 have e := Cvm (pl := pl) hr (ts := ts) (p := p) (s := s) ts.length (Nat.le_refl _)
 have e2 : rrun pl r (ts ++ [p]) s (ts.length + 1) = rstep pl r (ts ++ [p]) ts.length ((ts ++ [p]).getD ts.length 0) (rrun pl r (ts ++ [p]) s ts.length) := rfl
 rw [e] at e2
 rw [e2]
 refine ⟨Nat.le_add_right _ _, ?_, ?_⟩
 ·show _ + _ <= _
  split <;> omega
 ·rw [List.take_take, Nat.min_eq_left (by omega)]
  exact List.take_set_of_le (Nat.le_refl _)
theorem lmore_spec (H : Hp) (sa : Option Addr) (sl sc : Nat) (hs : ∀ i : Nat, i < sl -> ∃ sb so c e fr x, sa = some ⟨sb, so, none⟩ /\ H sb = some (false, .cells c e fr) /\ c[so + i]? = some (.int .i64 x)) :
  FnX Tryz.prog (.wg Tryz.prog) 11 #[.slice sa sl sc] H fun e _ => e = .returned (.bool true) := by
 refine Aqk Tryz.func11 rfl Tryz.ntmps11 (by simp) ?_
 repeat' (first
 | (refine Axl rfl ?_; intro K hK; simp -implicitDefEqProofs (disch := first | omega | (simp only [qd] <;> omega)) only [xq, ↓xp, qc, Nat.reduceAdd, List.range, List.range.loop, fine, Nat.reduceEqDiff, ↓reduceIte, yielded, reduceCtorEq, Nat.reduceLT, Nat.reduceMul, Nat.reduceSub, one, Nat.reduceLeDiff, Aqa, y11_128, aq, ↓ap, qe0, qe1, qe2, *, -hK]; try (refine hK _ _ ?_; clear hK K))
 | (refine Axv rfl ?_; intro K hK; simp -implicitDefEqProofs (disch := first | omega | (simp only [qd] <;> omega)) only [xq, ↓xp, qc, Nat.reduceAdd, List.range, List.range.loop, fine, Nat.reduceEqDiff, ↓reduceIte, yielded, reduceCtorEq, Nat.reduceLT, Nat.reduceMul, Nat.reduceSub, one, Nat.reduceLeDiff, Aqa, y11_128, aq, ↓ap, qe0, qe1, qe2, *, -hK]; try (refine hK _ _ ?_; clear hK K; (try simp only [nq, ↓reduceIte, Nat.reduceEqDiff])))
 | (refine Aqt ?_; (try simp only [nq, ↓reduceIte, Nat.reduceEqDiff]))
 | (refine Axu ?_; (try simp only [nq, ↓reduceIte, Nat.reduceEqDiff]))
 | (refine Aq7 ?_; (try simp only [nq, ↓reduceIte, Nat.reduceEqDiff]))
 | (refine Azf ?_; (try simp only [nq, ↓reduceIte, Nat.reduceEqDiff]))
 | (refine Ax1 (by simp only [Aqm, Aqr, Nat.reduceEqDiff, Nat.reduceLT, ↓reduceIte, *]; rfl) ?_ ?_ <;> (intro hc; first | (exfalso; simp -implicitDefEqProofs (disch := omega) only [*, bq, reduceCtorEq] at hc; done) | (simp only [dq, qe3, qe4, qe5, qe6] at hc) | skip))
 | (refine Axn ?_)
 | (refine Aqp ?_)
 | (refine Aql ?_))
 refine (newTin_spec _ H sa sl sc hs 240 (by omega)).runs.mono ?_
 rintro _ H1 ⟨tb, rfl, l1, hT⟩
 (try simp -implicitDefEqProofs (disch := first | omega | (simp only [qd] <;> omega)) only [xq, ↓xp, qc, Nat.reduceAdd, List.range, List.range.loop, fine, Nat.reduceEqDiff, ↓reduceIte, yielded, reduceCtorEq, Nat.reduceLT, Nat.reduceMul, Nat.reduceSub, one, Nat.reduceLeDiff, Aqa, y11_128, aq, ↓ap, qe0, qe1, qe2, *, -hK]); try (refine hK _ _ ?_; clear hK K; (try simp only [nq, ↓reduceIte, Nat.reduceEqDiff])); repeat' (first
 | (refine Axl rfl ?_; intro K hK; simp -implicitDefEqProofs (disch := first | omega | (simp only [qd] <;> omega)) only [xq, ↓xp, qc, Nat.reduceAdd, List.range, List.range.loop, fine, Nat.reduceEqDiff, ↓reduceIte, yielded, reduceCtorEq, Nat.reduceLT, Nat.reduceMul, Nat.reduceSub, one, Nat.reduceLeDiff, Aqa, y11_128, aq, ↓ap, qe0, qe1, qe2, *, -hK]; try (refine hK _ _ ?_; clear hK K))
 | (refine Axv rfl ?_; intro K hK; simp -implicitDefEqProofs (disch := first | omega | (simp only [qd] <;> omega)) only [xq, ↓xp, qc, Nat.reduceAdd, List.range, List.range.loop, fine, Nat.reduceEqDiff, ↓reduceIte, yielded, reduceCtorEq, Nat.reduceLT, Nat.reduceMul, Nat.reduceSub, one, Nat.reduceLeDiff, Aqa, y11_128, aq, ↓ap, qe0, qe1, qe2, *, -hK]; try (refine hK _ _ ?_; clear hK K; (try simp only [nq, ↓reduceIte, Nat.reduceEqDiff])))
 | (refine Aqt ?_; (try simp only [nq, ↓reduceIte, Nat.reduceEqDiff]))
 | (refine Axu ?_; (try simp only [nq, ↓reduceIte, Nat.reduceEqDiff]))
 | (refine Aq7 ?_; (try simp only [nq, ↓reduceIte, Nat.reduceEqDiff]))
 | (refine Azf ?_; (try simp only [nq, ↓reduceIte, Nat.reduceEqDiff]))
 | (refine Ax1 (by simp only [Aqm, Aqr, Nat.reduceEqDiff, Nat.reduceLT, ↓reduceIte, *]; rfl) ?_ ?_ <;> (intro hc; first | (exfalso; simp -implicitDefEqProofs (disch := omega) only [*, bq, reduceCtorEq] at hc; done) | (simp only [dq, qe3, qe4, qe5, qe6] at hc) | skip))
 | (refine Axn ?_)
 | (refine Aqp ?_)
 | (refine Aql ?_))
 refine (vaultOf_spec _ H1 tb 175 5 2 (by omega) (by omega) (by omega) hT).runs.mono ?_
 rintro _ H2 ⟨places, pieces, sv, start, cv, xss, tv, ts, rfl, hst, hcs, htr, hok, hfew, htok, lex2, hT2⟩
 have hd2 : Aks H2 places pieces sv cv tv start xss ts := ⟨hst, hcs, htr, hok, by omega, htok⟩
 clear hT hs l1 hst hcs htr lex2
 obtain ⟨va, vc, rfl, hvc, _⟩ := id hd2.st
 obtain ⟨ca, cc, rfl, hcc, _⟩ := id hd2.calls
 obtain ⟨ta, tc, rfl, htc, _⟩ := id hd2.truth
 have htl : ts.length <= 5 := by have := htok.1; omega
 have htb := htok.bnd hok
 have hok2 := hok
 obtain ⟨p1, p4, q1, q6, hsp, hsd, hsb, hxs⟩ := hok2
 have hs6 : ∀ t ∈ start, 0 <= t /\ t < 6 := fun t ht => by have := hsb t ht; omega
 ((try (refine @unH _ ?_; refine zX y11_128 ?_)); (try (refine hK _ _ ?_; clear hK K; (try simp only [nq, ↓reduceIte, Nat.reduceEqDiff]))); refine @unH _ ?_; refine zA y11_128 ?_; (repeat (refine inC ?_; intro hc)); try (refine inK ?_; intro K hK))
 (intro vb hvb; generalize hG : Hp.set _ vb _ = H3; have lH3 := Aqh hG hvb; have vvb := Aqf hG; clear hG)
 have hd3 := hd2.le lH3
 have hT3 := hT2.le lH3
 clear hd2 lH3 hvb hT2
 ((try (refine @unH _ ?_; refine zX y11_128 ?_)); (try (refine hK _ _ ?_; clear hK K; (try simp only [nq, ↓reduceIte, Nat.reduceEqDiff]))); refine @unH _ ?_; refine zA y11_128 ?_; (repeat (refine inC ?_; intro hc)); try (refine inK ?_; intro K hK))
 refine (Aw9 _ H3 tb 174 (pieces - 1) (by omega) hT3).runs.mono ?_
 rintro _ H4 ⟨p, hp0, hp1, rfl, o, hHe, hT4⟩
 have hd4 := hd3.tin hT3 (o := o)
 have vvb4 : (H3.set tb o) vb = _ := (Aqo (fun e => by obtain ⟨_, _, _, _, _, h1, _⟩ := hT3; rw [e, h1] at vvb; cases vvb)).trans vvb
 rw [<- hHe] at hd4 vvb4
 clear hd3 hT3 hT4 vvb hHe o
 ((try (refine @unH _ ?_; refine zX y11_128 ?_)); (try (refine hK _ _ ?_; clear hK K; (try simp only [nq, ↓reduceIte, Nat.reduceEqDiff]))); refine @unH _ ?_; refine zA y11_128 ?_; (repeat (refine inC ?_; intro hc)); try (refine inK ?_; intro K hK))
 refine (keepVx_spec _ H4 places pieces _ _ start xss hd4.st hd4.calls (by omega) (by omega) (fun xs h => by have := (hxs xs h).len; omega)).runs.mono ?_
 rintro _ H5 ⟨sw, cw, vs, rfl, hsw, hcw, hrows⟩
 have l45 := hcw.1.toLe
 have hd5 := hd4.le l45
 have vvb5 := l45 _ _ vvb4
 obtain ⟨wa, wc, rfl, hwc, _⟩ := id hsw
 obtain ⟨ya, yc, rfl⟩ := hcw.len
 clear l45
 ((try (refine @unH _ ?_; refine zX y11_128 ?_)); (try (refine hK _ _ ?_; clear hK K; (try simp only [nq, ↓reduceIte, Nat.reduceEqDiff]))); refine @unH _ ?_; refine zA y11_128 ?_; (repeat (refine inC ?_; intro hc)); try (refine inK ?_; intro K hK))
 refine (keepI_spec _ H5 _ ts hd5.truth (by omega)).runs.mono ?_
 rintro _ H6 ⟨kw, rfl, hkw⟩
 have l56 := hkw.1.toLe
 obtain ⟨ka, kc, rfl⟩ := hkw.len
 rw [Axi] at hkw
 clear l56
 ((try (refine @unH _ ?_; refine zX y11_128 ?_)); (try (refine hK _ _ ?_; clear hK K; (try simp only [nq, ↓reduceIte, Nat.reduceEqDiff]))); refine @unH _ ?_; refine zA y11_128 ?_; (repeat (refine inC ?_; intro hc)); try (refine inK ?_; intro K hK))
 rw [Axi]
 intro nb hnb
 generalize hG : Hp.set H6 nb _ = H7
 have lH7 := Aqh hG hnb
 have vnb := Aqf hG
 clear hG
 have hw : SlI H7 (.slice (some ⟨nb, 0, none⟩) 1 1) [p] := Ajp (xs := [p]) vnb rfl
 have hsep : rowB (.slice ka ts.length kc) ≠ some nb := hkw.rowB_ne fun c fr h => by rw [hnb] at h; cases h
 refine Czb (hkw.le lH7) hw (fun _ b hb => by simp only [rowB, Option.some.injEq] at hb; subst hb; exact hsep) (by simp only [List.length_cons, List.length_nil]; omega) _ _ _ _ (fun v6 H8 hlw hkeep => ?_)
 clear hw hsep hkeep lH7 vnb hnb hkw
 have l58 := hlw.1.toLe
 have hd8 := hd5.le l58
 have vvb8 := l58 _ _ vvb5
 have hsw8 := hsw.le l58
 have hcw8 := hcw.le l58
 have hrows8 := hrows.mono fun v xs h => h.le l58
 have hlI := hlw.ints
 obtain ⟨la, lc, rfl⟩ := hlw.len
 rw [Axi, List.length_append] at hlI
 rw [Axi, List.length_append]
 clear hd5 vvb5 hsw hcw hrows l58 hlw
 ((try (refine @unH _ ?_; refine zX y11_128 ?_)); (try (refine hK _ _ ?_; clear hK K; (try simp only [nq, ↓reduceIte, Nat.reduceEqDiff]))); refine @unH _ ?_; refine zA y11_128 ?_; (repeat (refine inC ?_; intro hc)); try (refine inK ?_; intro K hK))
 simp only [List.length_cons, List.length_nil, Nat.zero_add] at hlI
 (intro xb hxb; generalize hG : Hp.set _ xb _ = H9; have lH9 := Aqh hG hxb; have vxb := Aqf hG; clear hG)
 have hsw9 := hsw8.le lH9
 have hcw9 := hcw8.le lH9
 have hrows9 := hrows8.mono fun v xs h => h.le lH9
 have hlI9 := hlI.le lH9
 have hne : vb ≠ xb := fun e => by rw [<- e, vvb8] at hxb; cases hxb
 clear hd8 vvb8 hsw8 hcw8 hrows8 hlI lH9 hxb
 ((try (refine @unH _ ?_; refine zX y11_128 ?_)); (try (refine hK _ _ ?_; clear hK K; (try simp only [nq, ↓reduceIte, Nat.reduceEqDiff]))); refine @unH _ ?_; refine zA y11_128 ?_; (repeat (refine inC ?_; intro hc)); try (refine inK ?_; intro K hK))
 intro nb hnb mb hmb
 replace hmb : (Hp.set H9 nb _) mb = none := hmb
 generalize hG : Hp.set H9 nb _ = HA at *
 have lHA := Aqh hG hnb
 have vnb := Aqf hG
 clear hG
 have hvl := hrows9.1
 refine Cwa (hcw9.le lHA) rfl hmb (by omega) _ _ _ _ (fun v7 HB hrB hoB => ?_)
 have hki : ∀ x p c fr, HA x = some (p, .cells c 3 fr) -> HB x = some (p, .cells c 3 fr) := fun x p c fr hx => hoB.cells hx (by decide)
 have lAB := hrB.1.toLe
 have hdB := hd4.le lAB
 have vvbB := lAB _ _ vvb4
 have hswB := (hsw9.le lHA).move hki
 have hlIB := (hlI9.le lHA).move hki
 have vxbB := hoB.cells (lHA _ _ vxb) (by decide)
 have hrowB := (hrows9.mono fun v xs h => (h.le lHA).move hki).snoc ((Ajp (xs := [p]) vnb rfl).move hki)
 have hcB := hrB.rows hrowB
 obtain ⟨za, zc, rfl⟩ := hrB.len
 clear hd4 vvb4 hsw9 hcw9 hrows9 hlI9 vxb lHA vnb hnb hmb hrB hoB hki lAB hrowB
 rw [List.length_append, hvl] at *
 ((try (refine @unH _ ?_; refine zX y11_128 ?_)); (try (refine hK _ _ ?_; clear hK K; (try simp only [nq, ↓reduceIte, Nat.reduceEqDiff]))); refine @unH _ ?_; refine zA y11_128 ?_; (repeat (refine inC ?_; intro hc)); try (refine inK ?_; intro K hK))
 simp only [List.length_cons, List.length_nil, Nat.zero_add] at hcB
 generalize hG : Hp.set HB xb _ = HC
 have hkk : ∀ x p c fr e, (e = 3 ∨ e = 22) -> HB x = some (p, .cells c e fr) -> HC x = some (p, .cells c e fr) := by
  rw [<- hG]
  exact set_keeps0 vxbB (by decide) (by decide)
 have hdC := hdB.move hkk
 have hsC := hswB.move fun x p c fr hx => hkk x p c fr _ (.inl rfl) hx
 have hlC := hlIB.move fun x p c fr hx => hkk x p c fr _ (.inl rfl) hx
 have hcC := hcB.move hkk
 have vvbC := (congrFun hG vb).symm.trans ((Aqo hne).trans vvbB)
 have vxbC := Aqf hG
 have hdx : Aks HC places pieces _ _ _ start (xss ++ [[p]]) (ts ++ [p]) := ⟨hsC, hcC, hlC, more_ok hok hp0 (by omega), by simp only [List.length_append, List.length_cons, List.length_nil]; omega, more_true htok⟩
 clear hG hkk hdB hswB hlIB hcB vvbB vxbB hvl hsC hlC hcC hne hok htok
 refine (Cjw _ HC places pieces _ _ _ start xss ts hdC).runs.mono ?_
 rintro _ HD ⟨bv, rfl, hbl, l1⟩
 have hdD := hdC.le l1
 have hxD := hdx.le l1
 have vvbD := l1 _ _ vvbC
 have vxbD := l1 _ _ vxbC
 clear hdC hdx vvbC vxbC l1 hbl
 ((try (refine @unH _ ?_; refine zX y11_128 ?_)); (try (refine hK _ _ ?_; clear hK K; (try simp only [nq, ↓reduceIte, Nat.reduceEqDiff]))); refine @unH _ ?_; refine zA y11_128 ?_; (repeat (refine inC ?_; intro hc)); try (refine inK ?_; intro K hK))
 refine (Cjw _ HD places pieces _ _ _ start _ _ hxD).runs.mono ?_
 rintro _ HE ⟨bw, rfl, hbl, l1⟩
 have hdE := hdD.le l1
 have hxE := hxD.le l1
 have vvbE := l1 _ _ vvbD
 have vxbE := l1 _ _ vxbD
 have hb1 := Cqj (ts.length + 1) p1 p ts (oOf start) (Nat.le_refl _)
 have hb2 := Cqi (ts.length + 1) p1 p ts (oOf start) (Nat.le_refl _)
 have hb3 := Bzr ts.length places p1 ts (oOf start) (Nat.le_refl _)
 rw [optF_same (L' := ts.length) p1 ts (oOf start) (Nat.le_succ _) (Nat.le_refl _)] at hb1 hb2
 rw [show (ts ++ [p]).length = ts.length + 1 by simp]
 generalize optF ts.length places ts (oOf start) = N at *
 generalize optF (ts.length + 1) places (ts ++ [p]) (oOf start) = M at *
 clear hdD hxD vvbD vxbD l1 hbl
 ((try (refine @unH _ ?_; refine zX y11_128 ?_)); (try (refine hK _ _ ?_; clear hK K; (try simp only [nq, ↓reduceIte, Nat.reduceEqDiff]))); refine @unH _ ?_; refine zA y11_128 ?_; (repeat (refine inC ?_; intro hc)); try (refine inK ?_; intro K hK))
 refine Axc (fun w a' H' => ∃ e, ∃ r : Nat, w = 3 - r /\ r <= 3 /\ a' = act 140 e [] /\ e 4 = .pointer (some ⟨vb, 0, none⟩) /\ e 5 = .slice ta ts.length tc /\ e 7 = .pointer (some ⟨xb, 0, none⟩) /\ e 8 = .slice la (ts.length + 1) lc /\ e 15 = .int .i64 (r : Nat) /\ HE.le H') (n := 3) ?_ ?_
 ·exact ⟨_, 0, by omega, by omega, rfl, rfl, rfl, rfl, rfl, rfl, Hp.le_refl _⟩
 ·rintro w a' HF ⟨e, r, rfl, hr, rfl, e4, e5, e7, e8, e15, lEF⟩
  have hdF := hdE.le lEF
  have hxF := hxE.le lEF
  have vvbF := lEF _ _ vvbE
  have vxbF := lEF _ _ vxbE
  have htbx : ∀ t ∈ ts ++ [p], 0 <= t /\ t < 6 := fun t ht => by
   rcases List.mem_append.1 ht with ht | ht
   ·exact htb t ht
   ·rw [List.mem_singleton.1 ht]; omega
  have hcl1 := cl_len (pl := places) (r := r) hs6 htb (by omega)
  have hcl2 := cl_len (pl := places) (r := r) (ts := ts ++ [p]) hs6 htbx (by rw [List.length_append]; simp only [List.length_cons, List.length_nil]; omega)
  rw [show (ts ++ [p]).length = ts.length + 1 by simp] at hcl2
  have hmr := fun h : (r : Int) ≠ 3 => more_run (pl := places) h ts p (rs0 start)
  have hf1 := (Bjn places r ts start hs6 htb (by omega) ts.length (Nat.le_refl _)).f
  replace htbx : Aq1 _ := htbx
  replace hmr : Aq1 _ := hmr
  by_cases hr3 : r <= 2
  ·(refine @unH _ ?_; refine zA y11_128 ?_; (repeat (refine inC ?_; intro hc)); try (refine inK ?_; intro K hK))
   refine (Cvv _ HF places pieces _ _ _ start xss ts hdF r (by omega) (by omega)).runs.mono ?_
   rintro _ HG ⟨lv, rfl, l1, hlv⟩
   have hxG := hxF.le l1
   have vvbG := l1 _ _ vvbF
   have vxbG := l1 _ _ vxbF
   have lEG := Hp.le_trans lEF l1
   clear hdF hxF vvbF vxbF l1 lEF
   ((try (refine @unH _ ?_; refine zX y11_128 ?_)); (try (refine hK _ _ ?_; clear hK K; (try simp only [nq, ↓reduceIte, Nat.reduceEqDiff]))); refine @unH _ ?_; refine zA y11_128 ?_; (repeat (refine inC ?_; intro hc)); try (refine inK ?_; intro K hK))
   refine (Cvv _ HG places pieces _ _ _ start _ _ hxG r (by omega) (by omega)).runs.mono ?_
   rintro _ HJ ⟨kv, rfl, l1, hkv⟩
   have vvbJ := l1 _ _ vvbG
   have vxbJ := l1 _ _ vxbG
   have lEJ := Hp.le_trans lEG l1
   have hlv := hlv.le l1
   rw [show (ts ++ [p]).length = ts.length + 1 by simp] at hkv ⊢
   obtain ⟨m1, m2, m3⟩ := (show (r : Int) ≠ 3 -> _ from hmr) (by omega)
   generalize (rrun places r (ts ++ [p]) (rs0 start) (ts.length + 1)).cl.take (ts.length + 1) = KB at *
   generalize (rrun places r (ts ++ [p]) (rs0 start) (ts.length + 1)).f = FB at *
   generalize (rrun places r ts (rs0 start) ts.length).cl.take ts.length = KA at *
   generalize (rrun places r ts (rs0 start) ts.length).f = FA at *
   obtain ⟨xa, xc, rfl, hxc, _⟩ := id hlv
   obtain ⟨wb, wd, rfl, hwd, _⟩ := id hkv
   rw [hcl1] at hlv hxc ⊢
   rw [hcl2] at hkv hwd ⊢
   obtain ⟨wq, wo, rfl⟩ : ∃ q o, wb = some ⟨q, o, none⟩ := by
    obtain ⟨q, o, _, _, _, h, _, _⟩ := hkv.get (i := 0) (x := KB[0]) (List.getElem?_eq_getElem (by omega))
    exact ⟨q, o, h⟩
   have hlike := Av9 (.wg Tryz.prog) HJ _ _ _ _ (hkv.hi (k := ts.length) (by omega)) hlv (by rw [List.length_take]; omega) (by omega)
   rw [m3, decide_eq_true rfl] at hlike
   replace hlike : Aq1 _ := hlike
   clear m3 hlv hkv hcl1 hcl2 hmr htbx hxG vvbG vxbG l1 lEG
   (refine @unH _ ?_; refine zX y11_128 ?_)
   refine hK _ _ ?_; clear hK K
   (try simp only [nq, ↓reduceIte, Nat.reduceEqDiff])
   refine Av0 (fun e => e 4 = .pointer (some ⟨vb, 0, none⟩) /\ e 5 = .slice ta ts.length tc /\ e 7 = .pointer (some ⟨xb, 0, none⟩) /\ e 8 = .slice la (ts.length + 1) lc /\ e 15 = .int .i64 (r : Nat) /\ e 16 = .slice xa ts.length xc /\ e 17 = .int .i64 FA /\ e 18 = .int .i64 0 /\ e 19 = .slice (some ⟨wq, wo, none⟩) (ts.length + 1) wd /\ e 20 = .int .i64 FB /\ e 21 = .int .i64 0) ⟨e4, e5, e7, e8, e15, rfl, rfl, rfl, rfl, rfl, rfl⟩ ?_
   clear e4 e5 e7 e8 e15
   rename_i eold
   clear eold
   rintro e ⟨e4, e5, e7, e8, e15, e16, e17, e18, e19, e20, e21⟩
   (refine @unH _ ?_; refine zA (And.intro y11_128 @Int.toNat_natCast) ?_; (repeat (refine inC ?_; intro hc)); try (refine inK ?_; intro K hK))
   refine (show FnX _ _ _ _ _ _ from hlike).runs.mono ?_
   rintro _ HQ ⟨rfl, hHQ⟩
   rw [hHQ]; clear hHQ HQ hlike
   ((try (refine @unH _ ?_; refine zX y11_128 ?_)); (try (refine hK _ _ ?_; clear hK K; (try simp only [nq, ↓reduceIte, Nat.reduceEqDiff]))); refine @unH _ ?_; refine zA y11_128 ?_; (repeat (refine inC ?_; intro hc)); try (refine inK ?_; intro K hK))
   exact ⟨3 - (r + 1), by omega, _, r + 1, rfl, by omega, rfl, e4, e5, e7, e8, rfl, lEJ⟩
  ·obtain rfl : r = 3 := by omega
   clear hmr htbx
   (refine @unH _ ?_; refine zA y11_128 ?_; (repeat (refine inC ?_; intro hc)); try (refine inK ?_; intro K hK))
   refine (kept_spec HF).runs.mono ?_
   rintro _ H7 ⟨rfl, lH7⟩
   ((try (refine @unH _ ?_; refine zX y11_128 ?_)); (try (refine hK _ _ ?_; clear hK K; (try simp only [nq, ↓reduceIte, Nat.reduceEqDiff]))); refine @unH _ ?_; refine zA y11_128 ?_; (repeat (refine inC ?_; intro hc)); try (refine inK ?_; intro K hK))
   (refine Ax8 ?_; (try simp only [nq, ↓reduceIte, Nat.reduceEqDiff]); rw [Axs, Ak2 Tryz.results11 (by decide)]; simp only [Aqr, Nat.reduceEqDiff, ↓reduceIte])
end Go.Proofs.YtgniilnljeedlaaGreatDoor
end
section
namespace Go.Proofs.YtgniilnljeedlaaGreatDoor
open Go Go.X Go.ChangeShapes Go.WideShapes Go.RowKit
set_option maxRecDepth 100000 in
theorem law_lifted (os : Os) (started : os.Started) (H : Type) (enc : TypeId × Value -> H) :
  ReturnsInLeavingWide {} Tryz.checked os 11 .any (fun w args => (Rows.vaultMoreSpec.pre enc Tryz.prog Tryz.f11 [] false w args /\ laidMetH Tryz.prog [("errors.errorType", Rows.laid_errors_errorType)] w) /\ sizedMet enc Tryz.prog Tryz.f11 (OpenSpec.ofChange Rows.vaultMoreSpec) false w args)
   (Rows.vaultMoreSpec.post enc Tryz.prog Tryz.f11 false true false false) := by
 refine leaving_of_change_and (C := Tryz.checked) (X := fun w _ => laidMetH Tryz.prog [("errors.errorType", Rows.laid_errors_errorType)] w) (fun _ _ _ hh h => h.of_heap hh) ownK started Tryz.func11
  (ChangeSpec.witness_at (enc := enc) (C := Tryz.checked) (os := os) (X := fun w _ => laidMetH Tryz.prog [("errors.errorType", Rows.laid_errors_errorType)] w) false (laidWorld os) #[.slice none 0 0] 8 rfl (by kernel_rfl) (by kernel_rfl) (by kernel_rfl) (by kernel_rfl) (by kernel_rfl) (laidWorld_met os _)) ?_
 intro W base args ds gs before hval0 hW hL
 have hval : ∀ (j : Nat) t v, Tryz.f11.params[j]? = some t -> args[j]? = some v -> Value.okWide Tryz.prog W .any base t v := hval0
 have hW' := hW
 obtain ⟨p, q, hA0, hV0, rfl, hfz, hnd⟩ := hW
 have hA : DataW.TrodAll enc Tryz.prog W 0 (fun _ => true) true Tryz.f11.params.toList args.toList ds p := hA0
 have hV : DataW.TrodVars enc Tryz.prog W (fun _ => true) [] gs q := hV0
 rw [Tryz.params11] at hA hval
 obtain ⟨v0, d0, rfl, rfl, h0⟩ := trodAll_one hA
 obtain ⟨a0, len, cap, rfl⟩ := okWide_slice Tryz.underlying22 (hval 0 22 v0 rfl rfl)
 have h0k := h0
 obtain ⟨fuel, hf⟩ := h0
 obtain ⟨rfl, rfl⟩ : gs = [] /\ q = [] := by
  cases gs with
  | nil => exact ⟨rfl, hV⟩
  | cons g r => exact absurd hV (by intro h; cases h)
 have e1 : Rows.vaultMoreSpec.fn H ([d0] ++ []) = { results := [.lit (.bool true)], args := [d0] } := by simp [Rows.vaultMoreSpec]
 have hcells : ∀ i : Nat, i < len -> ∃ sb so c e fr x, a0 = some ⟨sb, so, none⟩ /\ Bqr W sb = some (false, .cells c e fr) /\ c[so + i]? = some (.int .i64 x) := by
  rcases open_ints Tryz.underlying22 Tryz.underlying3 cellsK hf with ⟨hcs, _⟩ | ⟨a, len', cap', zs, hcs, _, hl, hm, hz, hx, hcell, hwz⟩
  ·simp [Value.cells] at hcs
   intro i hi
   omega
  ·simp [Value.cells] at hcs
   obtain ⟨rfl, rfl, rfl⟩ := hcs
   intro i hi
   simp only [if_true] at hz
   have hc := hcell i (by omega)
   obtain ⟨b, off, spot⟩ := a
   have hspot : spot = none := by simpa [Addr.add] using World.cell?_spot (hcell 0 (by omega))
   subst hspot
   rw [add_plain] at hc
   unfold World.cell? at hc
   split at hc
   ·rename_i c e fr hb
    exact ⟨b, off, c, e, fr, _, rfl, by simp [Bqr, hb], by simpa using hc⟩
   ·cases hc
 have hlt : ∀ x ∈ p, x.block < W.heap.size := fun x hx => by simpa using hW'.lt x (by simpa using hx)
 obtain ⟨N, last, o, w', t', r1, r2, r3, v, hv, ⟨rfl, hB⟩, r4⟩ := (lmore_spec (Bqr W) a0 len cap hcells).goodW Tryz.func11 (results_tmp Tryz.results11 _) (by kernel_rfl)
 refine ⟨N, last, o, w', t', r1, r2, r3, _, hv, ?_, r4⟩
 have hb := hB.below
 refine ⟨_, _, _, [], p, [], hW', ?_, ?_, ?_, hB.kept _, fun h => by cases h⟩
 ·rw [e1]; exact trodAll_mk1 (shut_bool Tryz.underlying4 true)
 ·rw [e1]
  have t := trodAll_mk1 (DataW.Trod.of_heap (w := { w' with tape := W.tape }) (w' := w') rfl (Below.trod laidOutK (by kernel_rfl) (of_decide_eq_true (by kernel_rfl)) h0k hb hlt))
  exact t
 ·rw [e1]; rfl
end Go.Proofs.YtgniilnljeedlaaGreatDoor
end
section
namespace Go.Proofs.YtgniilnljeedlaaGreatDoor
open Go Go.X Go.ChangeShapes Go.WideShapes Go.RowKit
theorem jEnter : Program.mayEnter Tryz.pinned.checked.prog = true := factEnter
theorem jLift : (Rows.vaultMoreRow.lifted == Program.liftsFinal Tryz.pinned.checked.prog) = true := by rw [show Program.liftsFinal Tryz.pinned.checked.prog = Rows.vaultMoreRow.lifted from factLift]; exact beq_self_eq_true _
theorem jMake : (Program.make Tryz.pinned.checked.prog == some Rows.vaultMoreRow.make) = true := by rw [show Program.make Tryz.pinned.checked.prog = some Rows.vaultMoreRow.make from factMake]; exact beq_self_eq_true _
set_option maxRecDepth 100000 in
theorem jf : joinedFacts Tryz.pinned.checked.prog 11 Tryz.f11 Rows.vaultMoreSpec Rows.vaultMoreRow = true := by
 unfold joinedFacts
 simp only [jEnter, jLift, jMake, Bool.and_true]
 kernel_rfl
set_option maxRecDepth 100000 in
theorem vaultMore_said : Rows.VaultMoreSaid :=
 OpenClaim.holds_of_wide_leaving 11 Tryz.f11 rfl rfl rfl rfl rfl rfl rfl ⟨rfl, rfl, rfl, rfl, rfl⟩ rfl rfl rfl rfl rfl (by kernel_rfl) Tryz.func11 jf
  (of_decide_eq_true (by kernel_rfl)) (by unfold Func.isWrapper; rw [if_neg (of_decide_eq_false (by kernel_rfl))]; exact ⟨rfl, rfl⟩)
  (fun os started H enc _ => law_lifted os started H enc)
end Go.Proofs.YtgniilnljeedlaaGreatDoor
end
