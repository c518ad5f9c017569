/- Texts LdO LTin LawVQ LPhases PVaultPhases SVaultPhases. -/
import Derived.Test.YtgniilnljeedlaaGreatDoorJ24
import Derived.Test.YtgniilnljeedlaaGreatDoorAFactA
import Derived.Test.YtgniilnljeedlaaGreatDoorAFactVB
import Derived.Test.YtgniilnljeedlaaGreatDoorAFactVC
set_option linter.defProp false
set_option linter.unusedSimpArgs false
set_option linter.unusedVariables false
set_option maxRecDepth 100000
set_option maxHeartbeats 2000000
section
namespace Go.X
open Go
def ldO (q : Option Value) (K : Value -> Prop) : Prop := ∃ v, q = some v /\ K v
@[congr] theorem ldO_congr {q q' : Option Value} {K : Value -> Prop} (h : q = q') : ldO q K = ldO q' K := by rw [h]
theorem ldO_some {v : Value} {K : Value -> Prop} : ldO (some v) K = K v := by simp [ldO]
theorem ld_O {H : Hp} {a : Addr} {K : Value -> Prop} : (∃ v, H.cell a = some v /\ K v) = ldO (H.cell a) K := rfl
theorem ylK_undef : ylK (some undef) = none := rfl
theorem gateL_no {b : Bool} {x y : Prop} : Cqq none b x y = y := by cases b <;> rfl
end Go.X
end
section
namespace Go.Proofs.YtgniilnljeedlaaGreatDoor
open Go Go.X
theorem SlI.hi {H : Hp} {a : Option Addr} {n cap : Nat} {xs : List Int} (h : SlI H (.slice a n cap) xs) {k : Nat} (hk : k <= xs.length) : SlI H (.slice a k cap) (xs.take k) := by
 obtain ⟨a', cap', e, hcap, hx⟩ := h
 cases e
 refine ⟨_, _, by rw [List.length_take, Nat.min_eq_left hk], by rw [List.length_take]; omega, fun i x hi => ?_⟩
 rw [List.getElem?_take] at hi
 split at hi
 ·exact hx i x hi
 ·cases hi
theorem phasesF_len {pl : Int} (h1 : 1 <= pl) {ts : List Int} (hb : ∀ t ∈ ts, 0 <= t /\ t < 6) : ∀ fuel i, (Ax1 pl ts fuel i).length <= ts.length - i
 | 0, _ => Nat.zero_le _
 | fuel + 1, i => by
  by_cases hi : i < ts.length
  ·have hd : ts.drop i = ts[i] :: ts.drop (i + 1) := List.drop_eq_getElem_cons hi
   have hp : 1 <= Ax5 pl 0 (ts.drop i) := by
    rw [hd]
    exact Aw7 h1 (hb _ (List.getElem_mem hi)).1 (hb _ (List.getElem_mem hi)).2 _
   rw [Akj pl ts hi, List.length_cons]
   have := phasesF_len h1 hb fuel (i + Ax5 pl 0 (ts.drop i))
   omega
  ·rw [Aj9 pl ts (by omega)]
   exact Nat.zero_le _
theorem phase_at {pl : Int} (h1 : 1 <= pl) {ts : List Int} (hb : ∀ t ∈ ts, 0 <= t /\ t < 6) {i : Nat} {a : Int} (h : (Ax1 pl ts ts.length 0)[i]? = some a) :
  ∃ n d : Nat, a = n /\ d = Ax5 pl 0 (ts.drop n) /\ n < ts.length /\ 1 <= d /\ n + d <= ts.length /\ (n + d < ts.length -> (Ax1 pl ts ts.length 0)[i + 1]? = some ((n + d : Nat) : Int)) /\ (ts.length <= n + d -> (Ax1 pl ts ts.length 0).length <= i + 1) := by
 obtain ⟨n, f', rfl, _, hn, hd, _, hf⟩ := Cjs h1 hb ts.length 0 i a (by omega) h
 have hdn : ts.drop n = ts[n] :: ts.drop (n + 1) := List.drop_eq_getElem_cons hn
 have hp : 1 <= Ax5 pl 0 (ts.drop n) := by
  rw [hdn]
  exact Aw7 h1 (hb _ (List.getElem_mem hn)).1 (hb _ (List.getElem_mem hn)).2 _
 have hle := Cx7 pl (ts.drop n) 0
 rw [List.length_drop] at hle
 refine ⟨n, _, rfl, rfl, hn, hp, by omega, fun hlt => ?_, fun hge => ?_⟩
 ·obtain ⟨f, rfl⟩ : ∃ f, f' = f + 1 := ⟨f' - 1, by omega⟩
  rw [Akj pl ts hlt] at hd
  have := congrArg (fun l => l[0]?) hd
  simp only [List.getElem?_drop, Nat.add_zero, List.getElem?_cons_zero] at this
  exact this
 ·rw [Aj9 pl ts hge] at hd
  have := congrArg List.length hd
  rw [List.length_drop] at this
  simp only [List.length_nil] at this
  omega
theorem phase_met {pl : Int} (h1 : 1 <= pl) {ts : List Int} (hb : ∀ t ∈ ts, 0 <= t /\ t < 6) {n d : Nat} (hd : d = Ax5 pl 0 (ts.drop n)) :
  ((Avb [] ((ts.drop n).take d)).length : Int) <= pl /\ (n + d < ts.length -> pl <= (Avb [] ((ts.drop n).take d)).length /\ ts.getD (n + d) 0 ∉ Avb [] ((ts.drop n).take d)) := by
 have hb' : ∀ k, ∀ t ∈ (ts.drop n).take k, 0 <= t /\ t < 6 := fun k t ht => hb t (List.mem_of_mem_drop (List.mem_of_mem_take ht))
 have hin := Bv3 pl (ts.drop n) 0 d (by have : Aqs 0 = 0 := (by decide); omega) (by omega)
 rw [<- fresh_count (hb' d)] at hin
 refine ⟨hin, fun hlt => ?_⟩
 have hout := Bye pl (ts.drop n) 0 (by rw [List.length_drop, <- hd]; omega)
 rw [<- hd, <- fresh_count (hb' (d + 1))] at hout
 have hs := Avm (ts := ts) (a := n) (j := n + d) (by omega) hlt
 rw [show n + d + 1 - n = d + 1 by omega, show n + d - n = d by omega] at hs
 rw [hs, Bqf] at hout
 split at hout
 ·omega
 ·rename_i hc
  rw [List.length_append] at hout
  simp only [List.length_cons, List.length_nil] at hout
  exact ⟨by omega, fun hx => hc (.inr hx)⟩
def y8_141 := And.intro @callF23 (And.intro @callF46 (And.intro (fun H => Aq0 (H := H) (P := Tryz.prog) (h := Tryz.zeroValue25)) (And.intro (fun H => Aq3 (H := H) Tryz.sizeOf25) (And.intro (fun H => Aqv (H := H) Tryz.underlying25 rfl Tryz.sizeOf25) (And.intro @Dxu (And.intro (fun H => Aq4 (H := H) Tryz.underlying22) (And.intro @eqG_bool (And.intro (fun H => Aqq (H := H) Tryz.underlying22 Tryz.sizeOf3) (And.intro (fun H => Aqd (H := H) Tryz.underlying3 rfl) (And.intro @Dxs (And.intro @Dxz (And.intro @Axq (And.intro (fun H => Aqg (H := H) Tryz.underlying25 (i := 0) rfl (off := 0) rfl Tryz.sizeOf3) (And.intro (fun H => Aqg (H := H) Tryz.underlying25 (i := 3) rfl (off := 3) rfl Tryz.sizeOf23) (And.intro (fun H => Aqd (H := H) Tryz.underlying23 rfl) (And.intro (fun H => Czd (H := H) Tryz.underlying23 Tryz.sizeOf22) (And.intro (fun H => Cze (H := H) Tryz.underlying23 Tryz.sizeOf22) (And.intro (fun H => Bku (H := H) Tryz.underlying23 Tryz.sizeOf22) (And.intro (fun H => Ajy (H := H) Tryz.sizeOf23) (And.intro (fun H => Czd (H := H) Tryz.underlying22 Tryz.sizeOf3) (And.intro (fun H => Cze (H := H) Tryz.underlying22 Tryz.sizeOf3) (And.intro (fun H => Bku (H := H) Tryz.underlying22 Tryz.sizeOf3) @callF22))))))))))))))))))))))
theorem bin_neqB {P : Program} {t : TypeId} (hu : P.underlying t = some .bool) {H : Hp} (x y : Bool) (K : Value -> Hp -> Prop) (E : Value -> Hp -> Prop) : wpS P (binOp .neq t (.bool x) (.bool y)) H K E = K (.bool (x != y)) H := by
 simp only [binOp]
 rw [Aqb]
 unfold Op.equal Op.maxDepth
 rw [show (10000 : Nat) = 9999 + 1 from rfl]
 unfold Op.equalIn
 simp only [Aqb, Aqj hu, Aqi]
 rfl
theorem SlR.hi {H : Hp} {a : Option Addr} {n cap : Nat} {xs : List (List Int)} (h : SlR H (.slice a n cap) xs) {k : Nat} (hk : k <= xs.length) : SlR H (.slice a k cap) (xs.take k) := by
 obtain ⟨a', cap', e, hcap, hx⟩ := h
 cases e
 refine ⟨_, _, by rw [List.length_take, Nat.min_eq_left hk], by rw [List.length_take]; omega, fun i x hi => ?_⟩
 rw [List.getElem?_take] at hi
 split at hi
 ·exact hx i x hi
 ·cases hi
theorem Aje.hi {places pieces : Int} {start : List Int} {xss : List (List Int)} (h : Aje places pieces start xss) (k : Nat) : Aje places pieces start (xss.take k) := by
 obtain ⟨a1, a2, a3, a4, a5, a6, a7, a8⟩ := h
 exact ⟨a1, a2, a3, a4, a5, a6, a7, fun xs hx => a8 xs (List.mem_of_mem_take hx)⟩
theorem Ajd.hi {xss : List (List Int)} {ts : List Int} (h : Ajd xss ts) (k : Nat) : Ajd (xss.take k) (ts.take k) := by
 refine ⟨by rw [List.length_take, List.length_take, h.1], fun i t xs h1 h2 => ?_⟩
 rw [List.getElem?_take] at h1 h2
 split at h1
 ·rename_i hi
  rw [if_pos hi] at h2
  exact h.2 i t xs h1 h2
 ·cases h1
theorem Aww.hi {H : Hp} {places pieces : Int} {sv : Value} {ca ta : Option Addr} {n cc m tc : Nat} {start : List Int} {xss : List (List Int)} {ts : List Int} (h : Aww H places pieces sv (.slice ca n cc) (.slice ta m tc) start xss ts) {k : Nat} (hk : k <= ts.length) : Aww H places pieces sv (.slice ca k cc) (.slice ta k tc) start (xss.take k) (ts.take k) :=
 ⟨h.st, h.calls.hi (by rw [<- h.true.1]; exact hk), h.truth.hi hk, h.ok.hi k, by rw [List.length_take]; have := h.few; omega, h.true.hi k⟩
theorem lphases_spec (H : Hp) (sa : Option Addr) (sl sc : Nat) (hs : ∀ i : Nat, i < sl -> ∃ sb so c e fr x, sa = some ⟨sb, so, none⟩ /\ H sb = some (false, .cells c e fr) /\ c[so + i]? = some (.int .i64 x)) :
  FnX Tryz.prog (.wg Tryz.prog) 8 #[.slice sa sl sc] H fun e _ => e = .returned (.bool true) := by
 refine Aqk Tryz.func8 rfl Tryz.ntmps8 (by simp) ?_
 repeat' (first
 | (refine Axj rfl ?_; intro K hK; simp -implicitDefEqProofs (disch := first | omega | (simp only [qd] <;> omega)) only [xq, ↓xp, qc, Nat.reduceAdd, List.range, List.range.loop, fine, Nat.reduceEqDiff, ↓reduceIte, yielded, reduceCtorEq, Nat.reduceLT, Nat.reduceMul, Nat.reduceSub, one, Nat.reduceLeDiff, Aqa, y8_141, aq, ↓ap, qe0, qe1, qe2, *, -hK]; try (refine hK _ _ ?_; clear hK K))
 | (refine Axo rfl ?_; intro K hK; simp -implicitDefEqProofs (disch := first | omega | (simp only [qd] <;> omega)) only [xq, ↓xp, qc, Nat.reduceAdd, List.range, List.range.loop, fine, Nat.reduceEqDiff, ↓reduceIte, yielded, reduceCtorEq, Nat.reduceLT, Nat.reduceMul, Nat.reduceSub, one, Nat.reduceLeDiff, Aqa, y8_141, aq, ↓ap, qe0, qe1, qe2, *, -hK]; try (refine hK _ _ ?_; clear hK K; (try simp only [nq, ↓reduceIte, Nat.reduceEqDiff])))
 | (refine Aqu ?_; (try simp only [nq, ↓reduceIte, Nat.reduceEqDiff]))
 | (refine Axn ?_; (try simp only [nq, ↓reduceIte, Nat.reduceEqDiff]))
 | (refine Aq7 ?_; (try simp only [nq, ↓reduceIte, Nat.reduceEqDiff]))
 | (refine Azb ?_; (try simp only [nq, ↓reduceIte, Nat.reduceEqDiff]))
 | (refine Axv (by simp only [Aqm, Aqr, Nat.reduceEqDiff, Nat.reduceLT, ↓reduceIte, *]; rfl) ?_ ?_ <;> (intro hc; first | (exfalso; simp -implicitDefEqProofs (disch := omega) only [*, bq, reduceCtorEq] at hc; done) | (simp only [dq, qe3, qe4, qe5, qe6] at hc) | skip))
 | (refine Axl ?_)
 | (refine Aqo ?_)
 | (refine Aql ?_))
 refine (newTin_spec _ H sa sl sc hs 240 (by omega)).runs.mono ?_
 rintro _ H1 ⟨tb, rfl, l1, hT⟩
 (try simp -implicitDefEqProofs (disch := first | omega | (simp only [qd] <;> omega)) only [xq, ↓xp, qc, Nat.reduceAdd, List.range, List.range.loop, fine, Nat.reduceEqDiff, ↓reduceIte, yielded, reduceCtorEq, Nat.reduceLT, Nat.reduceMul, Nat.reduceSub, one, Nat.reduceLeDiff, Aqa, y8_141, aq, ↓ap, qe0, qe1, qe2, *, -hK]); try (refine hK _ _ ?_; clear hK K; (try simp only [nq, ↓reduceIte, Nat.reduceEqDiff])); repeat' (first
 | (refine Axj rfl ?_; intro K hK; simp -implicitDefEqProofs (disch := first | omega | (simp only [qd] <;> omega)) only [xq, ↓xp, qc, Nat.reduceAdd, List.range, List.range.loop, fine, Nat.reduceEqDiff, ↓reduceIte, yielded, reduceCtorEq, Nat.reduceLT, Nat.reduceMul, Nat.reduceSub, one, Nat.reduceLeDiff, Aqa, y8_141, aq, ↓ap, qe0, qe1, qe2, *, -hK]; try (refine hK _ _ ?_; clear hK K))
 | (refine Axo rfl ?_; intro K hK; simp -implicitDefEqProofs (disch := first | omega | (simp only [qd] <;> omega)) only [xq, ↓xp, qc, Nat.reduceAdd, List.range, List.range.loop, fine, Nat.reduceEqDiff, ↓reduceIte, yielded, reduceCtorEq, Nat.reduceLT, Nat.reduceMul, Nat.reduceSub, one, Nat.reduceLeDiff, Aqa, y8_141, aq, ↓ap, qe0, qe1, qe2, *, -hK]; try (refine hK _ _ ?_; clear hK K; (try simp only [nq, ↓reduceIte, Nat.reduceEqDiff])))
 | (refine Aqu ?_; (try simp only [nq, ↓reduceIte, Nat.reduceEqDiff]))
 | (refine Axn ?_; (try simp only [nq, ↓reduceIte, Nat.reduceEqDiff]))
 | (refine Aq7 ?_; (try simp only [nq, ↓reduceIte, Nat.reduceEqDiff]))
 | (refine Azb ?_; (try simp only [nq, ↓reduceIte, Nat.reduceEqDiff]))
 | (refine Axv (by simp only [Aqm, Aqr, Nat.reduceEqDiff, Nat.reduceLT, ↓reduceIte, *]; rfl) ?_ ?_ <;> (intro hc; first | (exfalso; simp -implicitDefEqProofs (disch := omega) only [*, bq, reduceCtorEq] at hc; done) | (simp only [dq, qe3, qe4, qe5, qe6] at hc) | skip))
 | (refine Axl ?_)
 | (refine Aqo ?_)
 | (refine Aql ?_))
 refine (vaultOf_spec _ H1 tb 148 8 2 (by omega) (by omega) (by omega) hT).runs.mono ?_
 rintro _ H2 ⟨places, pieces, sv, start, cv, xss, tv, ts, rfl, hst, hcs, htr, hok, hfew, htok, lex2, hT2⟩
 have hd2 : Aww H2 places pieces sv cv tv start xss ts := ⟨hst, hcs, htr, hok, by omega, htok⟩
 clear hT hs l1 hst hcs htr lex2
 obtain ⟨va, vc, rfl, hvc, _⟩ := id hd2.st
 obtain ⟨ca, cc, rfl, hcc, _⟩ := id hd2.calls
 obtain ⟨ta, tc, rfl, htc, _⟩ := id hd2.truth
 have htl : ts.length <= 8 := by have := htok.1; omega
 have htb := htok.bnd hok
 have hok2 := hok
 obtain ⟨p1, p4, q1, q6, hsp, hsd, hsb, hxs⟩ := hok2
 have hs6 : ∀ t ∈ start, 0 <= t /\ t < 6 := fun t ht => by have := hsb t ht; omega
 ((try (refine @unH _ ?_; refine zX y8_141 ?_)); (try (refine hK _ _ ?_; clear hK K; (try simp only [nq, ↓reduceIte, Nat.reduceEqDiff]))); refine @unH _ ?_; refine zA y8_141 ?_; (repeat (refine inC ?_; intro hc)); try (refine inK ?_; intro K hK))
 (intro vb hvb; generalize hG : Hp.set _ vb _ = H3; have lH3 := Aqh hG hvb; have vvb := Aqf hG; clear hG)
 have hd3 := hd2.le lH3
 clear hd2 lH3 hvb hT2
 have hPl := phasesF_len p1 htb ts.length 0
 have hPat := fun i a h => phase_at p1 htb (i := i) (a := a) h
 have hPm := fun n d h => phase_met p1 htb (n := n) (d := d) h
 have hPf : (Ax1 places ts ts.length 0).length <= (rrun places 3 ts (rs0 start) ts.length).f + 1 := by
  by_cases h0 : 0 < ts.length
  ·have := Byf (r := 3) p1 hs6 hsp htb ts.length 0 h0
   omega
  ·omega
 have hP0 : 0 < ts.length -> (Ax1 places ts ts.length 0)[0]? = some 0 := fun h => by
  obtain ⟨n, hn⟩ : ∃ n, ts.length = n + 1 := ⟨ts.length - 1, by omega⟩
  rw [show Ax1 places ts ts.length 0 = Ax1 places ts (n + 1) 0 by rw [hn], Akj places ts h]
  rfl
 have hfm : ∀ r i j, i <= j -> (rrun places r ts (rs0 start) i).f <= (rrun places r ts (rs0 start) j).f := fun r i j h => Awi places r ts (rs0 start) h
 have hff : ∀ r, (r = 1 ∨ r = 2) -> ∀ n d, d = Ax5 places 0 (ts.drop n) -> n <= ts.length -> ((rrun places r ts (rs0 start) (n + d)).f : Int) <= (rrun places r ts (rs0 start) n).f + places := fun r hr n d hd hn => by rw [hd]; exact phase_few hr p1 hs6 hsd hsp htb (by omega) hn
 have hf8 : ∀ r i, i <= ts.length -> (rrun places r ts (rs0 start) i).f <= 8 := fun r i hi => Nat.le_trans ((Bxv places r ts start hs6 htb (by omega) i hi).f) (by omega)
 replace hPat : Aqy _ := hPat
 replace hPm : Aqy _ := hPm
 replace hfm : Aqy _ := hfm
 replace hff : Aqy _ := hff
 replace hf8 : Aqy _ := hf8
 replace hP0 : Aqy _ := hP0
 ((try (refine @unH _ ?_; refine zX y8_141 ?_)); (try (refine hK _ _ ?_; clear hK K; (try simp only [nq, ↓reduceIte, Nat.reduceEqDiff]))); refine @unH _ ?_; refine zA y8_141 ?_; (repeat (refine inC ?_; intro hc)); try (refine inK ?_; intro K hK))
 refine (Byu _ H3 places pieces _ _ _ start xss ts hd3).runs.mono ?_
 rintro _ H4 ⟨w, rfl, l1, hl⟩
 have hd4 := hd3.le l1
 have vvb4 := l1 _ _ vvb
 clear hd3 vvb l1
 generalize Ax1 places ts ts.length 0 = PH at *
 obtain ⟨la, lc, rfl, hlc, _⟩ := id hl
 ((try (refine @unH _ ?_; refine zX y8_141 ?_)); (try (refine hK _ _ ?_; clear hK K; (try simp only [nq, ↓reduceIte, Nat.reduceEqDiff]))); refine @unH _ ?_; refine zS y8_141 ?_; (repeat (refine inC ?_; intro hc)); try (refine inK ?_; intro K hK))
 refine Av4 (fun e => e 3 = .pointer (some ⟨vb, 0, none⟩) /\ e 4 = .slice ta ts.length tc /\ e 5 = .slice la PH.length lc /\ e 6 = .int .i64 0) ⟨rfl, rfl, rfl, rfl⟩ ?_
 rename_i eold
 clear eold
 rintro e ⟨e3, e4, e5, e6⟩
 refine Akf (fun a' H' => ∃ e, a' = act 231 e [] /\ e 3 = .pointer (some ⟨vb, 0, none⟩) /\ e 4 = .slice ta ts.length tc /\ e 5 = .slice la PH.length lc /\ H' = H4) ?_ ?_
 ·by_cases h0 : 0 < ts.length
  ·have hp0 := (show 0 < ts.length -> _ from hP0) h0
   obtain ⟨pb, po, pq, pc, pfr, hpa, hpb, hpi⟩ := hl.get hp0
   subst hpa
   have hPp : 0 < PH.length := (List.getElem?_eq_some_iff.1 hp0).1
   replace hp0 : Aqy _ := hp0
   replace hpi : pc[po + Int.toNat 0]? = some (.int .i64 0) := hpi
   have hq1 : ¬ ((PH.length : Int) = 0) := by omega
   have hq2 : ¬ ((ts.length : Int) = 0) := by omega
   clear hPf
   refine Aql ?_
   (refine Axo rfl ?_; intro K hK; simp -implicitDefEqProofs (maxSteps := 3000000) (disch := first | omega | (simp only [qd] <;> omega)) only [xq, ↓xp, qc, Nat.reduceAdd, List.range, List.range.loop, fine, Nat.reduceEqDiff, ↓reduceIte, yielded, reduceCtorEq, Nat.reduceLT, Nat.reduceMul, Nat.reduceSub, one, Nat.reduceLeDiff, Aqa, y8_141, aq, ↓ap, qe0, qe1, qe2, ↓ld_O, ldO_some, ylK_undef, gateL_no, *, -hK, bin_neqB Tryz.underlying4, bne_self_eq_false]; refine hK _ _ ?_; clear hK K; (try simp only [nq, ↓reduceIte, Nat.reduceEqDiff]))
   (refine @unH _ ?_; refine zA y8_141 ?_; (repeat (refine inC ?_; intro hc)); try (refine inK ?_; intro K hK))
   exact ⟨_, rfl, e3, e4, e5, trivial⟩
  ·have ht0 : ts.length = 0 := by omega
   have hp0 : PH.length = 0 := by omega
   rw [ht0] at e4
   rw [hp0] at e5
   clear hPf
   refine Aql ?_
   (refine Axo rfl ?_; intro K hK; simp -implicitDefEqProofs (maxSteps := 3000000) (disch := first | omega | (simp only [qd] <;> omega)) only [xq, ↓xp, qc, Nat.reduceAdd, List.range, List.range.loop, fine, Nat.reduceEqDiff, ↓reduceIte, yielded, reduceCtorEq, Nat.reduceLT, Nat.reduceMul, Nat.reduceSub, one, Nat.reduceLeDiff, Aqa, y8_141, aq, ↓ap, qe0, qe1, qe2, ↓ld_O, ldO_some, ylK_undef, gateL_no, *, -hK, bin_neqB Tryz.underlying4, bne_self_eq_false]; refine hK _ _ ?_; clear hK K; (try simp only [nq, ↓reduceIte, Nat.reduceEqDiff]))
   (refine @unH _ ?_; refine zA y8_141 ?_; (repeat (refine inC ?_; intro hc)); try (refine inK ?_; intro K hK))
   exact ⟨_, rfl, e3, by rw [ht0]; exact e4, by rw [hp0]; exact e5, trivial⟩
 rintro a' H' ⟨e, rfl, e3, e4, e5, hHQ⟩
 rw [hHQ]; clear hHQ H'
 rename_i eold
 clear eold
 (refine @unH _ ?_; refine zA y8_141 ?_; (repeat (refine inC ?_; intro hc)); try (refine inK ?_; intro K hK))
 refine (Cwi _ H4 places pieces _ _ _ start xss ts hd4 3 (by omega) (by omega)).runs.mono ?_
 rintro _ H5 ⟨kv, rfl, l1, hkv⟩
 have hd5 := hd4.le l1
 have vvb5 := l1 _ _ vvb4
 have hl5 := hl.le l1
 have hf3 := (show ∀ r i, i <= ts.length -> _ from hf8) 3 ts.length (Nat.le_refl _)
 clear hd4 vvb4 hl hkv l1
 generalize (rrun places 3 ts (rs0 start) ts.length).f = F3 at *
 generalize (rrun places 3 ts (rs0 start) ts.length).cl.take ts.length = K3 at *
 ((try (refine @unH _ ?_; refine zX y8_141 ?_)); (try (refine hK _ _ ?_; clear hK K; (try simp only [nq, ↓reduceIte, Nat.reduceEqDiff]))); refine @unH _ ?_; refine zA y8_141 ?_; (repeat (refine inC ?_; intro hc)); try (refine inK ?_; intro K hK))
 refine Aq9 (fun w a' H' => ∃ e i, w = PH.length - i /\ i <= PH.length /\ a' = act 231 e [] /\ e 3 = .pointer (some ⟨vb, 0, none⟩) /\ e 4 = .slice ta ts.length tc /\ e 5 = .slice la PH.length lc /\ e 10 = .int .i64 (i : Nat) /\ H5.le H') (n := PH.length) ?_ ?_
 ·exact ⟨_, 0, by omega, by omega, rfl, e3, e4, e5, rfl, Hp.le_refl _⟩
 clear e3 e4 e5 hPf hf3
 rintro w a' H6 ⟨e, i, rfl, hi, rfl, e3, e4, e5, e10, l56⟩
 have hd6 := hd5.le l56
 have vvb6 := l56 _ _ vvb5
 have hl6 := hl5.le l56
 by_cases hlt : i < PH.length
 ·have hxi := List.getElem?_eq_getElem hlt
  generalize PH[i] = a at *
  obtain ⟨n, d, rfl, hdn, hn, hd1, hnd, hnx1, hnx2⟩ := (show ∀ i a, PH[i]? = some a -> _ from hPat) i a hxi
  obtain ⟨pb, po, pq, pc, pfr, hpa, hpb, hpi⟩ := hl6.get hxi
  subst hpa
  obtain ⟨hm1, hm2⟩ := (show ∀ n d, d = Ax5 places 0 (ts.drop n) -> _ from hPm) n d hdn
  have hfd1 := fun (r : Int) hr => (show ∀ r : Int, (r = 1 ∨ r = 2) -> ∀ n d, d = Ax5 places 0 (ts.drop n) -> n <= ts.length -> _ from hff) r hr n d hdn (by omega)
  have hnxl : n + d < ts.length -> i + 1 < PH.length := fun h => (List.getElem?_eq_some_iff.1 (hnx1 h)).1
  have htl8 : ts.length <= 8 := htl
  replace hxi : Aqy _ := hxi
  replace hnx1 : Aqy _ := hnx1
  replace hnx2 : Aqy _ := hnx2
  replace hnxl : Aqy _ := hnxl
  replace hdn : Aqy _ := hdn
  replace hm2 : Aqy _ := hm2
  replace hfd1 : Aqy _ := hfd1
  replace hm1 : Aqy _ := hm1
  refine Aql ?_
  (refine @unH _ ?_; refine zS y8_141 ?_; (repeat (refine inC ?_; intro hc)); try (refine inK ?_; intro K hK))
  refine Aql ?_
  refine Aqo ?_
  (refine @unH _ ?_; refine zS y8_141 ?_; (repeat (refine inC ?_; intro hc)); try (refine inK ?_; intro K hK))
  refine Akf (fun a' H' => ∃ e, a' = act 231 e [] /\ e 3 = .pointer (some ⟨vb, 0, none⟩) /\ e 4 = .slice ta ts.length tc /\ e 5 = .slice (some ⟨pb, po, none⟩) PH.length lc /\ e 10 = .int .i64 (i : Nat) /\ e 11 = .int .i64 ((n + d : Nat) : Int) /\ H' = H6) ?_ ?_
  ·by_cases hlast : n + d < ts.length
   ·have hx1 := (show n + d < ts.length -> _ from hnx1) hlast
    have hx2 := (show n + d < ts.length -> i + 1 < PH.length from hnxl) hlast
    obtain ⟨pb', po', pq', pc', pfr', hpa', hpb', hpi'⟩ := hl6.get hx1
    cases hpa'
    obtain rfl : pc = pc' := by rw [hpb] at hpb'; simp only [Option.some.injEq, Prod.mk.injEq, Obj.cells.injEq] at hpb'; exact hpb'.2.1
    replace hpi' : pc[po + ((i : Int) + 1).toNat]? = some (.int .i64 ((n + d : Nat) : Int)) := by rw [show ((i : Int) + 1).toNat = i + 1 by omega]; exact hpi'
    replace hx1 : Aqy _ := hx1
    (refine @unH _ ?_; refine zA y8_141 ?_; (repeat (refine inC ?_; intro hc)); try (refine inK ?_; intro K hK))
    exact ⟨_, rfl, e3, e4, e5, e10, rfl, trivial⟩
   ·have hx2 := (show ts.length <= n + d -> _ from hnx2) (by omega)
    have hx3 : ts.length = n + d := by omega
    (refine @unH _ ?_; refine zA y8_141 ?_; (repeat (refine inC ?_; intro hc)); try (refine inK ?_; intro K hK))
    exact ⟨_, rfl, e3, e4, e5, e10, by rw [<- hx3]; rfl, trivial⟩
  rintro a' H' ⟨e, rfl, e3, e4, e5, e10, e11, hHQ⟩
  rw [hHQ]; clear hHQ H'
  have q1 : ¬ ((n : Int) < 0) := by omega
  have q2 : ¬ (((n + d : Nat) : Int) <= (n : Int)) := by omega
  have q3 : ¬ ((ts.length : Int) < ((n + d : Nat) : Int)) := by omega
  refine Aql ?_; refine Aql ?_; refine Axo rfl ?_; intro K hK
  simp -implicitDefEqProofs (maxSteps := 3000000) (disch := first | omega | (simp only [qd] <;> omega)) only [xq, ↓xp, qc, Nat.reduceAdd, List.range, List.range.loop, fine, Nat.reduceEqDiff, ↓reduceIte, yielded, reduceCtorEq, Nat.reduceLT, Nat.reduceMul, Nat.reduceSub, one, Nat.reduceLeDiff, Aqa, y8_141, aq, ↓ap, qe0, qe1, qe2, ↓ld_O, ldO_some, ylK_undef, gateL_no, *, -hK]
  refine hK _ _ ?_; clear hK K
  (try simp only [nq, ↓reduceIte, Nat.reduceEqDiff])
  clear q1 q2 q3
  (refine @unH _ ?_; refine zA y8_141 ?_; (repeat (refine inC ?_; intro hc)); try (refine inK ?_; intro K hK))
  obtain ⟨tb0, to0, tq0, tc0, tf0, hta, htb0, hti0⟩ := hd6.truth.get (i := n) (x := ts.getD n 0) (by simp [List.getD, List.getElem?_eq_getElem hn])
  subst hta
  have hnx0 : n < xss.length := by have := htok.1; omega
  obtain ⟨cb0, co0, cq0, cc0, cf0, cw0, hca, hcb0, hci0, hcw0⟩ := SlR.get hd6.calls (List.getElem?_eq_getElem hnx0)
  subst hca
  clear htb0 hti0 hcb0 hci0 hcw0 cq0 cc0 cf0 cw0 tq0 tc0 tf0
  refine Aq9 (fun w a' H' => ∃ e k mv, w = n + d - k /\ n <= k /\ k <= n + d /\ a' = act 231 e [] /\ e 3 = .pointer (some ⟨vb, 0, none⟩) /\ e 4 = .slice (some ⟨tb0, to0, none⟩) ts.length tc /\ e 5 = .slice (some ⟨pb, po, none⟩) PH.length lc /\ e 10 = .int .i64 (i : Nat) /\ e 11 = .int .i64 ((n + d : Nat) : Int) /\ e 12 = mv /\ e 13 = .int .i64 (k : Nat) /\ RowX none H6 H' mv 3 (ints (Avb [] ((ts.drop n).take (k - n))))) (n := d) ?_ ?_
  ·exact ⟨_, n, .slice none 0 0, by omega, by omega, by omega, rfl, e3, e4, e5, e10, e11, rfl, rfl, by rw [Nat.sub_self]; exact RowX.nil⟩
  clear e3 e4 e5 e10 e11 hc
  rename_i eold
  clear eold
  rintro w a' H7 ⟨e, k, mv, rfl, hk0, hk1, rfl, e3, e4, e5, e10, e11, e12, e13, hrow⟩
  have l67 := hrow.1.toLe
  have hd7 := hd6.le l67
  have vvb7 := l67 _ _ vvb6
  have hM8 : (Avb [] ((ts.drop n).take (k - n))).length <= 8 := Nat.le_trans (Cjd _ _ _) (by omega)
  obtain ⟨ma, mc, rfl⟩ := hrow.len
  rw [Axi] at hrow e12
  by_cases hkl : k < n + d
  ·obtain ⟨tb1, to1, tq1, tc1, tf1, hta, htb1, hti1⟩ := hd7.truth.get (i := k) (x := ts.getD k 0) (by simp [List.getD, List.getElem?_eq_getElem (show k < ts.length by omega)])
   cases hta
   have hsn := Avm (ts := ts) (a := n) (j := k) hk0 (by omega)
   have hfs := Bqf [] ((ts.drop n).take (k - n)) (ts.getD k 0)
   rw [<- hsn] at hfs
   clear hsn
   generalize Avb [] ((ts.drop n).take (k - n)) = M at *
   generalize ts.getD k 0 = t at *
   have hMs := hrow.ints
   have hq := atK_spec (.wg Tryz.prog) H7 _ M t hMs (by omega)
   have hA0 : 0 <= atF M t ↔ t ∈ M := atF_nonneg
   have hA1 := atF_bnd M t
   generalize atF M t = A at *
   replace hq : Aqy _ := hq
   replace hA0 : Aqy _ := hA0
   replace hfs : Aqy _ := hfs
   (refine @unH _ ?_; refine zA y8_141 ?_; (repeat (refine inC ?_; intro hc)); try (refine inK ?_; intro K hK))
   refine (show FnX _ _ _ _ _ _ from hq).runs.mono ?_
   rintro _ HQ ⟨rfl, hHQ⟩
   rw [hHQ]; clear hHQ HQ hq
   by_cases hA : A < 0
   ·have hfs2 : Avb [] ((ts.drop n).take (k + 1 - n)) = M ++ [t] := by
     rw [show Avb [] ((ts.drop n).take (k + 1 - n)) = _ from hfs, if_neg]
     rintro (h | h)
     ·cases h
     ·have := (show 0 <= A ↔ t ∈ M from hA0).2 h; omega
    replace hfs2 : Aqy _ := hfs2
    clear hfs hA0
    ((try (refine @unH _ ?_; refine zX y8_141 ?_)); (try (refine hK _ _ ?_; clear hK K; (try simp only [nq, ↓reduceIte, Nat.reduceEqDiff]))); refine @unH _ ?_; refine zA y8_141 ?_; (repeat (refine inC ?_; intro hc)); try (refine inK ?_; intro K hK))
    intro nb hnb
    generalize hG : Hp.set H7 nb _ = H8
    have lH8 := Aqh hG hnb
    have vnb := Aqf hG
    clear hG
    have hw : SlI H8 (.slice (some ⟨nb, 0, none⟩) 1 1) [t] := Ajq (xs := [t]) vnb rfl
    have hsep : rowB (.slice ma M.length mc) ≠ some nb := hrow.rowB_ne fun c fr h => by rw [hnb] at h; cases h
    refine Czu (hrow.le lH8) hw (fun _ b hb => by simp only [rowB, Option.some.injEq] at hb; subst hb; exact hsep) (by simp only [List.length_cons, List.length_nil]; omega) _ _ _ _ (fun v6 H9 hrow9 hkeep => ?_)
    clear hw hsep hkeep lH8 vnb hnb hrow
    ((try (refine @unH _ ?_; refine zX y8_141 ?_)); (try (refine hK _ _ ?_; clear hK K; (try simp only [nq, ↓reduceIte, Nat.reduceEqDiff]))); refine @unH _ ?_; refine zA y8_141 ?_; (repeat (refine inC ?_; intro hc)); try (refine inK ?_; intro K hK))
    exact ⟨n + d - (k + 1), by omega, _, k + 1, _, rfl, by omega, hkl, rfl, e3, e4, e5, e10, e11, rfl, rfl, by rw [show Avb [] ((ts.drop n).take (k + 1 - n)) = _ from hfs2]; exact hrow9⟩
   ·have hfs2 : Avb [] ((ts.drop n).take (k + 1 - n)) = M := by
     rw [show Avb [] ((ts.drop n).take (k + 1 - n)) = _ from hfs, if_pos]
     exact .inr ((show 0 <= A ↔ t ∈ M from hA0).1 (by omega))
    replace hfs2 : Aqy _ := hfs2
    clear hfs hA0
    ((try (refine @unH _ ?_; refine zX y8_141 ?_)); (try (refine hK _ _ ?_; clear hK K; (try simp only [nq, ↓reduceIte, Nat.reduceEqDiff]))); refine @unH _ ?_; refine zA y8_141 ?_; (repeat (refine inC ?_; intro hc)); try (refine inK ?_; intro K hK))
    exact ⟨n + d - (k + 1), by omega, _, k + 1, _, rfl, by omega, hkl, rfl, e3, e4, e5, e10, e11, e12, rfl, by rw [show Avb [] ((ts.drop n).take (k + 1 - n)) = _ from hfs2]; exact hrow⟩
  obtain rfl : k = n + d := by omega
  rw [show n + d - n = d by omega] at hrow hM8 e12
  have hMs := hrow.ints
  clear hrow
  generalize Avb [] ((ts.drop n).take d) = M at *
  have hm1' : (M.length : Int) <= places := hm1
  clear hm1
  have hl7 := hl6.le l67
  have hpb7 := l67 _ _ hpb
  refine Aql ?_
  (refine @unH _ ?_; refine zS y8_141 ?_; (repeat (refine inC ?_; intro hc)); try (refine inK ?_; intro K hK))
  refine Akf (fun a' H' => ∃ e, a' = act 231 e [] /\ e 3 = .pointer (some ⟨vb, 0, none⟩) /\ e 4 = .slice (some ⟨tb0, to0, none⟩) ts.length tc /\ e 5 = .slice (some ⟨pb, po, none⟩) PH.length lc /\ e 10 = .int .i64 (i : Nat) /\ e 11 = .int .i64 ((n + d : Nat) : Int) /\ H' = H7) ?_ ?_
  ·by_cases hlast : n + d < ts.length
   ·obtain ⟨tb1, to1, tq1, tc1, tf1, hta, htb1, hti1⟩ := hd7.truth.get (i := n + d) (x := ts.getD (n + d) 0) (by simp [List.getD, List.getElem?_eq_getElem hlast])
    cases hta
    obtain ⟨hm3, hm4⟩ := (show n + d < ts.length -> _ from hm2) hlast
    have hx2 := (show n + d < ts.length -> i + 1 < PH.length from hnxl) hlast
    clear hm2
    generalize ts.getD (n + d) 0 = t at *
    have hq := atK_spec (.wg Tryz.prog) H7 _ M t hMs (by omega)
    have hA0 : 0 <= atF M t ↔ t ∈ M := atF_nonneg
    have hA1 := atF_bnd M t
    generalize atF M t = A at *
    have hA : ¬ 0 <= A := fun h => hm4 (hA0.1 h)
    replace hq : Aqy _ := hq
    clear hA0 hm4
    have q1 : ¬ (places < (M.length : Int)) := by omega
    have q2 : (i : Int) + 1 < (PH.length : Int) := by omega
    have q3 : ¬ ((M.length : Int) < places) := by omega
    refine Aql ?_; refine Axo rfl ?_; intro K hK
    simp -implicitDefEqProofs (maxSteps := 3000000) (disch := first | omega | (simp only [qd] <;> omega)) only [xq, ↓xp, qc, Nat.reduceAdd, List.range, List.range.loop, fine, Nat.reduceEqDiff, ↓reduceIte, yielded, reduceCtorEq, Nat.reduceLT, Nat.reduceMul, Nat.reduceSub, one, Nat.reduceLeDiff, Aqa, y8_141, aq, ↓ap, qe0, qe1, qe2, ↓ld_O, ldO_some, ylK_undef, gateL_no, *, -hK]
    refine (show FnX _ _ _ _ _ _ from hq).runs.mono ?_
    rintro _ HQ ⟨rfl, hHQ⟩
    rw [hHQ]; clear hHQ HQ hq
    simp -implicitDefEqProofs (maxSteps := 3000000) (disch := first | omega | (simp only [qd] <;> omega)) only [xq, ↓xp, qc, Nat.reduceAdd, List.range, List.range.loop, fine, Nat.reduceEqDiff, ↓reduceIte, yielded, reduceCtorEq, Nat.reduceLT, Nat.reduceMul, Nat.reduceSub, one, Nat.reduceLeDiff, Aqa, y8_141, aq, ↓ap, qe0, qe1, qe2, ↓ld_O, ldO_some, ylK_undef, gateL_no, *, -hK]
    refine hK _ _ ?_; clear hK K
    (try simp only [nq, ↓reduceIte, Nat.reduceEqDiff])
    (refine @unH _ ?_; refine zA y8_141 ?_; (repeat (refine inC ?_; intro hc)); try (refine inK ?_; intro K hK))
    exact ⟨_, rfl, e3, e4, e5, e10, e11, trivial⟩
   ·have hx2 := (show ts.length <= n + d -> _ from hnx2) (by omega)
    have q1 : ¬ (places < (M.length : Int)) := by omega
    have q2 : ¬ ((i : Int) + 1 < (PH.length : Int)) := by omega
    refine Aql ?_; refine Axo rfl ?_; intro K hK
    simp -implicitDefEqProofs (maxSteps := 3000000) (disch := first | omega | (simp only [qd] <;> omega)) only [xq, ↓xp, qc, Nat.reduceAdd, List.range, List.range.loop, fine, Nat.reduceEqDiff, ↓reduceIte, yielded, reduceCtorEq, Nat.reduceLT, Nat.reduceMul, Nat.reduceSub, one, Nat.reduceLeDiff, Aqa, y8_141, aq, ↓ap, qe0, qe1, qe2, ↓ld_O, ldO_some, ylK_undef, gateL_no, *, -hK]
    refine hK _ _ ?_; clear hK K
    (try simp only [nq, ↓reduceIte, Nat.reduceEqDiff])
    (refine @unH _ ?_; refine zA y8_141 ?_; (repeat (refine inC ?_; intro hc)); try (refine inK ?_; intro K hK))
    exact ⟨_, rfl, e3, e4, e5, e10, e11, trivial⟩
  clear e3 e4 e5 e10 e11 e12 e13 hM8 hm1' hm2 hMs
  rintro a' H' ⟨e, rfl, e3, e4, e5, e10, e11, hHQ⟩
  rw [hHQ]; clear hHQ H'
  (refine @unH _ ?_; refine zA y8_141 ?_; (repeat (refine inC ?_; intro hc)); try (refine inK ?_; intro K hK))
  refine Aq9 (fun w a' H' => ∃ e, ∃ r : Nat, w = 3 - r /\ 1 <= r /\ r <= 3 /\ a' = act 231 e [] /\ e 3 = .pointer (some ⟨vb, 0, none⟩) /\ e 4 = .slice (some ⟨tb0, to0, none⟩) ts.length tc /\ e 5 = .slice (some ⟨pb, po, none⟩) PH.length lc /\ e 10 = .int .i64 (i : Nat) /\ e 11 = .int .i64 ((n + d : Nat) : Int) /\ e 14 = .int .i64 (r : Nat) /\ H6.le H') (n := 2) ?_ ?_
  ·exact ⟨_, 1, by omega, by omega, by omega, rfl, e3, e4, e5, e10, e11, rfl, l67⟩
  clear e3 e4 e5 e10 e11 l67 hd7 vvb7 hl7 hpb7
  rintro w a' H7 ⟨e, r, rfl, hr1, hr3, rfl, e3, e4, e5, e10, e11, e14, l67⟩
  have hd7 := hd6.le l67
  have vvb7 := l67 _ _ vvb6
  have hpb7 := l67 _ _ hpb
  by_cases hr2 : r <= 2
  ·have hr12 : (r : Int) = 1 ∨ (r : Int) = 2 := by omega
   have hfd2 := (show ∀ r : Int, (r = 1 ∨ r = 2) -> _ from hfd1) r hr12
   have hfm2 := (show ∀ (r : Int) (i j : Nat), i <= j -> _ from hfm) r n (n + d) (by omega)
   have hf9 := (show ∀ (r : Int) i, i <= ts.length -> _ from hf8) r (n + d) hnd
   replace hfd2 : Aqy _ := hfd2
   replace hfm2 : Aqy _ := hfm2
   replace hf9 : Aqy _ := hf9
   have hnx := htok.1
   have hxl : xss.length <= 8 := hd6.few
   have htc' : n + d <= tc := by omega
   have hcc' : n + d <= cc := by omega
   (refine @unH _ ?_; refine zA y8_141 ?_; (repeat (refine inC ?_; intro hc)); try (refine inK ?_; intro K hK))
   refine Avi (Q := only fun a' H' => ∃ e' xb yb, a' = act 231 e' [] /\ e' 3 = .pointer (some ⟨vb, 0, none⟩) /\ e' 4 = .slice (some ⟨tb0, to0, none⟩) ts.length tc /\ e' 5 = .slice (some ⟨pb, po, none⟩) PH.length lc /\ e' 10 = .int .i64 (i : Nat) /\ e' 11 = .int .i64 ((n + d : Nat) : Int) /\ e' 14 = .int .i64 (r : Nat) /\ e' 15 = .pointer (some ⟨xb, 0, none⟩) /\ e' 16 = .pointer (some ⟨yb, 0, none⟩) /\ xb ≠ yb /\
    H' xb = some (true, .cells #[.int .i64 places, .int .i64 pieces, .slice va start.length vc, .slice (some ⟨cb0, co0, none⟩) xss.length cc] 25 (0, 0)) /\ H' yb = some (true, .cells #[.int .i64 places, .int .i64 pieces, .slice va start.length vc, .slice (some ⟨cb0, co0, none⟩) xss.length cc] 25 (0, 0)) /\ H7.le H' /\ H7 xb = none /\ H7 yb = none) ?_ ?_
   ·refine Aj0 (fun HX => H7.le HX) [] (.take 0 (.take 1 (.two 2 (.one 3 (.one 4 (.one 5 .nil))) 3 (.one 2 (.one 4 (.one 5 .nil)))))) (by kernel_rfl) (by kernel_rfl) (by decide) (by kernel_rfl) ?_; intro K hK
    have hSx := Hp.le_refl H7
    (iterate 2 (apply Axa rfl rfl rfl ‹_›; (focus (intro HX hHX; simp -implicitDefEqProofs (disch := first | omega | (simp only [qd] <;> omega)) only [xq, ↓xp, qc, Nat.reduceAdd, List.range, List.range.loop, fine, Nat.reduceEqDiff, ↓reduceIte, yielded, reduceCtorEq, Nat.reduceLT, Nat.reduceMul, Nat.reduceSub, one, Nat.reduceLeDiff, Aqa, y8_141, aq, ↓ap, qe0, qe1, qe2, *, -hK, Aq1, hHX _ _ vvb7, hHX _ _ hpb7] <;> (first | exact rfl | exact ⟨rfl, rfl⟩ | exact ⟨rfl, trivial⟩))); simp -implicitDefEqProofs (disch := first | omega | (simp only [qd] <;> omega)) only [Aqn, Aqc]))
    refine planV_two ?_ ?_
    ·(refine @unH _ ?_; refine zX y8_141 ?_)
     intro xb hxb
     have l1 := Hp.le_set (o := .cells #[.int .i64 0, .int .i64 0, .slice none 0 0, .slice none 0 0] 25 (0, 0)) hxb
     have v1 : (H7.set xb (.cells #[.int .i64 0, .int .i64 0, .slice none 0 0, .slice none 0 0] 25 (0, 0))) xb = _ := Aqw
     have n1 := Ax8 vvb7 hxb
     have h7xb := hxb
     generalize H7.set xb _ = H8 at l1 v1 ⊢
     refine ⟨.inr (by intros; first | exact l1 | trivial), Axf ?_⟩
     (refine @unH _ ?_; refine zX y8_141 ?_)
     intro yb hyb
     have l2 := Hp.le_trans l1 (Hp.le_set (o := .cells #[.int .i64 0, .int .i64 0, .slice none 0 0, .slice none 0 0] 25 (0, 0)) hyb)
     have v2 : (H8.set yb (.cells #[.int .i64 0, .int .i64 0, .slice none 0 0, .slice none 0 0] 25 (0, 0))) yb = _ := Aqw
     have h7yb := Hp.le_none l1 hyb
     have nab : xb ≠ yb := fun e => by rw [<- e, v1] at hyb; cases hyb
     have v1' : (H8.set yb (.cells #[.int .i64 0, .int .i64 0, .slice none 0 0, .slice none 0 0] 25 (0, 0))) xb = _ := (Aqp nab).trans v1
     generalize H8.set yb _ = H9 at l2 v2 v1' ⊢
     clear l1 v1 hyb
     refine ⟨.inr (by intros; first | exact l2 | trivial), Axf ?_⟩
     (refine @unH _ ?_; refine zX y8_141 ?_)
     have nyx : yb ≠ xb := fun e => nab e.symm
     generalize hG : Hp.set H9 xb _ = HA
     have vxA := Aqf hG
     have vyA : HA yb = _ := (congrFun hG yb).symm.trans ((Aqp nyx).trans v2)
     have l3 : H7.le HA := by rw [<- hG]; exact ((Lex.of l2 : Lex none H7 H9).own h7xb).toLe
     clear hG
     refine ⟨.inr (by intros; first | exact l3 | trivial), Axf ?_⟩
     (refine @unH _ ?_; refine zX y8_141 ?_)
     refine ⟨.inr (by intros; first | exact ((Lex.of l3 : Lex none H7 HA).own h7yb).toLe | trivial), Ajv (hK _ _ ?_)⟩
     have nxy : xb ≠ yb := nab
     refine ⟨_, xb, yb, rfl, e3, e4, e5, e10, e11, e14, rfl, rfl, nxy, (Aqp nxy).trans vxA, Aqw, ((Lex.of l3 : Lex none H7 HA).own h7yb).toLe, h7xb, h7yb⟩
    ·(refine @unH _ ?_; refine zX y8_141 ?_)
     intro yb hyb
     have l1 := Hp.le_set (o := .cells #[.int .i64 0, .int .i64 0, .slice none 0 0, .slice none 0 0] 25 (0, 0)) hyb
     have v1 : (H7.set yb (.cells #[.int .i64 0, .int .i64 0, .slice none 0 0, .slice none 0 0] 25 (0, 0))) yb = _ := Aqw
     have n1 := Ax8 vvb7 hyb
     have h7yb := hyb
     generalize H7.set yb _ = H8 at l1 v1 ⊢
     refine ⟨.inr (by intros; first | exact l1 | trivial), Axf ?_⟩
     (refine @unH _ ?_; refine zX y8_141 ?_)
     intro xb hxb
     have l2 := Hp.le_trans l1 (Hp.le_set (o := .cells #[.int .i64 0, .int .i64 0, .slice none 0 0, .slice none 0 0] 25 (0, 0)) hxb)
     have v2 : (H8.set xb (.cells #[.int .i64 0, .int .i64 0, .slice none 0 0, .slice none 0 0] 25 (0, 0))) xb = _ := Aqw
     have h7xb := Hp.le_none l1 hxb
     have nab : yb ≠ xb := fun e => by rw [<- e, v1] at hxb; cases hxb
     have v1' : (H8.set xb (.cells #[.int .i64 0, .int .i64 0, .slice none 0 0, .slice none 0 0] 25 (0, 0))) yb = _ := (Aqp nab).trans v1
     generalize H8.set xb _ = H9 at l2 v2 v1' ⊢
     clear l1 v1 hxb
     refine ⟨.inr (by intros; first | exact l2 | trivial), Axf ?_⟩
     (refine @unH _ ?_; refine zX y8_141 ?_)
     have nyx : yb ≠ xb := nab
     generalize hG : Hp.set H9 xb _ = HA
     have vxA := Aqf hG
     have vyA : HA yb = _ := (congrFun hG yb).symm.trans ((Aqp nyx).trans v1')
     have l3 : H7.le HA := by rw [<- hG]; exact ((Lex.of l2 : Lex none H7 H9).own h7xb).toLe
     clear hG
     refine ⟨.inr (by intros; first | exact l3 | trivial), Axf ?_⟩
     (refine @unH _ ?_; refine zX y8_141 ?_)
     refine ⟨.inr (by intros; first | exact ((Lex.of l3 : Lex none H7 HA).own h7yb).toLe | trivial), Ajv (hK _ _ ?_)⟩
     have nxy : xb ≠ yb := fun e => nab e.symm
     refine ⟨_, xb, yb, rfl, e3, e4, e5, e10, e11, e14, rfl, rfl, nxy, (Aqp nxy).trans vxA, Aqw, ((Lex.of l3 : Lex none H7 HA).own h7yb).toLe, h7xb, h7yb⟩
   intro ex a' H' qq
   cases ex with
   | normal =>
    obtain ⟨e', xb, yb, rfl, e3', e4', e5', e10', e11', e14', e15', e16', nxy, vxb, vyb, l78, h7x, h7y⟩ := qq
    rename_i H8
    have vvb8 := l78 _ _ vvb7
    have hpb8 := l78 _ _ hpb7
    have nvx : vb ≠ xb := Ax8 vvb7 h7x
    have nvy : vb ≠ yb := Ax8 vvb7 h7y
    have npx : pb ≠ xb := Ax8 hpb7 h7x
    have npy : pb ≠ yb := Ax8 hpb7 h7y
    clear e3 e4 e5 e10 e11 e14
    (try simp only [nq, ↓reduceIte, Nat.reduceEqDiff])
    (refine @unH _ ?_; refine zA y8_141 ?_; (repeat (refine inC ?_; intro hc)); try (refine inK ?_; intro K hK))
    refine Aj0 (fun HX => HX vb = some (true, .cells #[.int .i64 places, .int .i64 pieces, .slice va start.length vc, .slice (some ⟨cb0, co0, none⟩) xss.length cc] 25 (0, 0)) /\ HX pb = some (pq, .cells pc 3 pfr)) [] (.free 0 (.take 1 (.free 2 (.free 3 (.free 4 (.take 5 (.free 6 (.free 7 (.take 8 (.free 9 (.free 10 (.free 11 (.one 12 (.free 13 (.one 14 .nil))))))))))))))) (by kernel_rfl) (by kernel_rfl) (by decide) (by kernel_rfl) ?_; intro K hK
    have hSx := And.intro vvb8 hpb8
    (apply Ax4 rfl rfl rfl; (focus (intro HX; simp -implicitDefEqProofs (disch := first | omega | (simp only [qd] <;> omega)) only [xq, ↓xp, qc, Nat.reduceAdd, List.range, List.range.loop, fine, Nat.reduceEqDiff, ↓reduceIte, yielded, reduceCtorEq, Nat.reduceLT, Nat.reduceMul, Nat.reduceSub, one, Nat.reduceLeDiff, Aqa, y8_141, aq, ↓ap, qe0, qe1, qe2, *, -hK, Aq1] <;> (first | exact rfl | exact ⟨rfl, rfl⟩ | exact ⟨rfl, trivial⟩))); simp -implicitDefEqProofs (disch := first | omega | (simp only [qd] <;> omega)) only [Aqn, Aqc])
    (apply Axa rfl rfl rfl ‹_›; (focus (intro HX hHX; simp -implicitDefEqProofs (disch := first | omega | (simp only [qd] <;> omega)) only [xq, ↓xp, qc, Nat.reduceAdd, List.range, List.range.loop, fine, Nat.reduceEqDiff, ↓reduceIte, yielded, reduceCtorEq, Nat.reduceLT, Nat.reduceMul, Nat.reduceSub, one, Nat.reduceLeDiff, Aqa, y8_141, aq, ↓ap, qe0, qe1, qe2, *, -hK, Aq1, hHX.1, hHX.2] <;> (first | exact rfl | exact ⟨rfl, rfl⟩ | exact ⟨rfl, trivial⟩))); simp -implicitDefEqProofs (disch := first | omega | (simp only [qd] <;> omega)) only [Aqn, Aqc])
    (iterate 3 (apply Ax4 rfl rfl rfl; (focus (intro HX; simp -implicitDefEqProofs (disch := first | omega | (simp only [qd] <;> omega)) only [xq, ↓xp, qc, Nat.reduceAdd, List.range, List.range.loop, fine, Nat.reduceEqDiff, ↓reduceIte, yielded, reduceCtorEq, Nat.reduceLT, Nat.reduceMul, Nat.reduceSub, one, Nat.reduceLeDiff, Aqa, y8_141, aq, ↓ap, qe0, qe1, qe2, *, -hK, Aq1] <;> (first | exact rfl | exact ⟨rfl, rfl⟩ | exact ⟨rfl, trivial⟩))); simp -implicitDefEqProofs (disch := first | omega | (simp only [qd] <;> omega)) only [Aqn, Aqc]))
    (apply Axa rfl rfl rfl ‹_›; (focus (intro HX hHX; simp -implicitDefEqProofs (disch := first | omega | (simp only [qd] <;> omega)) only [xq, ↓xp, qc, Nat.reduceAdd, List.range, List.range.loop, fine, Nat.reduceEqDiff, ↓reduceIte, yielded, reduceCtorEq, Nat.reduceLT, Nat.reduceMul, Nat.reduceSub, one, Nat.reduceLeDiff, Aqa, y8_141, aq, ↓ap, qe0, qe1, qe2, *, -hK, Aq1, hHX.1, hHX.2] <;> (first | exact rfl | exact ⟨rfl, rfl⟩ | exact ⟨rfl, trivial⟩))); simp -implicitDefEqProofs (disch := first | omega | (simp only [qd] <;> omega)) only [Aqn, Aqc])
    (iterate 2 (apply Ax4 rfl rfl rfl; (focus (intro HX; simp -implicitDefEqProofs (disch := first | omega | (simp only [qd] <;> omega)) only [xq, ↓xp, qc, Nat.reduceAdd, List.range, List.range.loop, fine, Nat.reduceEqDiff, ↓reduceIte, yielded, reduceCtorEq, Nat.reduceLT, Nat.reduceMul, Nat.reduceSub, one, Nat.reduceLeDiff, Aqa, y8_141, aq, ↓ap, qe0, qe1, qe2, *, -hK, Aq1] <;> (first | exact rfl | exact ⟨rfl, rfl⟩ | exact ⟨rfl, trivial⟩))); simp -implicitDefEqProofs (disch := first | omega | (simp only [qd] <;> omega)) only [Aqn, Aqc]))
    (apply Axa rfl rfl rfl ‹_›; (focus (intro HX hHX; simp -implicitDefEqProofs (disch := first | omega | (simp only [qd] <;> omega)) only [xq, ↓xp, qc, Nat.reduceAdd, List.range, List.range.loop, fine, Nat.reduceEqDiff, ↓reduceIte, yielded, reduceCtorEq, Nat.reduceLT, Nat.reduceMul, Nat.reduceSub, one, Nat.reduceLeDiff, Aqa, y8_141, aq, ↓ap, qe0, qe1, qe2, *, -hK, Aq1, hHX.1, hHX.2] <;> (first | exact rfl | exact ⟨rfl, rfl⟩ | exact ⟨rfl, trivial⟩))); simp -implicitDefEqProofs (disch := first | omega | (simp only [qd] <;> omega)) only [Aqn, Aqc])
    (iterate 3 (apply Ax4 rfl rfl rfl; (focus (intro HX; simp -implicitDefEqProofs (disch := first | omega | (simp only [qd] <;> omega)) only [xq, ↓xp, qc, Nat.reduceAdd, List.range, List.range.loop, fine, Nat.reduceEqDiff, ↓reduceIte, yielded, reduceCtorEq, Nat.reduceLT, Nat.reduceMul, Nat.reduceSub, one, Nat.reduceLeDiff, Aqa, y8_141, aq, ↓ap, qe0, qe1, qe2, *, -hK, Aq1] <;> (first | exact rfl | exact ⟨rfl, rfl⟩ | exact ⟨rfl, trivial⟩))); simp -implicitDefEqProofs (disch := first | omega | (simp only [qd] <;> omega)) only [Aqn, Aqc]))
    refine Axf ?_
    (refine @unH _ ?_; refine zX y8_141 ?_)
    generalize hG : Hp.set H' xb _ = HA
    have vxA := Aqf hG
    have vyA : HA yb = _ := (congrFun hG yb).symm.trans ((Aqp (fun e => nxy e.symm)).trans vyb)
    have l7A : H7.le HA := by rw [<- hG]; exact ((Lex.of l78 : Lex none H7 H').own h7x).toLe
    have vvA : HA vb = _ := (congrFun hG vb).symm.trans ((Aqp nvx).trans vvb8)
    have hpA : HA pb = _ := (congrFun hG pb).symm.trans ((Aqp npx).trans hpb8)
    clear hG hSx vvb8 hpb8 vxb vyb l78
    refine ⟨.inr (by intros; first | exact ⟨vvA, hpA⟩ | trivial), ?_⟩
    (apply Ax4 rfl rfl rfl; (focus (intro HX; simp -implicitDefEqProofs (disch := first | omega | (simp only [qd] <;> omega)) only [xq, ↓xp, qc, Nat.reduceAdd, List.range, List.range.loop, fine, Nat.reduceEqDiff, ↓reduceIte, yielded, reduceCtorEq, Nat.reduceLT, Nat.reduceMul, Nat.reduceSub, one, Nat.reduceLeDiff, Aqa, y8_141, aq, ↓ap, qe0, qe1, qe2, *, -hK, Aq1] <;> (first | exact rfl | exact ⟨rfl, rfl⟩ | exact ⟨rfl, trivial⟩))); simp -implicitDefEqProofs (disch := first | omega | (simp only [qd] <;> omega)) only [Aqn, Aqc])
    refine Axf ?_
    (refine @unH _ ?_; refine zX y8_141 ?_)
    generalize hG : Hp.set HA yb _ = HB
    have vyB := Aqf hG
    have vxB : HB xb = _ := (congrFun hG xb).symm.trans ((Aqp nxy).trans vxA)
    have l7B : H7.le HB := by rw [<- hG]; exact ((Lex.of l7A : Lex none H7 HA).own h7y).toLe
    have vvB' : HB vb = _ := (congrFun hG vb).symm.trans ((Aqp nvy).trans vvA)
    have hpB' : HB pb = _ := (congrFun hG pb).symm.trans ((Aqp npy).trans hpA)
    clear hG vxA vyA l7A nvx nvy npx npy h7x h7y vvA hpA
    have hdB := hd7.le l7B
    have hpB := l7B _ _ hpb7
    have vvB := l7B _ _ vvb7
    refine ⟨.inr (by intros; first | exact ⟨vvB', hpB'⟩ | trivial), Ajv (hK _ _ ?_)⟩
    clear hK K vvB' hpB'
    (try simp only [nq, ↓reduceIte, Nat.reduceEqDiff])
    (refine @unH _ ?_; refine zA y8_141 ?_; (repeat (refine inC ?_; intro hc)); try (refine inK ?_; intro K hK))
    refine Aj0 (fun HX => HB.le HX) [] (.take 0 (.free 1 (.free 2 (.free 3 (.free 4 (.take 5 (.free 6 (.free 7 (.one 8 (.free 9 (.free 10 (.free 11 (.free 12 (.free 13 (.free 14 (.free 15 .nil)))))))))))))))) (by kernel_rfl) (by kernel_rfl) (by decide) (by kernel_rfl) ?_; intro K hK
    have hSx := Hp.le_refl HB
    (apply Axa rfl rfl rfl ‹_›; (focus (intro HX hHX; simp -implicitDefEqProofs (disch := first | omega | (simp only [qd] <;> omega)) only [xq, ↓xp, qc, Nat.reduceAdd, List.range, List.range.loop, fine, Nat.reduceEqDiff, ↓reduceIte, yielded, reduceCtorEq, Nat.reduceLT, Nat.reduceMul, Nat.reduceSub, one, Nat.reduceLeDiff, Aqa, y8_141, aq, ↓ap, qe0, qe1, qe2, *, -hK, Aq1, hHX _ _ vxB, hHX _ _ hpB] <;> (first | exact rfl | exact ⟨rfl, rfl⟩ | exact ⟨rfl, trivial⟩))); simp -implicitDefEqProofs (disch := first | omega | (simp only [qd] <;> omega)) only [Aqn, Aqc])
    (iterate 4 (apply Ax4 rfl rfl rfl; (focus (intro HX; simp -implicitDefEqProofs (disch := first | omega | (simp only [qd] <;> omega)) only [xq, ↓xp, qc, Nat.reduceAdd, List.range, List.range.loop, fine, Nat.reduceEqDiff, ↓reduceIte, yielded, reduceCtorEq, Nat.reduceLT, Nat.reduceMul, Nat.reduceSub, one, Nat.reduceLeDiff, Aqa, y8_141, aq, ↓ap, qe0, qe1, qe2, *, -hK, Aq1] <;> (first | exact rfl | exact ⟨rfl, rfl⟩ | exact ⟨rfl, trivial⟩))); simp -implicitDefEqProofs (disch := first | omega | (simp only [qd] <;> omega)) only [Aqn, Aqc]))
    (apply Axa rfl rfl rfl ‹_›; (focus (intro HX hHX; simp -implicitDefEqProofs (disch := first | omega | (simp only [qd] <;> omega)) only [xq, ↓xp, qc, Nat.reduceAdd, List.range, List.range.loop, fine, Nat.reduceEqDiff, ↓reduceIte, yielded, reduceCtorEq, Nat.reduceLT, Nat.reduceMul, Nat.reduceSub, one, Nat.reduceLeDiff, Aqa, y8_141, aq, ↓ap, qe0, qe1, qe2, *, -hK, Aq1, hHX _ _ vxB, hHX _ _ hpB] <;> (first | exact rfl | exact ⟨rfl, rfl⟩ | exact ⟨rfl, trivial⟩))); simp -implicitDefEqProofs (disch := first | omega | (simp only [qd] <;> omega)) only [Aqn, Aqc])
    (iterate 2 (apply Ax4 rfl rfl rfl; (focus (intro HX; simp -implicitDefEqProofs (disch := first | omega | (simp only [qd] <;> omega)) only [xq, ↓xp, qc, Nat.reduceAdd, List.range, List.range.loop, fine, Nat.reduceEqDiff, ↓reduceIte, yielded, reduceCtorEq, Nat.reduceLT, Nat.reduceMul, Nat.reduceSub, one, Nat.reduceLeDiff, Aqa, y8_141, aq, ↓ap, qe0, qe1, qe2, *, -hK, Aq1] <;> (first | exact rfl | exact ⟨rfl, rfl⟩ | exact ⟨rfl, trivial⟩))); simp -implicitDefEqProofs (disch := first | omega | (simp only [qd] <;> omega)) only [Aqn, Aqc]))
    refine Axf ?_
    (refine @unH _ ?_; refine zX y8_141 ?_)
    have hr0 : (r : Int) ≠ 3 := by omega
    have hln : (ts.take n).length = n := by rw [List.length_take]; omega
    have hld : (ts.take (n + d)).length = n + d := by rw [List.length_take]; omega
    have hFA : (rrun places r (ts.take n) (rs0 start) (ts.take n).length).f = (rrun places r ts (rs0 start) n).f := by rw [hln, Cv9 hr0 n (Nat.le_refl _) (by omega)]
    have hFB : (rrun places r (ts.take (n + d)) (rs0 start) (ts.take (n + d)).length).f = (rrun places r ts (rs0 start) (n + d)).f := by rw [hld, Cv9 hr0 (n + d) (Nat.le_refl _) (by omega)]
    clear hln hld
    refine (Cwi _ HB places pieces _ _ _ start (xss.take n) (ts.take n) (hdB.hi (k := n) (by omega)) r (by omega) (by omega)).runs.mono ?_
    rintro _ HC ⟨bv, rfl, lBC, hbl⟩
    rw [hFA]
    clear hFA hbl
    have hdC := hdB.le lBC
    have vyC := lBC _ _ vyB
    have vvC := lBC _ _ vvB
    have hpC := lBC _ _ hpB
    have l7C := Hp.le_trans l7B lBC
    (refine @unH _ ?_; refine zX y8_141 ?_)
    refine ⟨.inr (by intros; first | exact lBC | trivial), ?_⟩
    clear hdB vyB vxB vvB hpB l7B hSx lBC
    (iterate 7 (apply Ax4 rfl rfl rfl; (focus (intro HX; simp -implicitDefEqProofs (disch := first | omega | (simp only [qd] <;> omega)) only [xq, ↓xp, qc, Nat.reduceAdd, List.range, List.range.loop, fine, Nat.reduceEqDiff, ↓reduceIte, yielded, reduceCtorEq, Nat.reduceLT, Nat.reduceMul, Nat.reduceSub, one, Nat.reduceLeDiff, Aqa, y8_141, aq, ↓ap, qe0, qe1, qe2, *, -hK, Aq1] <;> (first | exact rfl | exact ⟨rfl, rfl⟩ | exact ⟨rfl, trivial⟩))); simp -implicitDefEqProofs (disch := first | omega | (simp only [qd] <;> omega)) only [Aqn, Aqc]))
    refine Ajv (hK _ _ ?_); clear hK K
    (try simp only [nq, ↓reduceIte, Nat.reduceEqDiff])
    (refine @unH _ ?_; refine zA y8_141 ?_; (repeat (refine inC ?_; intro hc)); try (refine inK ?_; intro K hK))
    refine Aj0 (fun HX => HC.le HX) [] (.take 0 (.free 1 (.free 2 (.free 3 (.free 4 (.one 5 (.free 6 (.free 7 (.free 8 (.free 9 (.free 10 (.free 11 (.free 12 .nil))))))))))))) (by kernel_rfl) (by kernel_rfl) (by decide) (by kernel_rfl) ?_; intro K hK
    have hSx := Hp.le_refl HC
    (apply Axa rfl rfl rfl ‹_›; (focus (intro HX hHX; simp -implicitDefEqProofs (disch := first | omega | (simp only [qd] <;> omega)) only [xq, ↓xp, qc, Nat.reduceAdd, List.range, List.range.loop, fine, Nat.reduceEqDiff, ↓reduceIte, yielded, reduceCtorEq, Nat.reduceLT, Nat.reduceMul, Nat.reduceSub, one, Nat.reduceLeDiff, Aqa, y8_141, aq, ↓ap, qe0, qe1, qe2, *, -hK, Aq1, hHX _ _ vyC, hHX _ _ hpC] <;> (first | exact rfl | exact ⟨rfl, rfl⟩ | exact ⟨rfl, trivial⟩))); simp -implicitDefEqProofs (disch := first | omega | (simp only [qd] <;> omega)) only [Aqn, Aqc])
    (iterate 4 (apply Ax4 rfl rfl rfl; (focus (intro HX; simp -implicitDefEqProofs (disch := first | omega | (simp only [qd] <;> omega)) only [xq, ↓xp, qc, Nat.reduceAdd, List.range, List.range.loop, fine, Nat.reduceEqDiff, ↓reduceIte, yielded, reduceCtorEq, Nat.reduceLT, Nat.reduceMul, Nat.reduceSub, one, Nat.reduceLeDiff, Aqa, y8_141, aq, ↓ap, qe0, qe1, qe2, *, -hK, Aq1] <;> (first | exact rfl | exact ⟨rfl, rfl⟩ | exact ⟨rfl, trivial⟩))); simp -implicitDefEqProofs (disch := first | omega | (simp only [qd] <;> omega)) only [Aqn, Aqc]))
    refine Axf ?_
    (refine @unH _ ?_; refine zX y8_141 ?_)
    refine (Cwi _ HC places pieces _ _ _ start (xss.take (n + d)) (ts.take (n + d)) (hdC.hi (k := n + d) hnd) r (by omega) (by omega)).runs.mono ?_
    rintro _ HD ⟨cv, rfl, lCD, hbl⟩
    rw [hFB]
    clear hFB hbl
    have vvD := lCD _ _ vvC
    have l7D := Hp.le_trans l7C lCD
    (refine @unH _ ?_; refine zX y8_141 ?_)
    refine ⟨.inr (by intros; first | exact lCD | trivial), ?_⟩
    clear hdC vyC vvC hpC l7C hSx lCD
    (iterate 7 (apply Ax4 rfl rfl rfl; (focus (intro HX; simp -implicitDefEqProofs (disch := first | omega | (simp only [qd] <;> omega)) only [xq, ↓xp, qc, Nat.reduceAdd, List.range, List.range.loop, fine, Nat.reduceEqDiff, ↓reduceIte, yielded, reduceCtorEq, Nat.reduceLT, Nat.reduceMul, Nat.reduceSub, one, Nat.reduceLeDiff, Aqa, y8_141, aq, ↓ap, qe0, qe1, qe2, *, -hK, Aq1] <;> (first | exact rfl | exact ⟨rfl, rfl⟩ | exact ⟨rfl, trivial⟩))); simp -implicitDefEqProofs (disch := first | omega | (simp only [qd] <;> omega)) only [Aqn, Aqc]))
    have hfd3 : ((rrun places r ts (rs0 start) (n + d)).f : Int) <= (rrun places r ts (rs0 start) n).f + places := hfd2
    have hfm3 : (rrun places r ts (rs0 start) n).f <= (rrun places r ts (rs0 start) (n + d)).f := hfm2
    have hf93 : (rrun places r ts (rs0 start) (n + d)).f <= 8 := hf9
    clear hfd2 hfm2 hf9
    generalize (rrun places r ts (rs0 start) (n + d)).f = FB at *
    generalize (rrun places r ts (rs0 start) n).f = FA at *
    refine Ajv (hK _ _ ?_); clear hK K
    (try simp only [nq, ↓reduceIte, Nat.reduceEqDiff])
    refine Av4 (fun e => e 3 = .pointer (some ⟨vb, 0, none⟩) /\ e 4 = .slice (some ⟨tb0, to0, none⟩) ts.length tc /\ e 5 = .slice (some ⟨pb, po, none⟩) PH.length lc /\ e 10 = .int .i64 (i : Nat) /\ e 11 = .int .i64 ((n + d : Nat) : Int) /\ e 14 = .int .i64 (r : Nat) /\ e 18 = .int .i64 (FA : Nat) /\ e 19 = .int .i64 0 /\ e 21 = .int .i64 (FB : Nat) /\ e 22 = .int .i64 0) ⟨e3', e4', e5', e10', e11', e14', rfl, rfl, rfl, rfl⟩ ?_
    clear e3' e4' e5' e10' e11' e14' e15' e16'
    rintro e ⟨e3, e4, e5, e10, e11, e14, e18, e19, e21, e22⟩
    have q1 : ¬ ((FB : Int) - (FA : Int) < 0) := by omega
    have q2 : ¬ (places < (FB : Int) - (FA : Int)) := by omega
    refine Aql ?_
    (refine Axo rfl ?_; intro K hK; simp -implicitDefEqProofs (maxSteps := 3000000) (disch := first | omega | (simp only [qd] <;> omega)) only [xq, ↓xp, qc, Nat.reduceAdd, List.range, List.range.loop, fine, Nat.reduceEqDiff, ↓reduceIte, yielded, reduceCtorEq, Nat.reduceLT, Nat.reduceMul, Nat.reduceSub, one, Nat.reduceLeDiff, Aqa, y8_141, aq, ↓ap, qe0, qe1, qe2, ↓ld_O, ldO_some, ylK_undef, gateL_no, *, -hK]; refine hK _ _ ?_; clear hK K; (try simp only [nq, ↓reduceIte, Nat.reduceEqDiff]))
    (refine @unH _ ?_; refine zA y8_141 ?_; (repeat (refine inC ?_; intro hc)); try (refine inK ?_; intro K hK))
    exact ⟨3 - (r + 1), by omega, _, r + 1, rfl, by omega, by omega, rfl, e3, e4, e5, e10, e11, rfl, Hp.le_trans l67 l7D⟩
   | _ => exact qq.elim
  ·obtain rfl : r = 3 := by omega
   (refine @unH _ ?_; refine zA y8_141 ?_; (repeat (refine inC ?_; intro hc)); try (refine inK ?_; intro K hK))
   exact ⟨PH.length - (i + 1), by omega, _, i + 1, rfl, hlt, rfl, e3, e4, e5, rfl, Hp.le_trans l56 l67⟩
 ·obtain rfl : i = PH.length := by omega
  (refine @unH _ ?_; refine zA y8_141 ?_; (repeat (refine inC ?_; intro hc)); try (refine inK ?_; intro K hK))
  refine (kept_spec H6).runs.mono ?_
  rintro _ H7 ⟨rfl, lH7⟩
  ((try (refine @unH _ ?_; refine zX y8_141 ?_)); (try (refine hK _ _ ?_; clear hK K; (try simp only [nq, ↓reduceIte, Nat.reduceEqDiff]))); refine @unH _ ?_; refine zA y8_141 ?_; (repeat (refine inC ?_; intro hc)); try (refine inK ?_; intro K hK))
  (refine Ax7 ?_; (try simp only [nq, ↓reduceIte, Nat.reduceEqDiff]); rw [Axt, Ak1 Tryz.results8 (by decide)]; simp only [Aqr, Nat.reduceEqDiff, ↓reduceIte])
end Go.Proofs.YtgniilnljeedlaaGreatDoor
end
section
namespace Go.Proofs.YtgniilnljeedlaaGreatDoor
open Go Go.X Go.ChangeShapes Go.WideShapes Go.RowKit
set_option maxRecDepth 100000 in
theorem law_lifted (os : Os) (started : os.Started) (H : Type) (enc : TypeId × Value -> H) :
  ReturnsInLeavingWide {} Tryz.checked os 8 .any (fun w args => (Rows.vaultPhasesSpec.pre enc Tryz.prog Tryz.f8 [] false w args /\ laidMetH Tryz.prog [("errors.errorType", Rows.laid_errors_errorType)] w) /\ sizedMet enc Tryz.prog Tryz.f8 (OpenSpec.ofChange Rows.vaultPhasesSpec) false w args)
   (Rows.vaultPhasesSpec.post enc Tryz.prog Tryz.f8 false true false false) := by
 refine leaving_of_change_and (C := Tryz.checked) (X := fun w _ => laidMetH Tryz.prog [("errors.errorType", Rows.laid_errors_errorType)] w) (fun _ _ _ hh h => h.of_heap hh) ownK started Tryz.func8
  (ChangeSpec.witness_at (enc := enc) (C := Tryz.checked) (os := os) (X := fun w _ => laidMetH Tryz.prog [("errors.errorType", Rows.laid_errors_errorType)] w) false (laidWorld os) #[.slice none 0 0] 8 rfl (by kernel_rfl) (by kernel_rfl) (by kernel_rfl) (by kernel_rfl) (by kernel_rfl) (laidWorld_met os _)) ?_
 intro W base args ds gs before hval0 hW hL
 have hval : ∀ (j : Nat) t v, Tryz.f8.params[j]? = some t -> args[j]? = some v -> Value.okWide Tryz.prog W .any base t v := hval0
 have hW' := hW
 obtain ⟨p, q, hA0, hV0, rfl, hfz, hnd⟩ := hW
 have hA : DataW.TrodAll enc Tryz.prog W 0 (fun _ => true) true Tryz.f8.params.toList args.toList ds p := hA0
 have hV : DataW.TrodVars enc Tryz.prog W (fun _ => true) [] gs q := hV0
 rw [Tryz.params8] at hA hval
 obtain ⟨v0, d0, rfl, rfl, h0⟩ := trodAll_one hA
 obtain ⟨a0, len, cap, rfl⟩ := okWide_slice Tryz.underlying22 (hval 0 22 v0 rfl rfl)
 have h0k := h0
 obtain ⟨fuel, hf⟩ := h0
 obtain ⟨rfl, rfl⟩ : gs = [] /\ q = [] := by
  cases gs with
  | nil => exact ⟨rfl, hV⟩
  | cons g r => exact absurd hV (by intro h; cases h)
 have e1 : Rows.vaultPhasesSpec.fn H ([d0] ++ []) = { results := [.lit (.bool true)], args := [d0] } := by simp [Rows.vaultPhasesSpec]
 have hcells : ∀ i : Nat, i < len -> ∃ sb so c e fr x, a0 = some ⟨sb, so, none⟩ /\ Bqs W sb = some (false, .cells c e fr) /\ c[so + i]? = some (.int .i64 x) := by
  rcases open_ints Tryz.underlying22 Tryz.underlying3 cellsK hf with ⟨hcs, _⟩ | ⟨a, len', cap', zs, hcs, _, hl, hm, hz, hx, hcell, hwz⟩
  ·simp [Value.cells] at hcs
   intro i hi
   omega
  ·simp [Value.cells] at hcs
   obtain ⟨rfl, rfl, rfl⟩ := hcs
   intro i hi
   simp only [if_true] at hz
   have hc := hcell i (by omega)
   obtain ⟨b, off, spot⟩ := a
   have hspot : spot = none := by simpa [Addr.add] using World.cell?_spot (hcell 0 (by omega))
   subst hspot
   rw [add_plain] at hc
   unfold World.cell? at hc
   split at hc
   ·rename_i c e fr hb
    exact ⟨b, off, c, e, fr, _, rfl, by simp [Bqs, hb], by simpa using hc⟩
   ·cases hc
 have hlt : ∀ x ∈ p, x.block < W.heap.size := fun x hx => by simpa using hW'.lt x (by simpa using hx)
 obtain ⟨N, last, o, w', t', r1, r2, r3, v, hv, ⟨rfl, hB⟩, r4⟩ := (lphases_spec (Bqs W) a0 len cap hcells).goodW Tryz.func8 (results_tmp Tryz.results8 _) (by kernel_rfl)
 refine ⟨N, last, o, w', t', r1, r2, r3, _, hv, ?_, r4⟩
 have hb := hB.below
 refine ⟨_, _, _, [], p, [], hW', ?_, ?_, ?_, hB.kept _, fun h => by cases h⟩
 ·rw [e1]; exact trodAll_mk1 (shut_bool Tryz.underlying4 true)
 ·rw [e1]
  have t := trodAll_mk1 (DataW.Trod.of_heap (w := { w' with tape := W.tape }) (w' := w') rfl (Below.trod laidOutK (by kernel_rfl) (of_decide_eq_true (by kernel_rfl)) h0k hb hlt))
  exact t
 ·rw [e1]; rfl
end Go.Proofs.YtgniilnljeedlaaGreatDoor
end
section
namespace Go.Proofs.YtgniilnljeedlaaGreatDoor
open Go Go.X Go.ChangeShapes Go.WideShapes Go.RowKit
theorem jEnter : Program.mayEnter Tryz.pinned.checked.prog = true := factEnter
theorem jLift : (Rows.vaultPhasesRow.lifted == Program.liftsFinal Tryz.pinned.checked.prog) = true := by rw [show Program.liftsFinal Tryz.pinned.checked.prog = Rows.vaultPhasesRow.lifted from factLift]; exact beq_self_eq_true _
theorem jMake : (Program.make Tryz.pinned.checked.prog == some Rows.vaultPhasesRow.make) = true := by rw [show Program.make Tryz.pinned.checked.prog = some Rows.vaultPhasesRow.make from factMake]; exact beq_self_eq_true _
set_option maxRecDepth 100000 in
theorem jf : joinedFacts Tryz.pinned.checked.prog 8 Tryz.f8 Rows.vaultPhasesSpec Rows.vaultPhasesRow = true := by
 unfold joinedFacts
 simp only [jEnter, jLift, jMake, Bool.and_true]
 kernel_rfl
set_option maxRecDepth 100000 in
theorem vaultPhases_said : Rows.VaultPhasesSaid :=
 OpenClaim.holds_of_wide_leaving 8 Tryz.f8 rfl rfl rfl rfl rfl rfl rfl ⟨rfl, rfl, rfl, rfl, rfl⟩ rfl rfl rfl rfl rfl (by kernel_rfl) Tryz.func8 jf
  (of_decide_eq_true (by kernel_rfl)) (by unfold Func.isWrapper; rw [if_neg (of_decide_eq_false (by kernel_rfl))]; exact ⟨rfl, rfl⟩)
  (fun os started H enc _ => law_lifted os started H enc)
end Go.Proofs.YtgniilnljeedlaaGreatDoor
end
