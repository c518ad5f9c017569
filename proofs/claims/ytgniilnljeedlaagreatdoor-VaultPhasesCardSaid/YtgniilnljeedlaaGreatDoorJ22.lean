/- Texts VPhases VPlaces AskA. -/
import Derived.Test.YtgniilnljeedlaaGreatDoorJ21
set_option linter.defProp false
set_option linter.unusedSimpArgs false
set_option linter.unusedVariables false
set_option maxRecDepth 100000
set_option maxHeartbeats 2000000
section
namespace Go.X
open Go
def scC : Code -> Code
 | .scope c => c
 | c => c
def sdC : Code -> Code
 | .seq _ y => y
 | c => c
theorem Dj7 {c : Code} {I : Nat -> Act -> Hp -> Prop} {Q : Exit -> Act -> Hp -> Prop} {l : Nat} {a : Act} {H : Hp} (h : (findLabel c l).isSome = true) : scp c I Q (.goto l) a H = I l a H := by
 simp [scp, h]
theorem Czc {c : Code} {I I' : Nat -> Act -> Hp -> Prop} {Q Q' : Exit -> Act -> Hp -> Prop} (hI : ∀ l a H, I l a H -> I' l a H) (hQ : ∀ e a H, Q e a H -> Q' e a H) : ∀ {e : Exit} {a : Act} {H : Hp}, scp c I Q e a H -> scp c I' Q' e a H
 | .normal, _, _, h => hQ _ _ _ h
 | .exit _, _, _, h => hQ _ _ _ h
 | .ret, _, _, h => hQ _ _ _ h
 | .panic _, _, _, h => hQ _ _ _ h
 | .outgrown, _, _, h => h
 | .goto l, a, H, h => by
  simp only [scp] at h ⊢
  split
  ·rename_i hs
   rw [if_pos hs] at h
   exact hI _ _ _ h
  ·rename_i hs
   rw [if_neg hs] at h
   exact hQ _ _ _ h
end Go.X
namespace Go.Proofs.YtgniilnljeedlaaGreatDoor
open Go Go.X
def Azh := And.intro (fun H => Aqv (H := H) Tryz.underlying25 rfl Tryz.sizeOf25) (And.intro @Bxo (And.intro (fun H => Aq4 (H := H) Tryz.underlying22) (And.intro @Axq (And.intro (fun H => Aqq (H := H) Tryz.underlying22 Tryz.sizeOf3) (And.intro (fun H => Aqd (H := H) Tryz.underlying3 rfl) (And.intro @Bvb (And.intro @Cks (And.intro (fun H => Aqg (H := H) Tryz.underlying97 (i := 0) rfl (off := 0) rfl Tryz.sizeOf25) (fun H => Aqg (H := H) Tryz.underlying25 (i := 0) rfl (off := 0) rfl Tryz.sizeOf3)))))))))
theorem Ajq {H : Hp} {b : Nat} {xs : List Int} {c : Array Value} {q : Bool} (h : H b = some (q, .cells c 3 (0, 0))) (hc : c = (ints xs).toArray) : SlI H (.slice (some ⟨b, 0, none⟩) xs.length xs.length) xs :=
 ⟨_, _, rfl, Nat.le_refl _, fun i x hi => ⟨b, 0, q, c, (0, 0), rfl, h, by
  subst hc
  rw [Nat.zero_add]
  simp [ints, hi]⟩⟩
theorem RowX.rowB_ne {t : Option Nat} {H0 H : Hp} {v : Value} {e : TypeId} {cs : List Value} (h : RowX t H0 H v e cs) {b : Nat} (hb : ∀ c fr, H b ≠ some (true, .cells c e fr)) : rowB v ≠ some b := fun hr => by
 rcases h.2 with ⟨rfl, _⟩ | ⟨b', c, cap, _, hb', rfl, _⟩
 ·cases hr
 ·simp only [rowB, Option.some.injEq] at hr
  subst hr
  exact hb _ _ hb'
def PhI (H1 : Hp) (db mb : Nat) (places pieces : Int) (sv cv : Value) (ta : Option Addr) (tc : Nat) (ts : List Int) (l w : Nat) (a' : Act) (H' : Hp) : Prop := ∃ (e : Nat -> Value) (i : Nat) (os : List Int) (ov : Value), w = ts.length - i /\ i <= ts.length /\ a' = act 50 e [] /\ e 1 = .slice ta ts.length tc /\ e 6 = .pointer (some ⟨db, 0, none⟩) /\ e 8 = ov /\ e 9 = .int .i64 (i : Nat) /\
 H' db = some (true, dayO places pieces sv cv (.slice ta ts.length tc) mb) /\ RowX none H1 H' ov 3 (ints os) /\ os.length <= i /\ os ++ Ax1 places ts (ts.length - i) i = Ax1 places ts ts.length 0
theorem Bjo (main : Md) (H1 : Hp) (db mb : Nat) (places pieces : Int) (sv cv : Value) (ta : Option Addr) (tc : Nat) (ts : List Int) (hts : SlI H1 (.slice ta ts.length tc) ts) (h1 : 1 <= places) (hl8 : ts.length <= 8) (h6 : ∀ t ∈ ts, 0 <= t /\ t < 6) (R : Ending -> Hp -> Prop)
  (hR : Aqy (∀ v H', H1.le H' -> SlI H' v (Ax1 places ts ts.length 0) -> R (.returned (.tuple #[v, .int .i64 0])) H')) (n : Nat) (a : Act) (H' : Hp) (hI : PhI H1 db mb places pieces sv cv ta tc ts 0 n a H') :
  wpX Tryz.prog main none (sdC (sdC (sdC (sdC (sdC (scC (sdC ((Tryz.f31).body.getD .skip))))))))
   (scp (scC (sdC ((Tryz.f31).body.getD .skip))) (fun l a H => ∃ n', n' < n /\ PhI H1 db mb places pieces sv cv ta tc ts l n' a H) (Cqb Tryz.prog main Tryz.f31 R)) a H' := by
 obtain ⟨e, i, os, ov, rfl, hi, rfl, e1, e6, e8, e9, vdb, hrow, hos, hph⟩ := hI
 show wpX _ _ _ (.seq _ _) _ _ _
 refine Aql ?_
 by_cases hlt : i < ts.length
 ·(refine @unH _ ?_; refine zS Azh ?_; (repeat (refine inC ?_; intro hc)); try (refine inK ?_; intro K hK))
  intro nb hnb
  generalize hG : Hp.set H' nb _ = H2
  have lH2 := Aqh hG hnb
  have vnb := Aqf hG
  clear hG
  have hw : SlI H2 (.slice (some ⟨nb, 0, none⟩) 1 1) [(i : Int)] := Ajq (xs := [(i : Int)]) vnb rfl
  have hsep : rowB ov ≠ some nb := hrow.rowB_ne fun c fr h => by rw [hnb] at h; cases h
  have hsd : rowB ov ≠ some db := hrow.rowB_ne fun c fr h => by rw [vdb] at h; cases h
  have hrow2 := hrow.le lH2
  have vdb2 := lH2 _ _ vdb
  have hts' : SlI H2 (.slice ta ts.length tc) ts := hts.le (hrow2.1.toLe)
  refine Czu hrow2 hw (fun _ b hb => by simp only [rowB, Option.some.injEq] at hb; subst hb; exact hsep) (by simp only [List.length_cons, List.length_nil]; omega) _ _ _ _ (fun v3 H3 hrow3 hkeep => ?_)
  have vdb3 := hkeep _ _ vdb2 hsd
  have hts3 : SlI H3 (.slice ta ts.length tc) ts := hts.le hrow3.1.toLe
  clear hw hsep hsd hrow2 vdb2 hkeep lH2 vnb hnb hrow vdb hts'
  obtain ⟨va, vc, rfl⟩ := hrow3.len
  have hil : (ints (os ++ [(i : Int)])).length <= 100 := by rw [Axi, List.length_append, List.length_cons, List.length_nil]; omega
  replace hil : Aqy _ := hil
  generalize (ints (os ++ [(i : Int)])).length = vn at *
  ((try (refine @unH _ ?_; refine zX Azh ?_)); (try (refine hK _ _ ?_; clear hK K; (try simp only [nq, ↓reduceIte, Nat.reduceEqDiff]))); refine @unH _ ?_; refine zS Azh ?_; (repeat (refine inC ?_; intro hc)); try (refine inK ?_; intro K hK))
  refine Aql (Aqo ?_)
  refine Aq9 (fun w a' H' => ∃ e j m, w = ts.length - j /\ i <= j /\ j <= ts.length /\ a' = act 50 e [] /\ e 1 = .slice ta ts.length tc /\ e 6 = .pointer (some ⟨db, 0, none⟩) /\ e 8 = .slice va vn vc /\ e 9 = .int .i64 (j : Nat) /\ e 10 = .int .u8 (m : Nat) /\ m < 64 /\ Ax5 places 0 (ts.drop i) = (j - i) + Ax5 places m (ts.drop j) /\ H' = H3) (n := ts.length - i) ?_ ?_
  ·exact ⟨_, i, 0, by omega, by omega, by omega, rfl, e1, e6, rfl, e9, rfl, by omega, by omega, rfl⟩
  ·rintro w a' H' ⟨e, j, m, rfl, hij, hj, rfl, e1, e6, e8, e9, e10, hm, hlen, hH⟩
   rw [hH]; clear hH H'
   by_cases hjl : j < ts.length
   ·have hd : ts.drop j = ts[j] :: ts.drop (j + 1) := List.drop_eq_getElem_cons hjl
    have htj := List.getElem?_eq_getElem hjl
    have htb := h6 _ (List.getElem_mem hjl)
    rw [hd] at hlen
    generalize ts[j] = t at hlen htj htb
    clear hd
    replace hlen : Aqy _ := hlen
    obtain ⟨b, o, cap', p, c, fr, hve, _, hb', hx⟩ := hts3.cons (fun h => absurd (congrArg List.length h) (by simp only [List.length_nil]; omega))
    cases hve
    have hxj := hx j t htj
    have hm2 := Bq1 hm htb.1 htb.2
    (refine @unH _ ?_; refine zA Azh ?_; (repeat (refine inC ?_; intro hc)); try (refine inK ?_; intro K hK))
    refine (Bq9 main H3 m t hm htb.1 htb.2).runs.mono ?_; rintro _ HQ ⟨rfl, hHQ⟩; rw [hHQ]; clear hHQ HQ; ((try (refine @unH _ ?_; refine zX Azh ?_)); (try (refine hK _ _ ?_; clear hK K; (try simp only [nq, ↓reduceIte, Nat.reduceEqDiff]))); refine @unH _ ?_; refine zA Azh ?_; (repeat (refine inC ?_; intro hc)); try (refine inK ?_; intro K hK))
    have hlen' : Ax5 places 0 (ts.drop i) = j - i + (if places < Aqs (Aj3 m t.toNat) then 0 else 1 + Ax5 places (Aj3 m t.toNat) (ts.drop (j + 1))) := hlen
    generalize Aj3 m t.toNat = m2 at *
    clear hlen
    replace hlen' : Aqy _ := hlen'
    refine Azz 8 [(true, 0), (true, 1), (true, 2), (true, 3), (true, 4), (true, 5), (true, 6), (true, 7)] (by kernel_rfl) (by kernel_rfl) (by simp) (by kernel_rfl) ?_; intro K hK
    (refine @unH _ ?_; refine z3 Azh ?_)
    (apply Aq8 rfl rfl rfl; (focus (simp -implicitDefEqProofs (disch := first | omega | (simp only [qd] <;> omega)) only [xq, ↓xp, qc, Nat.reduceAdd, List.range, List.range.loop, fine, Nat.reduceEqDiff, ↓reduceIte, yielded, reduceCtorEq, Nat.reduceLT, Nat.reduceMul, Nat.reduceSub, one, Nat.reduceLeDiff, Aqa, Azh]; exact quiet_of (Bkh main H3 m2 hm2))); simp -implicitDefEqProofs (disch := omega) only [Aqn, Aqc])
    (iterate 6 (refine @unH _ ?_; refine z3 Azh ?_))
    refine Axx (hK _ _ ?_); clear hK K
    (try simp only [nq, ↓reduceIte, Nat.reduceEqDiff])
    have hcnt : Aqs m2 <= 100 := by have : Aqs m2 <= 6 := Aw4 m2 hm2; omega
    by_cases hfull : places < Aqs m2
    ·(refine @unH _ ?_; refine zA Azh ?_; (repeat (refine inC ?_; intro hc)); try (refine inK ?_; intro K hK))
     have hl2 : Ax5 places 0 (ts.drop i) = j - i + (if places < Aqs m2 then 0 else 1 + Ax5 places m2 (ts.drop (j + 1))) := hlen'
     rw [if_pos hfull] at hl2
     have hd : ts.drop i = ts[i] :: ts.drop (i + 1) := List.drop_eq_getElem_cons hlt
     have hp : 1 <= Ax5 places 0 (ts.drop i) := by
      rw [hd]
      exact Aw7 h1 (h6 _ (List.getElem_mem hlt)).1 (h6 _ (List.getElem_mem hlt)).2 _
     rw [Dj7 (by rfl)]
     refine ⟨ts.length - j, by omega, _, j, os ++ [(i : Int)], _, rfl, hj, rfl, e1, e6, e8, e9, vdb3, hrow3, by simp only [List.length_append, List.length_cons, List.length_nil]; omega, ?_⟩
     rw [<- hph, Bza h1 h6 hlt, show i + Ax5 places 0 (ts.drop i) = j by omega, List.append_assoc]
     rfl
    ·(refine @unH _ ?_; refine zA Azh ?_; (repeat (refine inC ?_; intro hc)); try (refine inK ?_; intro K hK))
     have hl2 : Ax5 places 0 (ts.drop i) = j - i + (if places < Aqs m2 then 0 else 1 + Ax5 places m2 (ts.drop (j + 1))) := hlen'
     rw [if_neg hfull] at hl2
     exact ⟨ts.length - (j + 1), by omega, _, j + 1, m2, rfl, by omega, hjl, rfl, e1, e6, e8, rfl, rfl, hm2, by omega, by trivial⟩
   ·obtain rfl : j = ts.length := by omega
    (refine @unH _ ?_; refine zA Azh ?_; (repeat (refine inC ?_; intro hc)); try (refine inK ?_; intro K hK))
    (refine @unH _ ?_; refine zB Tryz.results31 ?_)
    have hl0 : Ax5 places m (ts.drop ts.length) = 0 := by rw [List.drop_length]; rfl
    refine (show ∀ v H', H1.le H' -> SlI H' v (Ax1 places ts ts.length 0) -> R (.returned (.tuple #[v, .int .i64 0])) H' from hR) _ _ hrow3.1.toLe ?_
    have hs := hrow3.ints
    rw [<- hph, Bza h1 h6 hlt, Aj9 places ts (by omega)]
    exact hs
 ·obtain rfl : i = ts.length := by omega
  (refine @unH _ ?_; refine zA Azh ?_; (repeat (refine inC ?_; intro hc)); try (refine inK ?_; intro K hK))
  (refine @unH _ ?_; refine zB Tryz.results31 ?_)
  refine (show ∀ v H', H1.le H' -> SlI H' v (Ax1 places ts ts.length 0) -> R (.returned (.tuple #[v, .int .i64 0])) H' from hR) _ _ hrow.1.toLe ?_
  have hs := hrow.ints
  rw [Aj9 places ts (Nat.le_refl _), List.append_nil] at hph
  rw [<- hph]
  exact hs
theorem Byu (main : Md) (H : Hp) (places pieces : Int) (sv cv tv : Value) (start : List Int) (xss : List (List Int)) (ts : List Int) (hd : Aww H places pieces sv cv tv start xss ts) :
  FnX Tryz.prog main 31 #[.agg #[.int .i64 places, .int .i64 pieces, sv, cv], tv] H fun e H' => ∃ v, e = .returned (.tuple #[v, .int .i64 0]) /\ H.le H' /\ SlI H' v (Ax1 places ts ts.length 0) := by
 obtain ⟨sa, sn, sc, rfl⟩ := hd.st.isSlice
 obtain ⟨ca, cn, cc, rfl⟩ := hd.calls.isSlice
 obtain ⟨ta, tc, rfl, htc, _⟩ := id hd.truth
 have hl8 : ts.length <= 8 := by have := hd.true.1; have := hd.few; omega
 have h6 := hd.true.bnd hd.ok
 refine Aqk Tryz.func31 rfl Tryz.ntmps31 (by simp) ?_
 (refine @unH _ ?_; refine zS Azh ?_; (repeat (refine inC ?_; intro hc)); try (refine inK ?_; intro K hK))
 (intro vb hvb; generalize hG : Hp.set _ vb _ = H1; have lH1 := Aqh hG hvb; have vvb := Aqf hG; clear hG)
 have hd1 := hd.le lH1
 have lex1 := lH1
 have hPI : ∀ H2, H1.le H2 -> Aww H2 places pieces (.slice sa sn sc) (.slice ca cn cc) (.slice ta ts.length tc) start xss ts := fun H2 h => hd1.le h
 ((try (refine @unH _ ?_; refine zX Azh ?_)); (try (refine hK _ _ ?_; clear hK K; (try simp only [nq, ↓reduceIte, Nat.reduceEqDiff]))); refine @unH _ ?_; refine zS Azh ?_; (repeat (refine inC ?_; intro hc)); try (refine inK ?_; intro K hK))
 refine By1 (fun l w a' H' => ∃ H2 db mb, H.le H2 /\ SlI H2 (.slice ta ts.length tc) ts /\ PhI H2 db mb places pieces (.slice sa sn sc) (.slice ca cn cc) ta tc ts l w a' H') ?_ ?_
 ·(refine @unH _ ?_; refine zS Azh ?_; (repeat (refine inC ?_; intro hc)); try (refine inK ?_; intro K hK))
  refine (Akr main H1 places pieces _ _ _ start xss ts hd1).runs.mono ?_
  rintro _ H2 ⟨db, mb, rfl, lH2, hdm, hdb, hmb, vdb, vmb⟩
  have hd2 := hd1.le lH2
  ((try (refine @unH _ ?_; refine zX Azh ?_)); (try (refine hK _ _ ?_; clear hK K; (try simp only [nq, ↓reduceIte, Nat.reduceEqDiff]))); refine @unH _ ?_; refine zS Azh ?_; (repeat (refine inC ?_; intro hc)); try (refine inK ?_; intro K hK))
  refine Aql ?_
  (refine @unH _ ?_; refine zS Azh ?_; (repeat (refine inC ?_; intro hc)); try (refine inK ?_; intro K hK))
  refine Aql (Axn ?_)
  refine Avi (Bjo main H2 db mb places pieces (.slice sa sn sc) (.slice ca cn cc) ta tc ts hd2.truth hd.ok.1 hl8 h6 (fun e H' => ∃ v, e = .returned (.tuple #[v, .int .i64 0]) /\ H.le H' /\ SlI H' v (Ax1 places ts ts.length 0)) (fun v H' l h => ⟨v, rfl, Hp.le_trans (Hp.le_trans lH1 lH2) l, h⟩) ts.length _ H2 ?_) ?_
  ·exact ⟨_, 0, [], _, by omega, by omega, rfl, rfl, rfl, rfl, rfl, vdb, RowX.nil, Nat.le_refl _, rfl⟩
  ·exact fun e a H' q => Czc (fun l a H' ⟨n', _, h⟩ => ⟨n', H2, db, mb, Hp.le_trans lH1 lH2, hd2.truth, h⟩) (fun _ _ _ h => h) q
 ·rintro l rest w a' H' hf ⟨H2, db, mb, l2, ht2, hI⟩
  have hl : l = 0 := by
   apply Classical.byContradiction
   intro hl
   have h9 : (0 == l) = false := by simp; omega
   simp only [findLabel, h9, Bool.false_eq_true, if_false] at hf
   cases hf
  subst hl
  simp only [findLabel, beq_self_eq_true, if_true, Option.some.injEq] at hf
  subst hf
  refine Aql (Aqu ?_)
  refine Avi (Bjo main H2 db mb places pieces (.slice sa sn sc) (.slice ca cn cc) ta tc ts ht2 hd.ok.1 hl8 h6 (fun e H' => ∃ v, e = .returned (.tuple #[v, .int .i64 0]) /\ H.le H' /\ SlI H' v (Ax1 places ts ts.length 0)) (fun v H' l h => ⟨v, rfl, Hp.le_trans l2 l, h⟩) w _ H' hI) ?_
  exact fun e a H' q => Czc (fun l a H' ⟨n', hlt, h⟩ => ⟨n', hlt, H2, db, mb, l2, ht2, h⟩) (fun _ _ _ h => h) q
end Go.Proofs.YtgniilnljeedlaaGreatDoor
end
section
namespace Go.X
open Go
theorem Bq6 {P : Program} {H : Hp} {fn : Func} {t : Tmp} {ty : TypeId} (h : fn.results = #[.cell t ty]) {n : Nat} {e : Nat -> Value} {ds : List Deferred} (ht : t < n) {a : Addr} (hb : e t = .pointer (some a))
  {d : TypeDesc} (hu : P.underlying ty = some d) (hd : aggB d = false) (K : Value -> Hp -> Prop) (E : Value -> Hp -> Prop) :
  wpS P (results fn (act n e ds).tmps) H K E = ∃ v, H.cell a = some v /\ K v H := by
 have hl : ∀ K E, wpS P (loadVar ty a) H K E = ∃ v, H.cell a = some v /\ K v H := fun K E => Aqd hu hd a K E
 simp [-bind_pure_comp, results, h, act_get? ht, hb, asAddr, Aqb, Aqi, hl]
end Go.X
namespace Go.Proofs.YtgniilnljeedlaaGreatDoor
open Go Go.X
def Azq := And.intro (fun H => Aqv (H := H) Tryz.underlying25 rfl Tryz.sizeOf25) (And.intro @Bxo (And.intro (fun H => Aqg (H := H) Tryz.underlying25 (i := 2) rfl (off := 2) rfl Tryz.sizeOf22) (And.intro (fun H => Aqd (H := H) Tryz.underlying22 rfl) (And.intro (fun H => Aq4 (H := H) Tryz.underlying22) (And.intro @Cqt (And.intro (fun H => Aq0 (H := H) (P := Tryz.prog) (h := Tryz.zeroValue25)) (And.intro (fun H => Aq3 (H := H) Tryz.sizeOf25) (And.intro (fun H => Aqg (H := H) Tryz.underlying25 (i := 0) rfl (off := 0) rfl Tryz.sizeOf3) (And.intro (fun H => Axk (H := H) Tryz.sizeOf3) (And.intro @Bz3 (And.intro @Bqd (And.intro @Bqc (And.intro @Bkg (And.intro (fun H => Bvq (H := H) Tryz.underlying115 rfl) @Dx9))))))))))))))
def Bj7 := And.intro (fun H => Aq0 (H := H) (P := Tryz.prog) (h := Tryz.zeroValue4)) (And.intro @Bva (fun H => Ayc (H := H) Tryz.sizeOf4))
def Bwa := And.intro (fun H st => Ajf (H := H) (st := st) Tryz.underlying154 rfl Tryz.zeroValue154) (And.intro (fun H => Aq0 (H := H) (P := Tryz.prog) (h := Tryz.zeroValue154)) (And.intro (fun H => Aq3 (H := H) Tryz.sizeOf154) (fun H => Ayc (H := H) Tryz.sizeOf4)))
theorem Lex.free {b : Nat} {H0 H1 H2 : Hp} (h : Lex none H0 H1) (h' : Lex (some b) H1 H2) (hb : H0 b = none) : Lex none H0 H2 := fun x v hx => by
 obtain ⟨v1, h1, e1⟩ := h x v hx
 obtain ⟨v2, h2, e2⟩ := h' x v1 h1
 exact ⟨v2, h2, fun _ => (e2 fun e => by rw [<- Option.some.inj e, hb] at hx; cases hx).trans (e1 (by simp))⟩
def Dzm (k : Bool) : Value := if k then .iface 154 (.agg #[]) else .nilIface
theorem By8 (H : Hp) (k : Bool) (st : TypeId) (K : Value -> Hp -> Prop) (E : Value -> Hp -> Prop) : wpS Tryz.prog (Instr.typeAssert (Dzm k) st 154 true) H K E = K (.tuple #[.agg #[], .bool k]) H := by
 cases k
 ·show wpS Tryz.prog (Instr.typeAssert .nilIface st 154 true) H K E = _
  unfold Instr.typeAssert
  rw [Aqb, Aqj Tryz.underlying154]
  simp only [Bj0, Aqi, if_true, Aqb, Axy Tryz.zeroValue154]
 ·show wpS Tryz.prog (Instr.typeAssert (.iface 154 (.agg #[])) st 154 true) H K E = _
  rw [Ajf Tryz.underlying154 rfl Tryz.zeroValue154]
  rfl
theorem Bze (main : Md) (H : Hp) (isb : Nat) (x : Value) (hb : H isb = some (true, .cells #[x] 4 (0, 0))) (m : FrameMode) (k : Bool) (hm : m = .returning /\ k = false ∨ m = .panicking [{ v := Dzm true, recovered := false }] /\ k = true) (R : FrameMode -> Hp -> Prop)
  (hR : Aqy (∀ H', H.le H' -> R .returning (if k = true then H'.set isb (.cells #[.bool false] 4 (0, 0)) else H'))) :
  DefX Tryz.prog main m { target := .fn (.func 120) #[.pointer (some ⟨isb, 0, none⟩)], args := #[] } H R := by
 refine Bwe (v := Dzm k) Tryz.func120 rfl (fun _ _ => Cya _) ?_ ?_
 ·rcases hm with ⟨h1, h2⟩ | ⟨h1, h2⟩
  ·exact .inl ⟨h1, by rw [h2]; rfl⟩
  ·exact .inr (by rw [h1, h2])
 intro K hK
 rw [Tryz.ntmps120]
 rw [show ((#[] : Array Value) ++ #[.pointer (some ⟨isb, 0, none⟩)]) = [Value.pointer (some ⟨isb, 0, none⟩)].toArray from rfl, Bqw (by simp)]
 (refine @unH _ ?_; refine zX (And.intro Bwa @By8) ?_)
 (intro nb hnb; generalize hG : Hp.set _ nb _ = H1; have lH1 := Aqh hG hnb; have vnb := Aqf hG; clear hG)
 have hb1 := lH1 _ _ hb
 refine hK _ _ ?_; clear hK K
 cases k
 ·have hR1 := (show ∀ H', H.le H' -> R .returning (if false = true then H'.set isb (.cells #[.bool false] 4 (0, 0)) else H') from hR) H1 lH1
  simp only [Bool.false_eq_true, if_false] at hR1
  replace hR1 : Aqy _ := hR1
  (refine @unH _ ?_; refine zA Bwa ?_; (repeat (refine inC ?_; intro hc)); try (refine inK ?_; intro K hK))
  refine ⟨rfl, ?_⟩
  rw [Aw9 Tryz.results120]
  exact hR1
 ·have hR1 := (show ∀ H', H.le H' -> R .returning (if true = true then H'.set isb (.cells #[.bool false] 4 (0, 0)) else H') from hR) H1 lH1
  simp only [if_true] at hR1
  replace hR1 : Aqy _ := hR1
  (refine @unH _ ?_; refine zA Bwa ?_; (repeat (refine inC ?_; intro hc)); try (refine inK ?_; intro K hK))
  refine ⟨rfl, ?_⟩
  rw [Aw9 Tryz.results120]
  exact hR1
theorem Byw (main : Md) (H : Hp) (db : Nat) (places pieces : Int) (sv cv tv : Value) (ts : List Int) (mb : Nat) (hdb : H db = some (true, dayO places pieces sv cv tv mb)) (hts : SlI H tv ts) (start : List Int) (hst : SlI H sv start) (hs6 : ∀ t ∈ start, 0 <= t /\ t < 6) (hsl : start.length <= 1000)
  (hl : ts.length <= 8) (h6 : ∀ t ∈ ts, 0 <= t /\ t < 6) (r : Int) (hr0 : 0 <= r) (hr3 : r <= 3) (mo : Int) (hmo0 : 0 <= mo) :
  FnX Tryz.prog main 92 #[.pointer (some ⟨db, 0, none⟩), Ajo r, .int .i64 mo] H fun e H' => e = .returned (.bool (decide (((rrun places r ts (rs0 start) ts.length).f : Int) <= mo))) /\ H.le H' := by
 refine Aqk Tryz.func92 rfl Tryz.ntmps92 (by simp) ?_
 refine Axj rfl ?_; intro K hK
 (refine @unH _ ?_; refine zX Bj7 ?_)
 intro isb hisb
 generalize hG : Hp.set H isb _ = H1
 have lH1 := Aqh hG hisb
 have vis := Aqf hG
 clear hG
 refine hK _ _ ?_; clear hK K
 refine Axj rfl ?_; intro K hK
 (refine @unH _ ?_; refine zX (And.intro Bj7 (And.intro @Ck8 (And.intro @Cqn @Bzd))) ?_)
 refine hK _ _ ?_; clear hK K
 refine Cwp rfl ?_; intro K E hK hE
 (refine @unH _ ?_; refine zX (And.intro Bj7 (And.intro @Ckn @Cko)) ?_)
 refine (Cza main H1 db places pieces sv cv tv ts mb (lH1 _ _ hdb) (hts.le lH1) start (hst.le lH1) hs6 hsl hl h6 r hr0 hr3 mo hmo0 _ ?_ ?_).runs
 ·intro hf H2 l2
  have vis2 := l2 _ _ vis
  (refine @unH _ ?_; refine zX (And.intro Bj7 (And.intro @Ckn @Cko)) ?_)
  refine hK _ _ ?_; clear hK hE K E
  (refine @unH _ ?_; refine zA Bj7 ?_; (repeat (refine inC ?_; intro hc)); try (refine inK ?_; intro K hK))
  refine Ax7 ?_
  refine Bze main (H2.set isb (.cells #[.bool true] 4 (0, 0))) isb _ Aqw .returning false (.inl ⟨rfl, rfl⟩) _ (fun H3 l3 => ?_)
  show wpS _ (results _ _) _ _ _
  rw [Bq6 Tryz.results92 (by decide) (a := ⟨isb, 0, none⟩) rfl Tryz.underlying4 rfl]
  refine ⟨.bool true, by rw [if_neg (by simp), cell_of (l3 _ _ Aqw)]; rfl, by rw [decide_eq_true hf], ?_⟩
  exact Hp.le_trans (((Lex.of (Hp.le_trans lH1 l2)).own hisb : Lex none H _)).toLe l3
 ·intro hf H2 l2
  have vis2 := l2 _ _ vis
  show both K E (.panic _) _ _
  refine hE _ _ _ ?_
  refine Bze main H2 isb _ vis2 (.panicking _) true (.inr ⟨rfl, rfl⟩) _ (fun H3 l3 => ?_)
  show wpS _ (results _ _) _ _ _
  rw [Bq6 Tryz.results92 (by decide) (a := ⟨isb, 0, none⟩) rfl Tryz.underlying4 rfl]
  refine ⟨.bool false, by rw [if_pos rfl, cell_of Aqw]; rfl, by rw [decide_eq_false (by omega)], ?_⟩
  exact (((Lex.of (Hp.le_trans lH1 (Hp.le_trans l2 l3))).own hisb : Lex none H _)).toLe
def plF (P : Int -> Bool) : Nat -> Int -> Option Int
 | 0, _ => none
 | k + 1, n => if P n then some n else plF P k (n + 1)
def loP (start : List Int) : Nat := if 1 < start.length then start.length else 1
def Ay3 (start ts : List Int) (fetched : Int) : Option Int := plF (fun n => decide (fewF n start ts <= fetched)) (7 - loP start) (loP start : Nat)
theorem Dj2 : Ajo 3 = .iface 115 (.agg #[]) := by unfold Ajo; rfl
theorem Byv (main : Md) (H : Hp) (places pieces : Int) (sv cv tv : Value) (start : List Int) (xss : List (List Int)) (ts : List Int) (hd : Aww H places pieces sv cv tv start xss ts) (fetched : Int) (hf0 : 0 <= fetched) :
  FnX Tryz.prog main 44 #[.agg #[.int .i64 places, .int .i64 pieces, sv, cv], tv, .int .i64 fetched] H fun e H' => e = .returned (.tuple #[.int .i64 ((Ay3 start ts fetched).getD 0), .int .i64 (if (Ay3 start ts fetched).isSome then 0 else 11)]) /\ H.le H' := by
 obtain ⟨sa, sn, sc, rfl⟩ := hd.st.isSlice
 obtain ⟨ca, cn, cc, rfl⟩ := hd.calls.isSlice
 obtain ⟨ta, tc, rfl, htc, _⟩ := id hd.truth
 have hl8 : ts.length <= 8 := by have := hd.true.1; have := hd.few; omega
 have h6 := hd.true.bnd hd.ok
 have hs6 : ∀ t ∈ start, 0 <= t /\ t < 6 := fun t ht => by
  have h1 := hd.ok.2.2.2.2.2.2.1 t ht
  have h2 := hd.ok.2.2.2.1
  omega
 have hsn : sn = start.length := by obtain ⟨_, _, h, _⟩ := hd.st; cases h; rfl
 subst hsn
 have hsl : start.length <= 4 := by
  have h1 := hd.ok.2.2.2.2.1
  have h2 := hd.ok.2.1
  omega
 refine Aqk Tryz.func44 rfl Tryz.ntmps44 (by simp) ?_
 (refine @unH _ ?_; refine zA Azq ?_; (repeat (refine inC ?_; intro hc)); try (refine inK ?_; intro K hK))
 (intro vb hvb; generalize hG : Hp.set _ vb _ = H1; have lH1 := Aqh hG hvb; have vvb := Aqf hG; clear hG)
 have hd1 := hd.le lH1
 ((try (refine @unH _ ?_; refine zX Azq ?_)); (try (refine hK _ _ ?_; clear hK K; (try simp only [nq, ↓reduceIte, Nat.reduceEqDiff]))); refine @unH _ ?_; refine zA Azq ?_; (repeat (refine inC ?_; intro hc)); try (refine inK ?_; intro K hK))
 refine (Akr main H1 places pieces _ _ _ start xss ts hd1).runs.mono ?_
 rintro _ H2 ⟨db0, mb0, rfl, lH2, _, _, _, _, _⟩
 have hd2 := hd1.le lH2
 have vvb2 := lH2 _ _ vvb
 have l02 := Hp.le_trans lH1 lH2
 clear vvb hvb lH1 lH2 hd1
 ((try (refine @unH _ ?_; refine zX Azq ?_)); (try (refine hK _ _ ?_; clear hK K; (try simp only [nq, ↓reduceIte, Nat.reduceEqDiff]))); refine @unH _ ?_; refine zA Azq ?_; (repeat (refine inC ?_; intro hc)); try (refine inK ?_; intro K hK))
 have hlo1 : 1 <= loP start := by unfold loP; split <;> omega
 have hlo2 : start.length <= loP start := by unfold loP; split <;> omega
 have hlo4 : loP start <= 4 := by unfold loP; split <;> omega
 have hloV : Value.int .i64 (if (1 : Int) < (start.length : Int) then (start.length : Int) else 1) = .int .i64 ((loP start : Nat) : Int) := by
  congr 1
  unfold loP
  split <;> split <;> omega
 rw [hloV]
 clear hloV
 refine Aq9 (fun w a' H' => ∃ e, ∃ n : Nat, w = 7 - n /\ 1 <= n /\ start.length <= n /\ n <= 7 /\ a' = act 52 e [] /\ e 1 = .slice ta ts.length tc /\ e 2 = .int .i64 fetched /\ e 3 = .pointer (some ⟨vb, 0, none⟩) /\ e 10 = .int .i64 (n : Nat) /\
  H' vb = some (true, .cells #[.int .i64 places, .int .i64 pieces, .slice sa start.length sc, .slice ca cn cc] 25 (0, 0)) /\ Lex none H H' /\ Ay3 start ts fetched = plF (fun n => decide (fewF n start ts <= fetched)) (7 - n) (n : Nat)) (n := 7 - loP start) ?_ ?_
 ·exact ⟨_, loP start, rfl, hlo1, hlo2, by omega, rfl, rfl, rfl, rfl, rfl, vvb2, Lex.of l02, rfl⟩
 ·clear hlo1 hlo2 hlo4 vvb2 hd2
  rintro w a' H3 ⟨e, n, rfl, hn1, hnl, hn7, rfl, e1, e2, e3, e10, vvb3, lex3, hpl⟩
  have hd3 := hd.le lex3.toLe
  by_cases hlt : n <= 6
  ·have hstep : plF (fun n => decide (fewF n start ts <= fetched)) (7 - n) (n : Nat) = if decide (fewF n start ts <= fetched) = true then some (n : Int) else plF (fun n => decide (fewF n start ts <= fetched)) (7 - (n + 1)) ((n + 1 : Nat) : Int) := by
    rw [show 7 - n = (7 - (n + 1)) + 1 by omega]
    rfl
   rw [hstep] at hpl
   clear hstep
   have hlate := Dqp (pl := (n : Int)) ts.length (Nat.le_refl _) (by omega) h6 hs6 (by omega)
   replace hpl : Aqy _ := hpl
   replace hlate : Aqy _ := hlate
   (refine @unH _ ?_; refine zA Azq ?_; (repeat (refine inC ?_; intro hc)); try (refine inK ?_; intro K hK))
   (intro xb hxb; generalize hG : Hp.set _ xb _ = H4; have lH4 := Aqh hG hxb; have vxb := Aqf hG; clear hG)
   have vvb4 := lH4 _ _ vvb3
   have nvx : vb ≠ xb := Ax8 vvb3 hxb
   have nvx' := nvx.symm
   have hxb0 : H xb = none := lex3.gone hxb
   ((try (refine @unH _ ?_; refine zX Azq ?_)); (try (refine hK _ _ ?_; clear hK K; (try simp only [nq, ↓reduceIte, Nat.reduceEqDiff]))); refine @unH _ ?_; refine zA Azq ?_; (repeat (refine inC ?_; intro hc)); try (refine inK ?_; intro K hK))
   generalize hG : Hp.set H4 xb _ = H5
   have vvb5 := Aze hG vvb4 nvx
   have lex5 : Lex none H H5 := by rw [<- hG]; exact (lex3.le lH4).own hxb0
   clear hG
   refine (Ayr main H5 n pieces sa start.length sc ca cn cc ta ts.length tc).runs.mono ?_
   rintro _ H6 ⟨db, mb, rfl, lH6, hdm, hdb, hmb, vdb6, vmb6⟩
   have hmb0 := lex5.gone hmb
   have nvm : vb ≠ mb := Ax8 vvb5 hmb
   have vvb6 := lH6 _ _ vvb5
   have lex6 := lex5.le lH6
   have st6 := hd.st.le lex6.toLe
   have tr6 := hd.truth.le lex6.toLe
   clear hd3 lex3 vvb3 vvb4 vvb5 lH4 vxb hxb hxb0 nvx nvx' lex5 lH6 hdb hmb
   ((try (refine @unH _ ?_; refine zX Azq ?_)); (try (refine hK _ _ ?_; clear hK K; (try simp only [nq, ↓reduceIte, Nat.reduceEqDiff]))); refine @unH _ ?_; refine zA Azq ?_; (repeat (refine inC ?_; intro hc)); try (refine inK ?_; intro K hK))
   refine (Aj7 main H6 db n pieces _ _ _ start mb vdb6 st6 hs6 (by omega)).runs.mono ?_
   rintro _ H7 ⟨rfl, lH7⟩
   have vdb7 := lH7 _ _ vdb6
   have vmb7 := lH7 _ _ vmb6
   have vvb7 := lH7 _ _ vvb6
   have lex7 := lex6.le lH7
   have st7 := st6.le lH7
   have tr7 := tr6.le lH7
   have hm : oOf start < 64 := Avd start 0 (by omega) hs6
   clear st6 tr6 lex6 vvb6 vdb6 vmb6 lH7
   ((try (refine @unH _ ?_; refine zX Azq ?_)); (try (refine hK _ _ ?_; clear hK K; (try simp only [nq, ↓reduceIte, Nat.reduceEqDiff]))); refine @unH _ ?_; refine zA Azq ?_; (repeat (refine inC ?_; intro hc)); try (refine inK ?_; intro K hK))
   refine (Ajr main db n pieces _ _ _ ts mb hdm (by omega) h6 _ 0 (oOf start) H7 rfl (by omega) hm vdb7 tr7 (.new vmb7)).runs.mono ?_
   rintro _ H8 ⟨rfl, l8, _⟩
   have vdb8 := l8.keeps vdb7 hdm
   have vvb8 := l8.keeps vvb7 nvm
   have st8 := st7.lexMap l8 vmb7
   have tr8 := tr7.lexMap l8 vmb7
   have lex8 := lex7.free l8 hmb0
   rw [List.drop_zero]
   clear st7 tr7 lex7 vvb7 vdb7 vmb7 l8 hm
   by_cases hP : ((optF ts.length (n : Int) ts (oOf start) : Nat) : Int) <= fetched
   ·have hpl2 : Ay3 start ts fetched = some (n : Int) := by
     have h : Ay3 start ts fetched = if decide (fewF (n : Int) start ts <= fetched) = true then some (n : Int) else _ := hpl
     rw [h, if_pos (show decide (fewF (n : Int) start ts <= fetched) = true from decide_eq_true hP)]
    clear hpl hlate
    replace hpl2 : Aqy _ := hpl2
    ((try (refine @unH _ ?_; refine zX Azq ?_)); (try (refine hK _ _ ?_; clear hK K; (try simp only [nq, ↓reduceIte, Nat.reduceEqDiff]))); refine @unH _ ?_; refine zA Azq ?_; (repeat (refine inC ?_; intro hc)); try (refine inK ?_; intro K hK))
    (refine @unH _ ?_; refine zB Tryz.results44 ?_)
    rw [show Ay3 start ts fetched = _ from hpl2]
    exact ⟨rfl, lex8.toLe⟩
   ·have hpl2 : Ay3 start ts fetched = plF (fun n => decide (fewF n start ts <= fetched)) (7 - (n + 1)) ((n + 1 : Nat) : Int) := by
     have h : Ay3 start ts fetched = if decide (fewF (n : Int) start ts <= fetched) = true then some (n : Int) else plF (fun n => decide (fewF n start ts <= fetched)) (7 - (n + 1)) ((n + 1 : Nat) : Int) := hpl
     rw [h, if_neg (by rw [decide_eq_true_eq]; exact hP)]
    have hw := Byw main H8 db n pieces _ _ _ ts mb vdb8 tr8 start st8 hs6 (by omega) hl8 h6 3 (by omega) (by omega) fetched hf0
    rw [show (rrun (n : Int) 3 ts (rs0 start) ts.length).f = optF ts.length (n : Int) ts (oOf start) from hlate, decide_eq_false hP, Dj2] at hw
    clear hpl hlate
    replace hpl2 : Aqy _ := hpl2
    replace hw : Aqy _ := hw
    ((try (refine @unH _ ?_; refine zX Azq ?_)); (try (refine hK _ _ ?_; clear hK K; (try simp only [nq, ↓reduceIte, Nat.reduceEqDiff]))); refine @unH _ ?_; refine zA Azq ?_; (repeat (refine inC ?_; intro hc)); try (refine inK ?_; intro K hK))
    refine (show FnX _ _ _ _ _ _ from hw).runs.mono ?_
    rintro _ H9 ⟨rfl, lH9⟩
    have vvb9 := lH9 _ _ vvb8
    ((try (refine @unH _ ?_; refine zX Azq ?_)); (try (refine hK _ _ ?_; clear hK K; (try simp only [nq, ↓reduceIte, Nat.reduceEqDiff]))); refine @unH _ ?_; refine zA Azq ?_; (repeat (refine inC ?_; intro hc)); try (refine inK ?_; intro K hK))
    exact ⟨7 - (n + 1), by omega, _, n + 1, rfl, by omega, by omega, by omega, rfl, e1, e2, e3, rfl, vvb9, lex8.le lH9, hpl2⟩
  ·obtain rfl : n = 7 := by omega
   (refine @unH _ ?_; refine zA Azq ?_; (repeat (refine inC ?_; intro hc)); try (refine inK ?_; intro K hK))
   (refine @unH _ ?_; refine zB Tryz.results44 ?_)
   exact ⟨by rw [hpl]; rfl, lex3.toLe⟩
end Go.Proofs.YtgniilnljeedlaaGreatDoor
end
section
namespace Go.Proofs.YtgniilnljeedlaaGreatDoor
open Go Go.X
theorem By4 {P : Program} {t e : TypeId} {z : Value} {inf : TypeInfo} (hu : P.underlying t = some (.slice e)) (hs : ∀ w, (sizeOf e).run P w = .ok 1 w) (hz : ∀ w, (zeroValue e).run P w = .ok z w) (hzc : z.cells.size = 1)
  (hi : ∀ w, (typeInfo e).run P w = .ok inf w) (hby : inf.bytes <= 1024) (hby0 : 0 < inf.bytes) {H : Hp} {b o n : Nat} {cs : List Value} (hcl : cs.length = n) (hc : ∀ j u, cs[j]? = some u -> H.cell ⟨b, o + j, none⟩ = some u)
  {g og m cap : Nat} {news : List Value} (hl : news.length = m) (hm : 0 < m) (hnews : ∀ j u, news[j]? = some u -> H.cell ⟨g, og + j, none⟩ = some u) (hn : n + m <= 1073741824)
  (ty : TypeId) (cb : Array Bool) (K : Next -> Hp -> Prop) (E : Value -> Hp -> Prop)
  (h : ∀ v' H', RowX none H H' v' e (cs ++ news) -> H.le H' -> K (.value v') H') :
  wpS P (builtin .append #[t, t] ty cb #[.slice (some ⟨b, o, none⟩) n n, .slice (some ⟨g, og, none⟩) m cap]) H K E := by
 have hinf := Awc hi
 simp only [builtin]
 rw [Aqb]
 unfold Builtin.append_
 simp only [List.getElem?_toArray, List.getElem?_cons_zero, List.getElem?_cons_succ]
 rw [Aqb, Aqj hu]
 simp only [Aqb, Axb hs, Aqj hu, Aqi, Bool.false_eq_true, if_false, Builtin.lenOf, Bj0]
 have hfirst : ∀ (K' : Array Value -> Hp -> Prop), wpS P (Builtin.firstCells 1 m (.slice (some ⟨g, og, none⟩) m cap)) H K' E = K' news.toArray H := fun K' => by
  unfold Builtin.firstCells
  exact Azp (by omega) hnews K' E
 have hold : ∀ (K' : Array Value -> Hp -> Prop), wpS P (Builtin.firstCells 1 n (.slice (some ⟨b, o, none⟩) n n)) H K' E = K' cs.toArray H := fun K' => by
  unfold Builtin.firstCells
  exact Azp (by omega) hc K' E
 rw [if_neg (show ¬ n + m <= n by omega)]
 have hnc := Bkq (n + m) n (by omega)
 simp only [Avh hinf]
 rw [if_neg (by intro hh; have := hh.2; simp at this; omega)]
 rw [if_neg (by
  have : Builtin.nextslicecap (n + m) n * inf.bytes <= (2 * (n + m) + 400) * 1024 := Nat.mul_le_mul hnc hby
  omega)]
 simp only [choose, wpS, Question.forced, Bool.false_eq_true, if_false, Question.cut]
 intro t
 simp only [Bxk, hold, Bool.not_false, if_true, hfirst, Axy hz, newRow, newObj, Aqb, wpS, Aqi]
 intro b' hb'
 generalize hN : n + m + t % (2 ^ 63 - (n + m)) = N
 have hNge : n + m <= N := by omega
 refine h _ _ ⟨Lex.of (Hp.le_set hb'), .inr ⟨b', _, N, hb', Aqw, ?_, ?_, ?_, fun i u hiu => ?_⟩⟩ (Hp.le_set hb')
 ·rw [List.length_append, hcl, hl]
 ·simp only [Array.size_append, List.size_toArray, Ay6, hzc, hcl, hl]
  omega
 ·rw [List.length_append, hcl, hl]; exact hNge
 ·have hilt : i < (cs ++ news).length := (List.getElem?_eq_some_iff.1 hiu).1
  rw [Array.getElem?_append_left (by simpa using hilt)]
  simpa using hiu
theorem By6 {P : Program} {t e : TypeId} {z : Value} {inf : TypeInfo} (hu : P.underlying t = some (.slice e)) (hs : ∀ w, (sizeOf e).run P w = .ok 1 w) (hz : ∀ w, (zeroValue e).run P w = .ok z w) (hzc : z.cells.size = 1)
  (hi : ∀ w, (typeInfo e).run P w = .ok inf w) (hby : inf.bytes <= 1024) (hby0 : 0 < inf.bytes) {H₀ H : Hp} {v : Value} {cs news : List Value} (h : RowX none H₀ H v e cs) {g o m cap : Nat} (hl : news.length = m)
  (hg : 0 < m -> (∃ u, H g = some u) /\ rowB v ≠ some g /\ ∀ j u, news[j]? = some u -> H.cell ⟨g, o + j, none⟩ = some u) (h1 : ∀ u ∈ news, one u = true) (hn : cs.length + m <= 1000000)
  (ty : TypeId) (cb : Array Bool) (K : Next -> Hp -> Prop) (E : Value -> Hp -> Prop)
  (h' : ∀ v' H', RowX none H₀ H' v' e (cs ++ news) -> (∀ x u, H x = some u -> rowB v ≠ some x -> H' x = some u) -> K (.value v') H') :
  wpS P (builtin .append #[t, t] ty cb #[v, .slice (some ⟨g, o, none⟩) m cap]) H K E := by
 by_cases hm : m = 0
 ·subst hm
  have hnil : news = [] := List.eq_nil_of_length_eq_zero hl
  subst hnil
  have hv : ∃ va vc, v = .slice va cs.length vc /\ cs.length <= vc := by
   rcases h.2 with ⟨rfl, e⟩ | ⟨b, c, vc, _, _, rfl, _, hc, _⟩
   ·exact ⟨none, 0, by rw [e]; rfl, by rw [e]; exact Nat.le_refl _⟩
   ·exact ⟨_, vc, rfl, hc⟩
  obtain ⟨va, vc, rfl, hvc⟩ := hv
  exact Bzz hu hs _ _ _ _ _ _ _ hvc _ _ (h' _ H (by rw [List.append_nil]; exact h) (fun x u hx _ => hx))
 obtain ⟨⟨ug, hug⟩, hsep, hys⟩ := hg (by omega)
 obtain ⟨hlex, hrow⟩ := h
 rcases hrow with ⟨rfl, rfl⟩ | ⟨b, c, cp, hb0, hb, rfl, hcs, hcap, hget⟩
 ·refine Avo (P := P) hu hs hz hzc hi hby hby0 (H₀ := H) (H := H) (n := 0) (cs := []) (Ako.nil H e 1) (Hp.le_refl _) (by omega) id hys h1 (by omega) ty cb K E (fun v' H1 H2 hr hl2 => ?_)
  have hle : H.le H2 := fun x u hx => hl2 _ _ (hr.le _ _ hx)
  refine h' v' H2 ⟨hlex.le hle, ?_⟩ (fun x u hx _ => hle _ _ hx)
  rcases hr with ⟨_, hn0, _⟩ | ⟨b', c', cap', hb', rfl, rfl, hs', hl', hn', hg'⟩
  ·omega
  ·refine .inr ⟨b', c', cap', hlex.gone hb', hl2 _ _ (by rw [Axm, if_pos rfl]), by rw [hl', Nat.mul_one], by omega, by omega, hg'⟩
 ·have hgb : g ≠ b := fun e => hsep (by rw [e]; rfl)
  have hD : (fun x => if x = b then none else H x : Hp) b = none := by simp
  have hH : H = Hp.set (fun x => if x = b then none else H x) b (.cells c e (0, 0)) := by
   funext x
   unfold Hp.set
   by_cases e : x = b
   ·subst e; simp [hb]
   ·simp [e]
  refine Avo (P := P) hu hs hz hzc hi hby hby0 (H₀ := fun x => if x = b then none else H x) (H := H) (n := cs.length) (cs := cs) (.inr ⟨b, c, cp, hD, hH, rfl, by omega, by omega, hcap, hget⟩) (Hp.le_refl _) (by omega) (fun h => by simp only [hgb, if_false] at h; exact h) hys h1 (by omega) ty cb K E (fun v' H1 H2 hr hl2 => ?_)
  have hkeep : ∀ x u, x ≠ b -> H x = some u -> H2 x = some u := fun x u hn hx => hl2 _ _ (hr.le _ _ (by simp only [hn, if_false]; exact hx))
  have hlx : Lex none H₀ H2 := fun x u hx => by
   obtain ⟨u', hu', e'⟩ := hlex x u hx
   exact ⟨u', hkeep x u' (fun e => by rw [e, hb0] at hx; cases hx) hu', e'⟩
  rcases hr with ⟨_, hn0, _⟩ | ⟨b', c', cap', hb', rfl, rfl, hs', hl', hn', hg'⟩
  ·omega
  ·have hb2 : H2 b' = some (true, .cells c' e (0, 0)) := hl2 _ _ (by rw [Axm, if_pos rfl])
   have hb'0 : H₀ b' = none := by
    by_cases e : b' = b
    ·rw [e]; exact hb0
    ·simp only [e, if_false] at hb'; exact hlex.gone hb'
   refine h' _ H2 ⟨hlx, .inr ⟨b', c', cap', hb'0, hb2, by rw [hl', Nat.mul_one], by omega, by omega, hg'⟩⟩ (fun x u hx ho => hkeep x _ (fun e => ho (by rw [e]; rfl)) hx)
theorem Dq0 {H H' : Hp} (h : H.le H') {a : Addr} {v : Value} (hc : H.cell a = some v) : H'.cell a = some v := by
 unfold Hp.cell at hc ⊢
 cases hb : H a.block with
 | none => rw [hb] at hc; cases hc
 | some x => rw [hb] at hc; rw [h _ _ hb]; exact hc
theorem RowX.rowB_new {t : Option Nat} {H0 H : Hp} {v : Value} {e : TypeId} {cs : List Value} (h : RowX t H0 H v e cs) {b : Nat} (hb : rowB v = some b) : H0 b = none := by
 rcases h.2 with ⟨rfl, _⟩ | ⟨b', c, cap, h0, _, rfl, _⟩
 ·cases hb
 ·simp only [rowB, Option.some.injEq] at hb
  subst hb
  exact h0
theorem Cjk (W : Int -> Int) (l : List Int) (p : Int) : (l ++ [p]).foldl (fun m p => if m < W p then W p else m) 0 = if l.foldl (fun m p => if m < W p then W p else m) 0 < W p then W p else l.foldl (fun m p => if m < W p then W p else m) 0 := by
 rw [List.foldl_append]
 rfl
theorem SlR.vals {H : Hp} {b o n cap : Nat} {xss : List (List Int)} (h : SlR H (.slice (some ⟨b, o, none⟩) n cap) xss) : ∃ vs, Rows H vs xss /\ (∀ j u, vs[j]? = some u -> H.cell ⟨b, o + j, none⟩ = some u) /\ (xss ≠ [] -> ∃ u, H b = some u) := by
 obtain ⟨a, cap', hv, hcap, hx⟩ := h
 cases hv
 refine ⟨(List.range xss.length).map fun j => (H.cell ⟨b, o + j, none⟩).getD undef, ⟨by simp, fun i xs hi => ?_⟩, fun j u hj => ?_, fun hne => ?_⟩
 ·obtain ⟨b', o', p, c, fr, w, ha, hb, hw, hs⟩ := hx i xs hi
  cases ha
  have hil := (List.getElem?_eq_some_iff.1 hi).1
  refine ⟨w, ?_, hs⟩
  rw [List.getElem?_map, List.getElem?_range hil, Option.map_some, cell_of hb, hw]
  rfl
 ·rw [List.getElem?_map] at hj
  by_cases hjl : j < xss.length
  ·rw [List.getElem?_range hjl, Option.map_some, Option.some.injEq] at hj
   obtain ⟨b', o', p, c, fr, w, ha, hb, hw, hs⟩ := hx j xss[j] (List.getElem?_eq_getElem hjl)
   cases ha
   rw [cell_of hb, hw] at hj ⊢
   exact congrArg some hj
  ·rw [List.getElem?_eq_none (by simp; omega)] at hj
   cases hj
 ·obtain ⟨l, hl⟩ := List.exists_mem_of_ne_nil _ hne
  obtain ⟨i, hi, rfl⟩ := List.getElem_of_mem hl
  obtain ⟨b', o', p, c, fr, w, ha, hb, hw, hs⟩ := hx i xss[i] (List.getElem?_eq_getElem hi)
  cases ha
  exact ⟨_, hb⟩
theorem Rows.one {H : Hp} {vs : List Value} {xss : List (List Int)} (h : Rows H vs xss) : ∀ u ∈ vs, one u = true := fun u hu => by
 obtain ⟨i, hi, rfl⟩ := List.getElem_of_mem hu
 obtain ⟨w, h1, h2⟩ := h.2 i _ (List.getElem?_eq_getElem (by rw [<- h.1]; exact hi))
 rw [List.getElem?_eq_getElem hi, Option.some.injEq] at h1
 rw [h1]
 exact h2.one
theorem Rows.take {H : Hp} {vs : List Value} {xss : List (List Int)} (h : Rows H vs xss) (i : Nat) : Rows H (vs.take i) (xss.take i) :=
 ⟨by simp [h.1], fun j xs hj => by
  have hji : j < i := by have := (List.getElem?_eq_some_iff.1 hj).1; simp at this; omega
  rw [List.getElem?_take_of_lt hji] at hj ⊢
  exact h.2 j xs hj⟩
theorem Rows.drop {H : Hp} {vs : List Value} {xss : List (List Int)} (h : Rows H vs xss) (i : Nat) : Rows H (vs.drop i) (xss.drop i) :=
 ⟨by simp [h.1], fun j xs hj => by
  rw [List.getElem?_drop] at hj ⊢
  exact h.2 _ xs hj⟩
theorem Rows.app {H : Hp} {vs ws : List Value} {xss yss : List (List Int)} (h : Rows H vs xss) (h' : Rows H ws yss) : Rows H (vs ++ ws) (xss ++ yss) :=
 ⟨by simp [h.1, h'.1], fun j xs hj => by
  by_cases hlt : j < xss.length
  ·rw [List.getElem?_append_left hlt] at hj
   rw [List.getElem?_append_left (by rw [h.1]; exact hlt)]
   exact h.2 j xs hj
  ·rw [List.getElem?_append_right (by omega)] at hj
   rw [List.getElem?_append_right (by rw [h.1]; omega), h.1]
   exact h'.2 _ xs hj⟩
def Azs (xss : List (List Int)) (i : Nat) (p : Int) : List (List Int) := xss.take i ++ [p] :: xss.drop (i + 1)
theorem Bjf {places pieces : Int} {start : List Int} {xss : List (List Int)} (h : Aje places pieces start xss) {i : Nat} {l : List Int} (hi : xss[i]? = some l) {p : Int} (hp : p ∈ l) : Aje places pieces start (Azs xss i p) /\ (Azs xss i p).length = xss.length := by
 have hil := (List.getElem?_eq_some_iff.1 hi).1
 refine ⟨⟨h.1, h.2.1, h.2.2.1, h.2.2.2.1, h.2.2.2.2.1, h.2.2.2.2.2.1, h.2.2.2.2.2.2.1, fun xs hxs => ?_⟩, ?_⟩
 ·rcases List.mem_append.1 hxs with hx | hx
  ·exact h.2.2.2.2.2.2.2 xs (List.mem_of_mem_take hx)
  ·rcases List.mem_cons.1 hx with rfl | hx
   ·have := (h.2.2.2.2.2.2.2 l (List.mem_of_getElem? hi)).2.2 p hp
    exact ⟨by simp, List.pairwise_singleton _ _, fun x hx => by rw [List.mem_singleton.1 hx]; exact this⟩
   ·exact h.2.2.2.2.2.2.2 xs (List.mem_of_mem_drop hx)
 ·simp [Azs]; omega
end Go.Proofs.YtgniilnljeedlaaGreatDoor
end
