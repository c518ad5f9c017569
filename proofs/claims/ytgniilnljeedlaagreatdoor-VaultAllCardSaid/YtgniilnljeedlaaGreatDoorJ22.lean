/- Texts VPlaces AskA VAsk. -/
import Derived.Test.YtgniilnljeedlaaGreatDoorJ21
set_option linter.defProp false
set_option linter.unusedSimpArgs false
set_option linter.unusedVariables false
set_option maxRecDepth 100000
set_option maxHeartbeats 2000000
section
namespace Go.X
open Go
theorem Bq8 {P : Program} {H : Hp} {fn : Func} {t : Tmp} {ty : TypeId} (h : fn.results = #[.cell t ty]) {n : Nat} {e : Nat -> Value} {ds : List Deferred} (ht : t < n) {a : Addr} (hb : e t = .pointer (some a))
  {d : TypeDesc} (hu : P.underlying ty = some d) (hd : aggB d = false) (K : Value -> Hp -> Prop) (E : Value -> Hp -> Prop) :
  wpS P (results fn (act n e ds).tmps) H K E = ∃ v, H.cell a = some v /\ K v H := by
 have hl : ∀ K E, wpS P (loadVar ty a) H K E = ∃ v, H.cell a = some v /\ K v H := fun K E => Aqd hu hd a K E
 simp [-bind_pure_comp, results, h, act_get? ht, hb, asAddr, Aqb, Aqi, hl]
end Go.X
namespace Go.Proofs.YtgniilnljeedlaaGreatDoor
open Go Go.X
def Azr := And.intro (fun H => Aqx (H := H) Tryz.underlying25 rfl Tryz.sizeOf25) (And.intro @Bxr (And.intro (fun H => Aqh (H := H) Tryz.underlying25 (i := 2) rfl (off := 2) rfl Tryz.sizeOf22) (And.intro (fun H => Aqd (H := H) Tryz.underlying22 rfl) (And.intro (fun H => Aq5 (H := H) Tryz.underlying22) (And.intro @Cqn (And.intro (fun H => Aq1 (H := H) (P := Tryz.prog) (h := Tryz.zeroValue25)) (And.intro (fun H => Aq3 (H := H) Tryz.sizeOf25) (And.intro (fun H => Aqh (H := H) Tryz.underlying25 (i := 0) rfl (off := 0) rfl Tryz.sizeOf3) (And.intro (fun H => Axo (H := H) Tryz.sizeOf3) (And.intro @Bz1 (And.intro @Bqb (And.intro @Bqa (And.intro @Bkc (And.intro (fun H => Bvj (H := H) Tryz.underlying115 rfl) @Dxz))))))))))))))
def Bj2 := And.intro (fun H => Aq1 (H := H) (P := Tryz.prog) (h := Tryz.zeroValue4)) (And.intro @Bk4 (fun H => Aw8 (H := H) Tryz.sizeOf4))
def Bv4 := And.intro (fun H st => Ajf (H := H) (st := st) Tryz.underlying154 rfl Tryz.zeroValue154) (And.intro (fun H => Aq1 (H := H) (P := Tryz.prog) (h := Tryz.zeroValue154)) (And.intro (fun H => Aq3 (H := H) Tryz.sizeOf154) (fun H => Aw8 (H := H) Tryz.sizeOf4)))
theorem Lex.free {b : Nat} {H0 H1 H2 : Hp} (h : Lex none H0 H1) (h' : Lex (some b) H1 H2) (hb : H0 b = none) : Lex none H0 H2 := fun x v hx => by
 obtain ⟨v1, h1, e1⟩ := h x v hx
 obtain ⟨v2, h2, e2⟩ := h' x v1 h1
 exact ⟨v2, h2, fun _ => (e2 fun e => by rw [<- Option.some.inj e, hb] at hx; cases hx).trans (e1 (by simp))⟩
def Dzd (k : Bool) : Value := if k then .iface 154 (.agg #[]) else .nilIface
theorem Byz (H : Hp) (k : Bool) (st : TypeId) (K : Value -> Hp -> Prop) (E : Value -> Hp -> Prop) : wpS Tryz.prog (Instr.typeAssert (Dzd k) st 154 true) H K E = K (.tuple #[.agg #[], .bool k]) H := by
 cases k
 ·show wpS Tryz.prog (Instr.typeAssert .nilIface st 154 true) H K E = _
  unfold Instr.typeAssert
  rw [Aqb, Aqj Tryz.underlying154]
  simp only [Bjv, Aqi, if_true, Aqb, Ax2 Tryz.zeroValue154]
 ·show wpS Tryz.prog (Instr.typeAssert (.iface 154 (.agg #[])) st 154 true) H K E = _
  rw [Ajf Tryz.underlying154 rfl Tryz.zeroValue154]
  rfl
theorem Bzf (main : Md) (H : Hp) (isb : Nat) (x : Value) (hb : H isb = some (true, .cells #[x] 4 (0, 0))) (m : FrameMode) (k : Bool) (hm : m = .returning /\ k = false ∨ m = .panicking [{ v := Dzd true, recovered := false }] /\ k = true) (R : FrameMode -> Hp -> Prop)
  (hR : Aqs (∀ H', H.le H' -> R .returning (if k = true then H'.set isb (.cells #[.bool false] 4 (0, 0)) else H'))) :
  DefX Tryz.prog main m { target := .fn (.func 120) #[.pointer (some ⟨isb, 0, none⟩)], args := #[] } H R := by
 refine Bv7 (v := Dzd k) Tryz.func120 rfl (fun _ _ => Cw2 _) ?_ ?_
 ·rcases hm with ⟨h1, h2⟩ | ⟨h1, h2⟩
  ·exact .inl ⟨h1, by rw [h2]; rfl⟩
  ·exact .inr (by rw [h1, h2])
 intro K hK
 rw [Tryz.ntmps120]
 rw [show ((#[] : Array Value) ++ #[.pointer (some ⟨isb, 0, none⟩)]) = [Value.pointer (some ⟨isb, 0, none⟩)].toArray from rfl, Bqy (by simp)]
 (refine @unH _ ?_; refine zX (And.intro Bv4 @Byz) ?_)
 (intro nb hnb; generalize hG : Hp.set _ nb _ = H1; have lH1 := Aqg hG hnb; have vnb := Aqf hG; clear hG)
 have hb1 := lH1 _ _ hb
 refine hK _ _ ?_; clear hK K
 cases k
 ·have hR1 := (show ∀ H', H.le H' -> R .returning (if false = true then H'.set isb (.cells #[.bool false] 4 (0, 0)) else H') from hR) H1 lH1
  simp only [Bool.false_eq_true, if_false] at hR1
  replace hR1 : Aqs _ := hR1
  (refine @unH _ ?_; refine zA Bv4 ?_; (repeat (refine inC ?_; intro hc)); try (refine inK ?_; intro K hK))
  refine ⟨rfl, ?_⟩
  rw [Aw5 Tryz.results120]
  exact hR1
 ·have hR1 := (show ∀ H', H.le H' -> R .returning (if true = true then H'.set isb (.cells #[.bool false] 4 (0, 0)) else H') from hR) H1 lH1
  simp only [if_true] at hR1
  replace hR1 : Aqs _ := hR1
  (refine @unH _ ?_; refine zA Bv4 ?_; (repeat (refine inC ?_; intro hc)); try (refine inK ?_; intro K hK))
  refine ⟨rfl, ?_⟩
  rw [Aw5 Tryz.results120]
  exact hR1
theorem Byn (main : Md) (H : Hp) (db : Nat) (places pieces : Int) (sv cv tv : Value) (ts : List Int) (mb : Nat) (hdb : H db = some (true, dayO places pieces sv cv tv mb)) (hts : SlI H tv ts) (start : List Int) (hst : SlI H sv start) (hs6 : ∀ t ∈ start, 0 <= t /\ t < 6) (hsl : start.length <= 1000)
  (hl : ts.length <= 8) (h6 : ∀ t ∈ ts, 0 <= t /\ t < 6) (r : Int) (hr0 : 0 <= r) (hr3 : r <= 3) (mo : Int) (hmo0 : 0 <= mo) :
  FnX Tryz.prog main 92 #[.pointer (some ⟨db, 0, none⟩), Ajr r, .int .i64 mo] H fun e H' => e = .returned (.bool (decide (((rrun places r ts (rs0 start) ts.length).f : Int) <= mo))) /\ H.le H' := by
 refine Aqk Tryz.func92 rfl Tryz.ntmps92 (by simp) ?_
 refine Axn rfl ?_; intro K hK
 (refine @unH _ ?_; refine zX Bj2 ?_)
 intro isb hisb
 generalize hG : Hp.set H isb _ = H1
 have lH1 := Aqg hG hisb
 have vis := Aqf hG
 clear hG
 refine hK _ _ ?_; clear hK K
 refine Axn rfl ?_; intro K hK
 (refine @unH _ ?_; refine zX (And.intro Bj2 (And.intro @Ckz (And.intro @Cqg @Bze))) ?_)
 refine hK _ _ ?_; clear hK K
 refine Cwh rfl ?_; intro K E hK hE
 (refine @unH _ ?_; refine zX (And.intro Bj2 (And.intro @Ckd @Cke)) ?_)
 refine (Cx3 main H1 db places pieces sv cv tv ts mb (lH1 _ _ hdb) (hts.le lH1) start (hst.le lH1) hs6 hsl hl h6 r hr0 hr3 mo hmo0 _ ?_ ?_).runs
 ·intro hf H2 l2
  have vis2 := l2 _ _ vis
  (refine @unH _ ?_; refine zX (And.intro Bj2 (And.intro @Ckd @Cke)) ?_)
  refine hK _ _ ?_; clear hK hE K E
  (refine @unH _ ?_; refine zA Bj2 ?_; (repeat (refine inC ?_; intro hc)); try (refine inK ?_; intro K hK))
  refine Ax7 ?_
  refine Bzf main (H2.set isb (.cells #[.bool true] 4 (0, 0))) isb _ Aqw .returning false (.inl ⟨rfl, rfl⟩) _ (fun H3 l3 => ?_)
  show wpS _ (results _ _) _ _ _
  rw [Bq8 Tryz.results92 (by decide) (a := ⟨isb, 0, none⟩) rfl Tryz.underlying4 rfl]
  refine ⟨.bool true, by rw [if_neg (by simp), cell_of (l3 _ _ Aqw)]; rfl, by rw [decide_eq_true hf], ?_⟩
  exact Hp.le_trans (((Lex.of (Hp.le_trans lH1 l2)).own hisb : Lex none H _)).toLe l3
 ·intro hf H2 l2
  have vis2 := l2 _ _ vis
  show both K E (.panic _) _ _
  refine hE _ _ _ ?_
  refine Bzf main H2 isb _ vis2 (.panicking _) true (.inr ⟨rfl, rfl⟩) _ (fun H3 l3 => ?_)
  show wpS _ (results _ _) _ _ _
  rw [Bq8 Tryz.results92 (by decide) (a := ⟨isb, 0, none⟩) rfl Tryz.underlying4 rfl]
  refine ⟨.bool false, by rw [if_pos rfl, cell_of Aqw]; rfl, by rw [decide_eq_false (by omega)], ?_⟩
  exact (((Lex.of (Hp.le_trans lH1 (Hp.le_trans l2 l3))).own hisb : Lex none H _)).toLe
def plF (P : Int -> Bool) : Nat -> Int -> Option Int
 | 0, _ => none
 | k + 1, n => if P n then some n else plF P k (n + 1)
def loP (start : List Int) : Nat := if 1 < start.length then start.length else 1
def Ayz (start ts : List Int) (fetched : Int) : Option Int := plF (fun n => decide (fewF n start ts <= fetched)) (7 - loP start) (loP start : Nat)
theorem Djt : Ajr 3 = .iface 115 (.agg #[]) := by unfold Ajr; rfl
theorem Bym (main : Md) (H : Hp) (places pieces : Int) (sv cv tv : Value) (start : List Int) (xss : List (List Int)) (ts : List Int) (hd : Awr H places pieces sv cv tv start xss ts) (fetched : Int) (hf0 : 0 <= fetched) :
  FnX Tryz.prog main 44 #[.agg #[.int .i64 places, .int .i64 pieces, sv, cv], tv, .int .i64 fetched] H fun e H' => e = .returned (.tuple #[.int .i64 ((Ayz start ts fetched).getD 0), .int .i64 (if (Ayz start ts fetched).isSome then 0 else 11)]) /\ H.le H' := by
 obtain ⟨sa, sn, sc, rfl⟩ := hd.st.isSlice
 obtain ⟨ca, cn, cc, rfl⟩ := hd.calls.isSlice
 obtain ⟨ta, tc, rfl, htc, _⟩ := id hd.truth
 have hl8 : ts.length <= 8 := by have := hd.true.1; have := hd.few; omega
 have h6 := hd.true.bnd hd.ok
 have hs6 : ∀ t ∈ start, 0 <= t /\ t < 6 := fun t ht => by
  have h1 := hd.ok.2.2.2.2.2.2.1 t ht
  have h2 := hd.ok.2.2.2.1
  omega
 have hsn : sn = start.length := by obtain ⟨_, _, h, _⟩ := hd.st; cases h; rfl
 subst hsn
 have hsl : start.length <= 4 := by
  have h1 := hd.ok.2.2.2.2.1
  have h2 := hd.ok.2.1
  omega
 refine Aqk Tryz.func44 rfl Tryz.ntmps44 (by simp) ?_
 (refine @unH _ ?_; refine zA Azr ?_; (repeat (refine inC ?_; intro hc)); try (refine inK ?_; intro K hK))
 (intro vb hvb; generalize hG : Hp.set _ vb _ = H1; have lH1 := Aqg hG hvb; have vvb := Aqf hG; clear hG)
 have hd1 := hd.le lH1
 ((try (refine @unH _ ?_; refine zX Azr ?_)); (try (refine hK _ _ ?_; clear hK K; (try simp only [nq, ↓reduceIte, Nat.reduceEqDiff]))); refine @unH _ ?_; refine zA Azr ?_; (repeat (refine inC ?_; intro hc)); try (refine inK ?_; intro K hK))
 refine (Akp main H1 places pieces _ _ _ start xss ts hd1).runs.mono ?_
 rintro _ H2 ⟨db0, mb0, rfl, lH2, _, _, _, _, _⟩
 have hd2 := hd1.le lH2
 have vvb2 := lH2 _ _ vvb
 have l02 := Hp.le_trans lH1 lH2
 clear vvb hvb lH1 lH2 hd1
 ((try (refine @unH _ ?_; refine zX Azr ?_)); (try (refine hK _ _ ?_; clear hK K; (try simp only [nq, ↓reduceIte, Nat.reduceEqDiff]))); refine @unH _ ?_; refine zA Azr ?_; (repeat (refine inC ?_; intro hc)); try (refine inK ?_; intro K hK))
 have hlo1 : 1 <= loP start := by unfold loP; split <;> omega
 have hlo2 : start.length <= loP start := by unfold loP; split <;> omega
 have hlo4 : loP start <= 4 := by unfold loP; split <;> omega
 have hloV : Value.int .i64 (if (1 : Int) < (start.length : Int) then (start.length : Int) else 1) = .int .i64 ((loP start : Nat) : Int) := by
  congr 1
  unfold loP
  split <;> split <;> omega
 rw [hloV]
 clear hloV
 refine Axe (fun w a' H' => ∃ e, ∃ n : Nat, w = 7 - n /\ 1 <= n /\ start.length <= n /\ n <= 7 /\ a' = act 52 e [] /\ e 1 = .slice ta ts.length tc /\ e 2 = .int .i64 fetched /\ e 3 = .pointer (some ⟨vb, 0, none⟩) /\ e 10 = .int .i64 (n : Nat) /\
  H' vb = some (true, .cells #[.int .i64 places, .int .i64 pieces, .slice sa start.length sc, .slice ca cn cc] 25 (0, 0)) /\ Lex none H H' /\ Ayz start ts fetched = plF (fun n => decide (fewF n start ts <= fetched)) (7 - n) (n : Nat)) (n := 7 - loP start) ?_ ?_
 ·exact ⟨_, loP start, rfl, hlo1, hlo2, by omega, rfl, rfl, rfl, rfl, rfl, vvb2, Lex.of l02, rfl⟩
 ·clear hlo1 hlo2 hlo4 vvb2 hd2
  rintro w a' H3 ⟨e, n, rfl, hn1, hnl, hn7, rfl, e1, e2, e3, e10, vvb3, lex3, hpl⟩
  have hd3 := hd.le lex3.toLe
  by_cases hlt : n <= 6
  ·have hstep : plF (fun n => decide (fewF n start ts <= fetched)) (7 - n) (n : Nat) = if decide (fewF n start ts <= fetched) = true then some (n : Int) else plF (fun n => decide (fewF n start ts <= fetched)) (7 - (n + 1)) ((n + 1 : Nat) : Int) := by
    rw [show 7 - n = (7 - (n + 1)) + 1 by omega]
    rfl
   rw [hstep] at hpl
   clear hstep
   have hlate := Dqh (pl := (n : Int)) ts.length (Nat.le_refl _) (by omega) h6 hs6 (by omega)
   replace hpl : Aqs _ := hpl
   replace hlate : Aqs _ := hlate
   (refine @unH _ ?_; refine zA Azr ?_; (repeat (refine inC ?_; intro hc)); try (refine inK ?_; intro K hK))
   (intro xb hxb; generalize hG : Hp.set _ xb _ = H4; have lH4 := Aqg hG hxb; have vxb := Aqf hG; clear hG)
   have vvb4 := lH4 _ _ vvb3
   have nvx : vb ≠ xb := Ax0 vvb3 hxb
   have nvx' := nvx.symm
   have hxb0 : H xb = none := lex3.gone hxb
   ((try (refine @unH _ ?_; refine zX Azr ?_)); (try (refine hK _ _ ?_; clear hK K; (try simp only [nq, ↓reduceIte, Nat.reduceEqDiff]))); refine @unH _ ?_; refine zA Azr ?_; (repeat (refine inC ?_; intro hc)); try (refine inK ?_; intro K hK))
   generalize hG : Hp.set H4 xb _ = H5
   have vvb5 := Aze hG vvb4 nvx
   have lex5 : Lex none H H5 := by rw [<- hG]; exact (lex3.le lH4).own hxb0
   clear hG
   refine (Ayn main H5 n pieces sa start.length sc ca cn cc ta ts.length tc).runs.mono ?_
   rintro _ H6 ⟨db, mb, rfl, lH6, hdm, hdb, hmb, vdb6, vmb6⟩
   have hmb0 := lex5.gone hmb
   have nvm : vb ≠ mb := Ax0 vvb5 hmb
   have vvb6 := lH6 _ _ vvb5
   have lex6 := lex5.le lH6
   have st6 := hd.st.le lex6.toLe
   have tr6 := hd.truth.le lex6.toLe
   clear hd3 lex3 vvb3 vvb4 vvb5 lH4 vxb hxb hxb0 nvx nvx' lex5 lH6 hdb hmb
   ((try (refine @unH _ ?_; refine zX Azr ?_)); (try (refine hK _ _ ?_; clear hK K; (try simp only [nq, ↓reduceIte, Nat.reduceEqDiff]))); refine @unH _ ?_; refine zA Azr ?_; (repeat (refine inC ?_; intro hc)); try (refine inK ?_; intro K hK))
   refine (Aj6 main H6 db n pieces _ _ _ start mb vdb6 st6 hs6 (by omega)).runs.mono ?_
   rintro _ H7 ⟨rfl, lH7⟩
   have vdb7 := lH7 _ _ vdb6
   have vmb7 := lH7 _ _ vmb6
   have vvb7 := lH7 _ _ vvb6
   have lex7 := lex6.le lH7
   have st7 := st6.le lH7
   have tr7 := tr6.le lH7
   have hm : oOf start < 64 := Ava start 0 (by omega) hs6
   clear st6 tr6 lex6 vvb6 vdb6 vmb6 lH7
   ((try (refine @unH _ ?_; refine zX Azr ?_)); (try (refine hK _ _ ?_; clear hK K; (try simp only [nq, ↓reduceIte, Nat.reduceEqDiff]))); refine @unH _ ?_; refine zA Azr ?_; (repeat (refine inC ?_; intro hc)); try (refine inK ?_; intro K hK))
   refine (Ajt main db n pieces _ _ _ ts mb hdm (by omega) h6 _ 0 (oOf start) H7 rfl (by omega) hm vdb7 tr7 (.new vmb7)).runs.mono ?_
   rintro _ H8 ⟨rfl, l8, _⟩
   have vdb8 := l8.keeps vdb7 hdm
   have vvb8 := l8.keeps vvb7 nvm
   have st8 := st7.lexMap l8 vmb7
   have tr8 := tr7.lexMap l8 vmb7
   have lex8 := lex7.free l8 hmb0
   rw [List.drop_zero]
   clear st7 tr7 lex7 vvb7 vdb7 vmb7 l8 hm
   by_cases hP : ((optF ts.length (n : Int) ts (oOf start) : Nat) : Int) <= fetched
   ·have hpl2 : Ayz start ts fetched = some (n : Int) := by
     have h : Ayz start ts fetched = if decide (fewF (n : Int) start ts <= fetched) = true then some (n : Int) else _ := hpl
     rw [h, if_pos (show decide (fewF (n : Int) start ts <= fetched) = true from decide_eq_true hP)]
    clear hpl hlate
    replace hpl2 : Aqs _ := hpl2
    ((try (refine @unH _ ?_; refine zX Azr ?_)); (try (refine hK _ _ ?_; clear hK K; (try simp only [nq, ↓reduceIte, Nat.reduceEqDiff]))); refine @unH _ ?_; refine zA Azr ?_; (repeat (refine inC ?_; intro hc)); try (refine inK ?_; intro K hK))
    (refine @unH _ ?_; refine zB Tryz.results44 ?_)
    rw [show Ayz start ts fetched = _ from hpl2]
    exact ⟨rfl, lex8.toLe⟩
   ·have hpl2 : Ayz start ts fetched = plF (fun n => decide (fewF n start ts <= fetched)) (7 - (n + 1)) ((n + 1 : Nat) : Int) := by
     have h : Ayz start ts fetched = if decide (fewF (n : Int) start ts <= fetched) = true then some (n : Int) else plF (fun n => decide (fewF n start ts <= fetched)) (7 - (n + 1)) ((n + 1 : Nat) : Int) := hpl
     rw [h, if_neg (by rw [decide_eq_true_eq]; exact hP)]
    have hw := Byn main H8 db n pieces _ _ _ ts mb vdb8 tr8 start st8 hs6 (by omega) hl8 h6 3 (by omega) (by omega) fetched hf0
    rw [show (rrun (n : Int) 3 ts (rs0 start) ts.length).f = optF ts.length (n : Int) ts (oOf start) from hlate, decide_eq_false hP, Djt] at hw
    clear hpl hlate
    replace hpl2 : Aqs _ := hpl2
    replace hw : Aqs _ := hw
    ((try (refine @unH _ ?_; refine zX Azr ?_)); (try (refine hK _ _ ?_; clear hK K; (try simp only [nq, ↓reduceIte, Nat.reduceEqDiff]))); refine @unH _ ?_; refine zA Azr ?_; (repeat (refine inC ?_; intro hc)); try (refine inK ?_; intro K hK))
    refine (show FnX _ _ _ _ _ _ from hw).runs.mono ?_
    rintro _ H9 ⟨rfl, lH9⟩
    have vvb9 := lH9 _ _ vvb8
    ((try (refine @unH _ ?_; refine zX Azr ?_)); (try (refine hK _ _ ?_; clear hK K; (try simp only [nq, ↓reduceIte, Nat.reduceEqDiff]))); refine @unH _ ?_; refine zA Azr ?_; (repeat (refine inC ?_; intro hc)); try (refine inK ?_; intro K hK))
    exact ⟨7 - (n + 1), by omega, _, n + 1, rfl, by omega, by omega, by omega, rfl, e1, e2, e3, rfl, vvb9, lex8.le lH9, hpl2⟩
  ·obtain rfl : n = 7 := by omega
   (refine @unH _ ?_; refine zA Azr ?_; (repeat (refine inC ?_; intro hc)); try (refine inK ?_; intro K hK))
   (refine @unH _ ?_; refine zB Tryz.results44 ?_)
   exact ⟨by rw [hpl]; rfl, lex3.toLe⟩
end Go.Proofs.YtgniilnljeedlaaGreatDoor
end
section
namespace Go.Proofs.YtgniilnljeedlaaGreatDoor
open Go Go.X
theorem Byv {P : Program} {t e : TypeId} {z : Value} {inf : TypeInfo} (hu : P.underlying t = some (.slice e)) (hs : ∀ w, (sizeOf e).run P w = .ok 1 w) (hz : ∀ w, (zeroValue e).run P w = .ok z w) (hzc : z.cells.size = 1)
  (hi : ∀ w, (typeInfo e).run P w = .ok inf w) (hby : inf.bytes <= 1024) (hby0 : 0 < inf.bytes) {H : Hp} {b o n : Nat} {cs : List Value} (hcl : cs.length = n) (hc : ∀ j u, cs[j]? = some u -> H.cell ⟨b, o + j, none⟩ = some u)
  {g og m cap : Nat} {news : List Value} (hl : news.length = m) (hm : 0 < m) (hnews : ∀ j u, news[j]? = some u -> H.cell ⟨g, og + j, none⟩ = some u) (hn : n + m <= 1073741824)
  (ty : TypeId) (cb : Array Bool) (K : Next -> Hp -> Prop) (E : Value -> Hp -> Prop)
  (h : ∀ v' H', RowX none H H' v' e (cs ++ news) -> H.le H' -> K (.value v') H') :
  wpS P (builtin .append #[t, t] ty cb #[.slice (some ⟨b, o, none⟩) n n, .slice (some ⟨g, og, none⟩) m cap]) H K E := by
 have hinf := Av6 hi
 simp only [builtin]
 rw [Aqb]
 unfold Builtin.append_
 simp only [List.getElem?_toArray, List.getElem?_cons_zero, List.getElem?_cons_succ]
 rw [Aqb, Aqj hu]
 simp only [Aqb, Axf hs, Aqj hu, Aqi, Bool.false_eq_true, if_false, Builtin.lenOf, Bjv]
 have hfirst : ∀ (K' : Array Value -> Hp -> Prop), wpS P (Builtin.firstCells 1 m (.slice (some ⟨g, og, none⟩) m cap)) H K' E = K' news.toArray H := fun K' => by
  unfold Builtin.firstCells
  exact Azq (by omega) hnews K' E
 have hold : ∀ (K' : Array Value -> Hp -> Prop), wpS P (Builtin.firstCells 1 n (.slice (some ⟨b, o, none⟩) n n)) H K' E = K' cs.toArray H := fun K' => by
  unfold Builtin.firstCells
  exact Azq (by omega) hc K' E
 rw [if_neg (show ¬ n + m <= n by omega)]
 have hnc := Bkk (n + m) n (by omega)
 simp only [Ave hinf]
 rw [if_neg (by intro hh; have := hh.2; simp at this; omega)]
 rw [if_neg (by
  have : Builtin.nextslicecap (n + m) n * inf.bytes <= (2 * (n + m) + 400) * 1024 := Nat.mul_le_mul hnc hby
  omega)]
 simp only [choose, wpS, Question.forced, Bool.false_eq_true, if_false, Question.cut]
 intro t
 simp only [Bxn, hold, Bool.not_false, if_true, hfirst, Ax2 hz, newRow, newObj, Aqb, wpS, Aqi]
 intro b' hb'
 generalize hN : n + m + t % (2 ^ 63 - (n + m)) = N
 have hNge : n + m <= N := by omega
 refine h _ _ ⟨Lex.of (Hp.le_set hb'), .inr ⟨b', _, N, hb', Aqw, ?_, ?_, ?_, fun i u hiu => ?_⟩⟩ (Hp.le_set hb')
 ·rw [List.length_append, hcl, hl]
 ·simp only [Array.size_append, List.size_toArray, Ay2, hzc, hcl, hl]
  omega
 ·rw [List.length_append, hcl, hl]; exact hNge
 ·have hilt : i < (cs ++ news).length := (List.getElem?_eq_some_iff.1 hiu).1
  rw [Array.getElem?_append_left (by simpa using hilt)]
  simpa using hiu
theorem Byx {P : Program} {t e : TypeId} {z : Value} {inf : TypeInfo} (hu : P.underlying t = some (.slice e)) (hs : ∀ w, (sizeOf e).run P w = .ok 1 w) (hz : ∀ w, (zeroValue e).run P w = .ok z w) (hzc : z.cells.size = 1)
  (hi : ∀ w, (typeInfo e).run P w = .ok inf w) (hby : inf.bytes <= 1024) (hby0 : 0 < inf.bytes) {H₀ H : Hp} {v : Value} {cs news : List Value} (h : RowX none H₀ H v e cs) {g o m cap : Nat} (hl : news.length = m)
  (hg : 0 < m -> (∃ u, H g = some u) /\ rowB v ≠ some g /\ ∀ j u, news[j]? = some u -> H.cell ⟨g, o + j, none⟩ = some u) (h1 : ∀ u ∈ news, one u = true) (hn : cs.length + m <= 1000000)
  (ty : TypeId) (cb : Array Bool) (K : Next -> Hp -> Prop) (E : Value -> Hp -> Prop)
  (h' : ∀ v' H', RowX none H₀ H' v' e (cs ++ news) -> (∀ x u, H x = some u -> rowB v ≠ some x -> H' x = some u) -> K (.value v') H') :
  wpS P (builtin .append #[t, t] ty cb #[v, .slice (some ⟨g, o, none⟩) m cap]) H K E := by
 by_cases hm : m = 0
 ·subst hm
  have hnil : news = [] := List.eq_nil_of_length_eq_zero hl
  subst hnil
  have hv : ∃ va vc, v = .slice va cs.length vc /\ cs.length <= vc := by
   rcases h.2 with ⟨rfl, e⟩ | ⟨b, c, vc, _, _, rfl, _, hc, _⟩
   ·exact ⟨none, 0, by rw [e]; rfl, by rw [e]; exact Nat.le_refl _⟩
   ·exact ⟨_, vc, rfl, hc⟩
  obtain ⟨va, vc, rfl, hvc⟩ := hv
  exact Av1 hu hs _ _ _ _ _ _ _ hvc _ _ (h' _ H (by rw [List.append_nil]; exact h) (fun x u hx _ => hx))
 obtain ⟨⟨ug, hug⟩, hsep, hys⟩ := hg (by omega)
 obtain ⟨hlex, hrow⟩ := h
 rcases hrow with ⟨rfl, rfl⟩ | ⟨b, c, cp, hb0, hb, rfl, hcs, hcap, hget⟩
 ·refine Avl (P := P) hu hs hz hzc hi hby hby0 (H₀ := H) (H := H) (n := 0) (cs := []) (Aj3.nil H e 1) (Hp.le_refl _) (by omega) id hys h1 (by omega) ty cb K E (fun v' H1 H2 hr hl2 => ?_)
  have hle : H.le H2 := fun x u hx => hl2 _ _ (hr.le _ _ hx)
  refine h' v' H2 ⟨hlex.le hle, ?_⟩ (fun x u hx _ => hle _ _ hx)
  rcases hr with ⟨_, hn0, _⟩ | ⟨b', c', cap', hb', rfl, rfl, hs', hl', hn', hg'⟩
  ·omega
  ·refine .inr ⟨b', c', cap', hlex.gone hb', hl2 _ _ (by rw [Axm, if_pos rfl]), by rw [hl', Nat.mul_one], by omega, by omega, hg'⟩
 ·have hgb : g ≠ b := fun e => hsep (by rw [e]; rfl)
  have hD : (fun x => if x = b then none else H x : Hp) b = none := by simp
  have hH : H = Hp.set (fun x => if x = b then none else H x) b (.cells c e (0, 0)) := by
   funext x
   unfold Hp.set
   by_cases e : x = b
   ·subst e; simp [hb]
   ·simp [e]
  refine Avl (P := P) hu hs hz hzc hi hby hby0 (H₀ := fun x => if x = b then none else H x) (H := H) (n := cs.length) (cs := cs) (.inr ⟨b, c, cp, hD, hH, rfl, by omega, by omega, hcap, hget⟩) (Hp.le_refl _) (by omega) (fun h => by simp only [hgb, if_false] at h; exact h) hys h1 (by omega) ty cb K E (fun v' H1 H2 hr hl2 => ?_)
  have hkeep : ∀ x u, x ≠ b -> H x = some u -> H2 x = some u := fun x u hn hx => hl2 _ _ (hr.le _ _ (by simp only [hn, if_false]; exact hx))
  have hlx : Lex none H₀ H2 := fun x u hx => by
   obtain ⟨u', hu', e'⟩ := hlex x u hx
   exact ⟨u', hkeep x u' (fun e => by rw [e, hb0] at hx; cases hx) hu', e'⟩
  rcases hr with ⟨_, hn0, _⟩ | ⟨b', c', cap', hb', rfl, rfl, hs', hl', hn', hg'⟩
  ·omega
  ·have hb2 : H2 b' = some (true, .cells c' e (0, 0)) := hl2 _ _ (by rw [Axm, if_pos rfl])
   have hb'0 : H₀ b' = none := by
    by_cases e : b' = b
    ·rw [e]; exact hb0
    ·simp only [e, if_false] at hb'; exact hlex.gone hb'
   refine h' _ H2 ⟨hlx, .inr ⟨b', c', cap', hb'0, hb2, by rw [hl', Nat.mul_one], by omega, by omega, hg'⟩⟩ (fun x u hx ho => hkeep x _ (fun e => ho (by rw [e]; rfl)) hx)
theorem Dqs {H H' : Hp} (h : H.le H') {a : Addr} {v : Value} (hc : H.cell a = some v) : H'.cell a = some v := by
 unfold Hp.cell at hc ⊢
 cases hb : H a.block with
 | none => rw [hb] at hc; cases hc
 | some x => rw [hb] at hc; rw [h _ _ hb]; exact hc
theorem RowX.rowB_new {t : Option Nat} {H0 H : Hp} {v : Value} {e : TypeId} {cs : List Value} (h : RowX t H0 H v e cs) {b : Nat} (hb : rowB v = some b) : H0 b = none := by
 rcases h.2 with ⟨rfl, _⟩ | ⟨b', c, cap, h0, _, rfl, _⟩
 ·cases hb
 ·simp only [rowB, Option.some.injEq] at hb
  subst hb
  exact h0
theorem Cz9 (W : Int -> Int) (l : List Int) (p : Int) : (l ++ [p]).foldl (fun m p => if m < W p then W p else m) 0 = if l.foldl (fun m p => if m < W p then W p else m) 0 < W p then W p else l.foldl (fun m p => if m < W p then W p else m) 0 := by
 rw [List.foldl_append]
 rfl
theorem SlR.vals {H : Hp} {b o n cap : Nat} {xss : List (List Int)} (h : SlR H (.slice (some ⟨b, o, none⟩) n cap) xss) : ∃ vs, Rows H vs xss /\ (∀ j u, vs[j]? = some u -> H.cell ⟨b, o + j, none⟩ = some u) /\ (xss ≠ [] -> ∃ u, H b = some u) := by
 obtain ⟨a, cap', hv, hcap, hx⟩ := h
 cases hv
 refine ⟨(List.range xss.length).map fun j => (H.cell ⟨b, o + j, none⟩).getD undef, ⟨by simp, fun i xs hi => ?_⟩, fun j u hj => ?_, fun hne => ?_⟩
 ·obtain ⟨b', o', p, c, fr, w, ha, hb, hw, hs⟩ := hx i xs hi
  cases ha
  have hil := (List.getElem?_eq_some_iff.1 hi).1
  refine ⟨w, ?_, hs⟩
  rw [List.getElem?_map, List.getElem?_range hil, Option.map_some, cell_of hb, hw]
  rfl
 ·rw [List.getElem?_map] at hj
  by_cases hjl : j < xss.length
  ·rw [List.getElem?_range hjl, Option.map_some, Option.some.injEq] at hj
   obtain ⟨b', o', p, c, fr, w, ha, hb, hw, hs⟩ := hx j xss[j] (List.getElem?_eq_getElem hjl)
   cases ha
   rw [cell_of hb, hw] at hj ⊢
   exact congrArg some hj
  ·rw [List.getElem?_eq_none (by simp; omega)] at hj
   cases hj
 ·obtain ⟨l, hl⟩ := List.exists_mem_of_ne_nil _ hne
  obtain ⟨i, hi, rfl⟩ := List.getElem_of_mem hl
  obtain ⟨b', o', p, c, fr, w, ha, hb, hw, hs⟩ := hx i xss[i] (List.getElem?_eq_getElem hi)
  cases ha
  exact ⟨_, hb⟩
theorem Rows.one {H : Hp} {vs : List Value} {xss : List (List Int)} (h : Rows H vs xss) : ∀ u ∈ vs, one u = true := fun u hu => by
 obtain ⟨i, hi, rfl⟩ := List.getElem_of_mem hu
 obtain ⟨w, h1, h2⟩ := h.2 i _ (List.getElem?_eq_getElem (by rw [<- h.1]; exact hi))
 rw [List.getElem?_eq_getElem hi, Option.some.injEq] at h1
 rw [h1]
 exact h2.one
theorem Rows.take {H : Hp} {vs : List Value} {xss : List (List Int)} (h : Rows H vs xss) (i : Nat) : Rows H (vs.take i) (xss.take i) :=
 ⟨by simp [h.1], fun j xs hj => by
  have hji : j < i := by have := (List.getElem?_eq_some_iff.1 hj).1; simp at this; omega
  rw [List.getElem?_take_of_lt hji] at hj ⊢
  exact h.2 j xs hj⟩
theorem Rows.drop {H : Hp} {vs : List Value} {xss : List (List Int)} (h : Rows H vs xss) (i : Nat) : Rows H (vs.drop i) (xss.drop i) :=
 ⟨by simp [h.1], fun j xs hj => by
  rw [List.getElem?_drop] at hj ⊢
  exact h.2 _ xs hj⟩
theorem Rows.app {H : Hp} {vs ws : List Value} {xss yss : List (List Int)} (h : Rows H vs xss) (h' : Rows H ws yss) : Rows H (vs ++ ws) (xss ++ yss) :=
 ⟨by simp [h.1, h'.1], fun j xs hj => by
  by_cases hlt : j < xss.length
  ·rw [List.getElem?_append_left hlt] at hj
   rw [List.getElem?_append_left (by rw [h.1]; exact hlt)]
   exact h.2 j xs hj
  ·rw [List.getElem?_append_right (by omega)] at hj
   rw [List.getElem?_append_right (by rw [h.1]; omega), h.1]
   exact h'.2 _ xs hj⟩
def Azt (xss : List (List Int)) (i : Nat) (p : Int) : List (List Int) := xss.take i ++ [p] :: xss.drop (i + 1)
theorem Bjc {places pieces : Int} {start : List Int} {xss : List (List Int)} (h : Az5 places pieces start xss) {i : Nat} {l : List Int} (hi : xss[i]? = some l) {p : Int} (hp : p ∈ l) : Az5 places pieces start (Azt xss i p) /\ (Azt xss i p).length = xss.length := by
 have hil := (List.getElem?_eq_some_iff.1 hi).1
 refine ⟨⟨h.1, h.2.1, h.2.2.1, h.2.2.2.1, h.2.2.2.2.1, h.2.2.2.2.2.1, h.2.2.2.2.2.2.1, fun xs hxs => ?_⟩, ?_⟩
 ·rcases List.mem_append.1 hxs with hx | hx
  ·exact h.2.2.2.2.2.2.2 xs (List.mem_of_mem_take hx)
  ·rcases List.mem_cons.1 hx with rfl | hx
   ·have := (h.2.2.2.2.2.2.2 l (List.mem_of_getElem? hi)).2.2 p hp
    exact ⟨by simp, List.pairwise_singleton _ _, fun x hx => by rw [List.mem_singleton.1 hx]; exact this⟩
   ·exact h.2.2.2.2.2.2.2 xs (List.mem_of_mem_drop hx)
 ·simp [Azt]; omega
def Axk := And.intro (fun H => Aqx (H := H) Tryz.underlying25 rfl Tryz.sizeOf25) (And.intro @Bk3 (And.intro @Ckn (And.intro @By7 (And.intro (fun H => Aq1 (H := H) (P := Tryz.prog) (h := Tryz.zeroValue120)) (And.intro (fun H => Aq3 (H := H) Tryz.sizeOf120) (And.intro (fun H => Aqh (H := H) Tryz.underlying120 (i := 1) rfl (off := 1) rfl Tryz.sizeOf3) (And.intro (fun H => Aqd (H := H) Tryz.underlying3 rfl) (And.intro (fun H => Aqh (H := H) Tryz.underlying120 (i := 0) rfl (off := 0) rfl Tryz.sizeOf3) (And.intro (fun H => Aqh (H := H) Tryz.underlying25 (i := 3) rfl (off := 3) rfl Tryz.sizeOf23) (And.intro (fun H => Aqd (H := H) Tryz.underlying23 rfl) (And.intro (fun H => Aq5 (H := H) Tryz.underlying23) (And.intro (fun H => Aqq (H := H) Tryz.underlying23 Tryz.sizeOf22) (And.intro (fun H => Aqd (H := H) Tryz.underlying22 rfl) (And.intro (fun H => Aq5 (H := H) Tryz.underlying22) (And.intro (fun H => Aqq (H := H) Tryz.underlying22 Tryz.sizeOf3) (And.intro (fun H => Aq1 (H := H) (P := Tryz.prog) (h := Tryz.zeroValue25)) (And.intro (fun H => Aq3 (H := H) Tryz.sizeOf25) (And.intro (fun H => Bvy (H := H) Tryz.underlying23 Tryz.sizeOf22) (And.intro (fun H => Bvz (H := H) Tryz.underlying23 Tryz.sizeOf22) (And.intro (fun H => Bxx (H := H) Tryz.underlying23 Tryz.sizeOf22) (And.intro (fun H => Avc (H := H) Tryz.underlying23 Tryz.sizeOf22) (And.intro @Axp (And.intro @Bx9 (And.intro (fun H => Ajy (H := H) Tryz.sizeOf23) @Cqn))))))))))))))))))))))))
theorem Dka {p q : Prop} (g : q) (h : Hid q -> p := by
 intro g
 repeat' (first
 | (refine Axn rfl ?_; intro Kz hKz; simp -implicitDefEqProofs (disch := first | omega | (simp only [qd] <;> omega)) only [xq, ↓xp, qc, Nat.reduceAdd, List.range, List.range.loop, fine, Nat.reduceEqDiff, ↓reduceIte, yielded, reduceCtorEq, Nat.reduceLT, Nat.reduceMul, Nat.reduceSub, one, Nat.reduceLeDiff, Aqa, Axk, aq, ↓ap, qe0, qe1, qe2, *, -g, -hKz, Avc Tryz.underlying23 Tryz.sizeOf22]; try (refine hKz _ _ ?_; clear hKz Kz))
 | (refine Axs rfl ?_; intro Kz hKz; simp -implicitDefEqProofs (disch := first | omega | (simp only [qd] <;> omega)) only [xq, ↓xp, qc, Nat.reduceAdd, List.range, List.range.loop, fine, Nat.reduceEqDiff, ↓reduceIte, yielded, reduceCtorEq, Nat.reduceLT, Nat.reduceMul, Nat.reduceSub, one, Nat.reduceLeDiff, Aqa, Axk, aq, ↓ap, qe0, qe1, qe2, *, -g, -hKz, Avc Tryz.underlying23 Tryz.sizeOf22]; try (refine hKz _ _ ?_; clear hKz Kz; (try simp only [nq, ↓reduceIte, Nat.reduceEqDiff])))
 | (refine Aqu ?_; (try simp only [nq, ↓reduceIte, Nat.reduceEqDiff]))
 | (refine Axr ?_; (try simp only [nq, ↓reduceIte, Nat.reduceEqDiff]))
 | (refine Axa ?_; (try simp only [nq, ↓reduceIte, Nat.reduceEqDiff]))
 | (refine Azb ?_; (try simp only [nq, ↓reduceIte, Nat.reduceEqDiff]))
 | (refine Axy (by simp only [Aqm, Aqr, Nat.reduceEqDiff, Nat.reduceLT, ↓reduceIte, *, -g]; rfl) ?_ ?_ <;> (intro hcz; first | (exfalso; simp -implicitDefEqProofs (disch := omega) only [*, -g, bq, reduceCtorEq] at hcz; done) | (simp only [dq, qe3, qe4, qe5, qe6] at hcz) | skip))
 | (refine Axq ?_)
 | (refine Aqo ?_)
 | (refine Aql ?_))
 (try (revert Kz; refine unK ?_)); (repeat (revert hcz; refine unC ?_))
 exact Hid.out g) : Hid p := ⟨h ⟨g⟩⟩
theorem Dj9 {p q : Prop} (g : q) (h : Hid q -> p := by
 intro g
 simp -implicitDefEqProofs (disch := first | omega | (simp only [qd] <;> omega)) only [xq, ↓xp, qc, Nat.reduceAdd, List.range, List.range.loop, fine, Nat.reduceEqDiff, ↓reduceIte, yielded, reduceCtorEq, Nat.reduceLT, Nat.reduceMul, Nat.reduceSub, one, Nat.reduceLeDiff, Aqa, Axk, aq, ↓ap, qe0, qe1, qe2, *, -g, -hK, Avc Tryz.underlying23 Tryz.sizeOf22]
 exact Hid.out g) : Hid p := ⟨h ⟨g⟩⟩
def widF (places : Int) (start : List Int) (xss : List (List Int)) : Int := (bdT (fewF places start) (Aqz xss)).hi - (bdT (fewF places start) (Aqz xss)).lo
def Bj7 (W : Int -> Int) (l : List Int) : Int := l.foldl (fun m p => if m < W p then W p else m) 0
def Aj1 (W : Int) (M : Nat -> Int) (xss : List (List Int)) : Nat -> Int × Int
 | 0 => (-1, W)
 | i + 1 => if (xss.getD i []).length < 2 then Aj1 W M xss i else if M i < (Aj1 W M xss i).2 then ((i : Int), M i) else Aj1 W M xss i
def askM (places : Int) (start : List Int) (xss : List (List Int)) (i : Nat) : Int := Bj7 (fun p => widF places start (Azt xss i p)) (xss.getD i [])
def askF (places : Int) (start : List Int) (xss : List (List Int)) : Int × Int := Aj1 (widF places start xss) (askM places start xss) xss xss.length
theorem Bql : ∀ (xss : List (List Int)) (ts : List Int), ts ∈ Aqz xss ↔ Azz xss ts
 | [], ts => by
  simp only [Aqz, List.mem_singleton, Azz, List.length_nil, List.length_eq_zero_iff]
  exact ⟨fun h => ⟨h, fun i t xs h1 h2 => by simp at h2⟩, fun h => h.1⟩
 | l :: r, ts => by
  simp only [Aqz, List.mem_flatMap, List.mem_map]
  constructor
  ·rintro ⟨p, hp, t, ht, rfl⟩
   have ih := (Bql r t).1 ht
   refine ⟨by simp [ih.1], fun i x xs h1 h2 => ?_⟩
   cases i with
   | zero =>
    simp only [List.getElem?_cons_zero, Option.some.injEq] at h1 h2
    subst h1 h2
    exact hp
   | succ i =>
    simp only [List.getElem?_cons_succ] at h1 h2
    exact ih.2 i x xs h1 h2
  ·rintro ⟨h1, h2⟩
   cases ts with
   | nil => simp at h1
   | cons p t =>
    refine ⟨p, h2 0 p l rfl rfl, t, (Bql r t).2 ⟨by simpa using h1, fun i x xs h3 h4 => h2 (i + 1) x xs h3 h4⟩, rfl⟩
theorem Cjs {xss : List (List Int)} {places pieces : Int} {start : List Int} (h : Az5 places pieces start xss) (h8 : xss.length <= 8) : (∀ t ∈ Aqz xss, TrA t) /\ Aqz xss ≠ [] := by
 refine ⟨fun t ht => ?_, Ayl xss fun l hl => (h.2.2.2.2.2.2.2 l hl).1⟩
 have ht2 := (Bql xss t).1 ht
 exact ⟨by rw [ht2.1]; exact h8, ht2.bnd h⟩
theorem Ck5 {xss : List (List Int)} {places pieces : Int} {start : List Int} (h : Az5 places pieces start xss) (h8 : xss.length <= 8) : 0 <= (bdT (fewF places start) (Aqz xss)).lo /\ (bdT (fewF places start) (Aqz xss)).lo <= (bdT (fewF places start) (Aqz xss)).hi /\ (bdT (fewF places start) (Aqz xss)).hi <= 8 := by
 obtain ⟨h1, h2⟩ := Cjs h h8
 have hb := Cj8 (fewF places start) _ h2
 have hp : ∀ x, (∃ t ∈ Aqz xss, fewF places start t = x) -> 0 <= x /\ x <= 8 := fun x ⟨t, ht, e⟩ => by
  subst e
  have := Bvs t.length places h.1 t (oOf start) (Nat.le_refl _)
  have := (h1 t ht).1
  unfold fewF
  omega
 have a := hp _ hb.2.1
 have b := hp _ hb.2.2.1
 have c := hb.2.2.2 _ hb.2.1
 exact ⟨a.1, c.2, b.2⟩
theorem Cv9 (H : Hp) (places pieces : Int) (sv cv : Value) (start : List Int) (xss : List (List Int)) (hv : Akt H places pieces sv cv start xss) :
  FnX Tryz.prog (.wg Tryz.prog) 51 #[.agg #[.int .i64 places, .int .i64 pieces, sv, cv]] H fun e H' => e = .returned (.tuple #[.int .i64 (if (askF places start xss).1 < 0 then 0 else (askF places start xss).1), .int .i64 (if (askF places start xss).1 < 0 then 0 else (askF places start xss).2), .int .i64 (if (askF places start xss).1 < 0 then 11 else 0)]) /\ H.le H' := by
 obtain ⟨sa, sn, sc, rfl⟩ := hv.st.isSlice
 obtain ⟨ca, cc, rfl, hcc, _⟩ := id hv.calls
 refine Aqk Tryz.func51 rfl Tryz.ntmps51 (by simp) ?_
 (refine @unH _ ?_; refine zA Axk ?_; (repeat (refine inC ?_; intro hc)); try (refine inK ?_; intro K hK))
 (intro vb hvb; generalize hG : Hp.set _ vb _ = H1; have lH1 := Aqg hG hvb; have vvb := Aqf hG; clear hG)
 have hv1 := hv.le lH1
 ((try (refine @unH _ ?_; refine zX Axk ?_)); (try (refine hK _ _ ?_; clear hK K; (try simp only [nq, ↓reduceIte, Nat.reduceEqDiff]))); refine @unH _ ?_; refine zA Axk ?_; (repeat (refine inC ?_; intro hc)); try (refine inK ?_; intro K hK))
 refine (Ayf _ H1 places pieces _ _ start xss hv1.st hv1.calls hv1.ok hv1.few).runs.mono ?_
 rintro _ H3 ⟨rfl, lH3⟩
 have hv3 := hv1.le lH3
 have vvb3 := lH3 _ _ vvb
 have l03 := Hp.le_trans lH1 lH3
 clear vvb lH3 lH1 hvb hv1
 ((try (refine @unH _ ?_; refine zX Axk ?_)); (try (refine hK _ _ ?_; clear hK K; (try simp only [nq, ↓reduceIte, Nat.reduceEqDiff]))); refine @unH _ ?_; refine zA Axk ?_; (repeat (refine inC ?_; intro hc)); try (refine inK ?_; intro K hK))
 have hov := fun HX (hX : H3.le HX) => Azo (Bq7 HX places pieces _ _ start xss _ _ (hv3.le hX).st (hv3.le hX).calls hv.ok hv.few (Av4 HX places start hv.stA))
 have hfw := fun HX => Azo (Ayc (.wg Tryz.prog) HX)
 replace hov : Aqs _ := hov
 replace hfw : Aqs _ := hfw
 have hW : Aqs (widF places start xss = (bdT (fewF places start) (Aqz xss)).hi - (bdT (fewF places start) (Aqz xss)).lo) := rfl
 have hbd := Ck5 hv.ok hv.few
 generalize bdT (fewF places start) (Aqz xss) = B at *
 obtain ⟨blo, bhi, bsm⟩ := B
 simp only [bdV] at hov
 simp only at hbd
 refine Ajl (fun HX => H3.le HX) [4] (.take 0 (.take 1 (.take 2 (.one 3 (.one 4 .nil))))) (by kernel_rfl) (by kernel_rfl) (by decide) (by kernel_rfl) ?_; intro K hK
 have hle0 : H3.le H3 := Hp.le_refl _
 (apply Axd rfl rfl rfl ‹_›; (focus (intro HX hHX; simp -implicitDefEqProofs (disch := first | omega | (simp only [qd] <;> omega)) only [xq, ↓xp, qc, Nat.reduceAdd, List.range, List.range.loop, fine, Nat.reduceEqDiff, ↓reduceIte, yielded, reduceCtorEq, Nat.reduceLT, Nat.reduceMul, Nat.reduceSub, one, Nat.reduceLeDiff, Aqa, Axk, aq, ↓ap, qe0, qe1, qe2, *, -hK, Aq0, hHX _ _ vvb3] <;> (first | exact rfl | exact ⟨rfl, rfl⟩ | exact ⟨rfl, trivial⟩))); simp -implicitDefEqProofs (disch := first | omega | (simp only [qd] <;> omega)) only [Aqn, Aqc])
 (apply Axd rfl rfl rfl ‹_›; (focus (intro HX hHX; simp -implicitDefEqProofs (disch := first | omega | (simp only [qd] <;> omega)) only [xq, ↓xp, qc, Nat.reduceAdd, List.range, List.range.loop, fine, Nat.reduceEqDiff, ↓reduceIte, yielded, reduceCtorEq, Nat.reduceLT, Nat.reduceMul, Nat.reduceSub, one, Nat.reduceLeDiff, Aqa, Axk, aq, ↓ap, qe0, qe1, qe2, *, -hK, Azl]; exact hfw HX)); simp -implicitDefEqProofs (disch := first | omega | (simp only [qd] <;> omega)) only [Aqn, Aqc])
 (apply Axd rfl rfl rfl ‹_›; (focus (intro HX hHX; simp -implicitDefEqProofs (disch := first | omega | (simp only [qd] <;> omega)) only [xq, ↓xp, qc, Nat.reduceAdd, List.range, List.range.loop, fine, Nat.reduceEqDiff, ↓reduceIte, yielded, reduceCtorEq, Nat.reduceLT, Nat.reduceMul, Nat.reduceSub, one, Nat.reduceLeDiff, Aqa, Axk, aq, ↓ap, qe0, qe1, qe2, *, -hK, Azl]; exact hov HX hHX)); simp -implicitDefEqProofs (disch := first | omega | (simp only [qd] <;> omega)) only [Aqn, Aqc])
 refine Aq6 ?_
 (refine @unH _ ?_; refine zX Axk ?_)
 intro bb hbb
 refine ⟨.inr fun _ => Hp.le_set hbb, ?_⟩
 have vbb : (H3.set bb (.cells #[.int .i64 0, .int .i64 0, .bool false] 120 (0, 0))) bb = _ := Aqw
 refine Aq6 ?_
 (refine @unH _ ?_; refine zX Axk ?_)
 refine ⟨.inl (by decide), ?_⟩
 clear vbb hle0
 refine Azw (hK _ _ ?_)
 clear hK K
 (try simp only [nq, ↓reduceIte, Nat.reduceEqDiff])
 have l34 := Hp.le_set (o := .cells #[.int .i64 blo, .int .i64 bhi, .bool bsm] 120 (0, 0)) hbb
 have vbb4 : (H3.set bb (.cells #[.int .i64 blo, .int .i64 bhi, .bool bsm] 120 (0, 0))) bb = _ := Aqw
 generalize Hp.set H3 bb _ = H4 at l34 vbb4 ⊢
 have vvb4 := l34 _ _ vvb3
 have l04 := Hp.le_trans l03 l34
 clear l34 vvb3 hv3 hbb hov hfw
 refine Aql ?_
 (refine Az2 7 [(true, 0), (true, 1), (true, 2), (true, 3), (true, 4), (true, 5), (true, 6)] (by kernel_rfl) (by kernel_rfl) (by simp) (by kernel_rfl) ?_; intro K hK; (iterate 7 (refine @unH _ ?_; refine z3 Axk ?_)); refine Ax1 (hK _ _ ?_); clear hK K; (try simp only [nq, ↓reduceIte, Nat.reduceEqDiff]))
 (refine @unH _ ?_; refine zA Axk ?_; (repeat (refine inC ?_; intro hc)); try (refine inK ?_; intro K hK))
 have hW2 : widF places start xss = bhi - blo := hW
 have hst0 : (Aj1 (bhi - blo) (askM places start xss) xss 0) = (-1, bhi - blo) := rfl
 have hask : Aqs (askF places start xss = Aj1 (bhi - blo) (askM places start xss) xss xss.length) := by
  show askF places start xss = _
  unfold askF
  rw [hW2]
 clear hW hW2 hbd vbb4
 generalize askF places start xss = Z at *
 generalize bhi - blo = W0 at *
 refine Axe (fun w a' H' => ∃ e i, w = xss.length - i /\ i <= xss.length /\ a' = act 85 e [] /\ e 1 = .pointer (some ⟨vb, 0, none⟩) /\ e 2 = .int .i64 (Aj1 W0 (askM places start xss) xss i).1 /\ e 3 = .int .i64 (Aj1 W0 (askM places start xss) xss i).2 /\ e 28 = .slice ca xss.length cc /\ e 29 = .int .i64 xss.length /\ e 30 = .int .i64 (i : Nat) /\
  H' vb = some (true, .cells #[.int .i64 places, .int .i64 pieces, .slice sa sn sc, .slice ca xss.length cc] 25 (0, 0)) /\ H.le H') (n := xss.length) ?_ ?_
 ·exact ⟨_, 0, by omega, by omega, rfl, rfl, rfl, rfl, rfl, rfl, rfl, vvb4, l04⟩
 ·clear vvb4 l04 l03 H4 hst0
  rintro w a' H5 ⟨e, i, rfl, hi, rfl, e1, e2, e3, e28, e29, e30, vvb5, l05⟩
  have hv5 := hv.le l05
  have h8 := hv.few
  by_cases hlt : i < xss.length
  ·have hxi := List.getElem?_eq_getElem hlt
   have hgi : xss.getD i [] = xss[i] := by simp [List.getD, hxi]
   have hci := hv.ok.2.2.2.2.2.2.2 _ (List.getElem_mem hlt)
   have hstep : Aj1 W0 (askM places start xss) xss (i + 1) = if xss[i].length < 2 then Aj1 W0 (askM places start xss) xss i else if Bj7 (fun p => widF places start (Azt xss i p)) xss[i] < (Aj1 W0 (askM places start xss) xss i).2 then ((i : Int), Bj7 (fun p => widF places start (Azt xss i p)) xss[i]) else Aj1 W0 (askM places start xss) xss i := by
    simp only [Aj1, askM, hgi]
   obtain ⟨_, _, hve, _, hgx⟩ := id hv5.calls
   cases hve
   obtain ⟨cb, co, cp, cs, cf, rv, rfl, hcb, hrv, hrl⟩ := hgx i xss[i] hxi
   have hil := fun p (hp : p ∈ xss[i]) => Ck5 (Bjc hv.ok hxi hp).1 (by rw [(Bjc hv.ok hxi hp).2]; exact hv.few)
   have hkx := fun p (hp : p ∈ xss[i]) => Bjc hv.ok hxi hp
   clear hgx
   have hll : xss[i].length <= 6 := by
    have := Byy pieces xss[i] 0 hci.2.1 (fun x hx => by have := hci.2.2 x hx; have := hv.ok.2.2.1; omega)
    have := hv.ok.2.2.2.1
    omega
   generalize xss[i] = l at *
   obtain ⟨la, lc, rfl, hlc, hlx⟩ := id hrl
   generalize hS0 : Aj1 W0 (askM places start xss) xss i = S0 at *
   generalize hS1 : Aj1 W0 (askM places start xss) xss (i + 1) = S1 at *
   replace hstep : Aqs _ := hstep
   replace hS0 : Aqs _ := hS0
   replace hS1 : Aqs _ := hS1
   replace hxi : Aqs _ := hxi
   replace hil : Aqs _ := hil
   replace hkx : Aqs _ := hkx
   by_cases h2 : l.length < 2
   ·have hS : Aj1 W0 (askM places start xss) xss (i + 1) = S0 := by
     have h : S1 = if l.length < 2 then S0 else _ := hstep
     rw [show Aj1 W0 (askM places start xss) xss (i + 1) = S1 from hS1, h, if_pos h2]
    replace hS : Aqs _ := hS
    (refine @unH _ ?_; refine zA Axk ?_; (repeat (refine inC ?_; intro hc)); try (refine inK ?_; intro K hK))
    exact ⟨_, by omega, _, i + 1, rfl, hlt, rfl, e1, by rw [show Aj1 W0 (askM places start xss) xss (i + 1) = S0 from hS]; exact e2, by rw [show Aj1 W0 (askM places start xss) xss (i + 1) = S0 from hS]; exact e3, e28, e29, rfl, vvb5, l05⟩
   ·(refine @unH _ ?_; refine zA Axk ?_; (repeat (refine inC ?_; intro hc)); try (refine inK ?_; intro K hK))
    refine Axe (fun w a' H' => ∃ e k, w = l.length - k /\ k <= l.length /\ a' = act 85 e [] /\ e 1 = .pointer (some ⟨vb, 0, none⟩) /\ e 2 = .int .i64 S0.1 /\ e 3 = .int .i64 S0.2 /\ e 7 = .int .i64 (i : Nat) /\ e 9 = .int .i64 (Bj7 (fun p => widF places start (Azt xss i p)) (l.take k)) /\ e 28 = .slice (some ⟨cb, co, none⟩) xss.length cc /\ e 29 = .int .i64 xss.length /\ e 30 = .int .i64 (i : Nat) /\ e 38 = .slice la l.length lc /\ e 39 = .int .i64 l.length /\ e 40 = .int .i64 (k : Nat) /\
     H' vb = some (true, .cells #[.int .i64 places, .int .i64 pieces, .slice sa sn sc, .slice (some ⟨cb, co, none⟩) xss.length cc] 25 (0, 0)) /\ H.le H' /\ H5.le H') (n := l.length) ?_ ?_
    ·exact ⟨_, 0, by omega, by omega, rfl, e1, e2, e3, rfl, rfl, e28, e29, e30, rfl, rfl, rfl, vvb5, l05, Hp.le_refl _⟩
    ·rintro w a' H6 ⟨e, k, rfl, hk, rfl, e1, e2, e3, e7, e9, e28, e29, e30, e38, e39, e40, vvb6, l06, l56⟩
     by_cases hkl : k < l.length
     ·obtain ⟨pb, po, pp, pc, pf, rfl, hpb, hpx⟩ := hlx k l[k] (List.getElem?_eq_getElem hkl)
      have hpm := List.getElem_mem hkl
      have htake : l.take (k + 1) = l.take k ++ [l[k]] := by rw [List.take_add_one, List.getElem?_eq_getElem hkl]; rfl
      have hpb6 := l56 _ _ hpb
      have hv6 := hv.le l06
      generalize l[k] = p at *
      replace htake : Aqs _ := htake
      have hil2 := (show ∀ p, p ∈ l -> _ from hil) p hpm
      have hkx2 := (show ∀ p, p ∈ l -> _ from hkx) p hpm
      replace hpm : Aqs _ := hpm
      replace hil2 : Aqs _ := hil2
      replace hkx2 : Aqs _ := hkx2
      clear hlx hcb hrv hv5 vvb5
      (refine @unH _ ?_; refine zA Axk ?_; (repeat (refine inC ?_; intro hc)); try (refine inK ?_; intro K hK))
      (intro xb hxb; generalize hG : Hp.set _ xb _ = H7; have lH7 := Aqg hG hxb; have vxb := Aqf hG; clear hG)
      have vvb7 := lH7 _ _ vvb6
      have hv7 := hv6.le lH7
      have l57 := Hp.le_trans l56 lH7
      have l07 := Hp.le_trans l06 lH7
      have hxb0 : H6 xb = none := hxb
      have nvx : vb ≠ xb := Ax0 vvb6 hxb
      obtain ⟨vs, hrows, hcells, hex⟩ := hv6.calls.vals
      have hone : ∀ u ∈ vs, one u = true := hrows.one
      clear hpb6 hv6 vvb6 hpb hil hstep hS0 hS1
      ((try (refine @unH _ ?_; refine Dj9 ?_)); (try (refine hK _ _ ?_; clear hK K; (try simp only [nq, ↓reduceIte, Nat.reduceEqDiff]))); refine @unH _ ?_; refine Dka ?_; (repeat (refine inC ?_; intro hc)); try (refine inK ?_; intro K hK))
      intro g1 hg1 g2 hg2
      replace hg2 : (Hp.set H7 g1 (.cells #[.int .i64 p] 3 (0, 0))) g2 = none := hg2
      generalize hG : Hp.set H7 g1 _ = H8 at hg2 ⊢
      have lH8 := Aqg hG hg1
      have vg1 := Aqf hG
      clear hG
      generalize hG : Hp.set H8 g2 _ = H9
      have lH9 := Aqg hG hg2
      have vg2 := Aqf hG
      clear hG
      have vg19 := lH9 _ _ vg1
      have l79 := Hp.le_trans lH8 lH9
      have l69 := Hp.le_trans lH7 l79
      have l59 := Hp.le_trans l57 l79
      have l09 := Hp.le_trans l07 l79
      have vvb9 := l79 _ _ vvb7
      have vxb9 := l79 _ _ vxb
      have hp1 : SlI H9 (.slice (some ⟨g1, 0, none⟩) 1 1) [p] := Azp (xs := [p]) vg19 rfl
      have nvx' := nvx.symm
      clear vg1 lH7 lH8 lH9 hg1 hg2 vvb7 vxb l79 hv7 l57 l07
      refine Byv Tryz.underlying23 Tryz.sizeOf22 Tryz.zeroValue22 rfl Tryz.typeInfo22 (by decide) (by decide) (cs := vs.take i) (news := [.slice (some ⟨g1, 0, none⟩) 1 1]) (n := i) (m := 1) (by rw [List.length_take, hrows.1]; omega) (fun j u hj => Dqs l69 (hcells j u ?_)) rfl (by omega) (fun j u hj => ?_) (by omega) _ _ _ _ (fun v2 H10 hrow10 l910 => ?_)
      ·have hji : j < i := by have := (List.getElem?_eq_some_iff.1 hj).1; simp at this; omega
       rwa [List.getElem?_take_of_lt hji] at hj
      ·rw [Nat.zero_add, cell_of vg2]
       simpa using hj
      have vxb10 := l910 _ _ vxb9
      have vvb10 := l910 _ _ vvb9
      have hp10 := hp1.le l910
      have hrow6 := hrow10.base (Lex.of l69)
      have l610 := Hp.le_trans l69 l910
      clear hrow10 hp1 vvb9 vxb9 l69 l59 l09 l910 vg2 vg19
      have hl2 : (vs.take i ++ [Value.slice (some ⟨g1, 0, none⟩) 1 1]).length = i + 1 := by rw [List.length_append, List.length_take, hrows.1, List.length_cons, List.length_nil]; omega
      obtain ⟨v2a, v2c, rfl⟩ := hrow6.len
      rw [hl2] at hrow6 ⊢
      ((try (refine @unH _ ?_; refine zX Axk ?_)); (try (refine hK _ _ ?_; clear hK K; (try simp only [nq, ↓reduceIte, Nat.reduceEqDiff]))); refine @unH _ ?_; refine zA Axk ?_; (repeat (refine inC ?_; intro hc)); try (refine inK ?_; intro K hK))
      generalize hG : Hp.set H10 xb _ = H11
      have vxb11 := Aqf hG
      have vvb11 := Aze hG vvb10 nvx
      have lex11 : Lex none H6 H11 := by rw [<- hG]; exact (Lex.of l610).own hxb0
      have hrow11 : RowX none H6 H11 (.slice v2a (i + 1) v2c) 22 (vs.take i ++ [Value.slice (some ⟨g1, 0, none⟩) 1 1]) := by rw [<- hG]; exact hrow6.own hxb0 vxb10 (by decide)
      have hp11 : SlI H11 (.slice (some ⟨g1, 0, none⟩) 1 1) [p] := by rw [<- hG]; exact hp10.set (fun p c fr e => by rw [vxb10] at e; cases e)
      clear hG hrow6 hp10 vxb10 vvb10 l610
      have hso : ∃ so : Nat, (if cc = ((i : Int) + 1).toNat then some (⟨cb, co, none⟩ : Addr) else some ⟨cb, co + ((i : Int) + 1).toNat, none⟩) = some ⟨cb, so, none⟩ /\ (0 < xss.length - ((i : Int) + 1).toNat -> so = co + (i + 1)) := by
       by_cases hc1 : cc = ((i : Int) + 1).toNat
       ·exact ⟨co, by rw [if_pos hc1], fun h => by omega⟩
       ·exact ⟨co + ((i : Int) + 1).toNat, by rw [if_neg hc1], fun _ => by omega⟩
      obtain ⟨so, hso, hso2⟩ := hso
      refine Ajl (fun HX => HX xb = some (true, .cells #[.int .i64 places, .int .i64 pieces, .slice sa sn sc, .slice v2a (i + 1) v2c] 25 (0, 0)) /\ HX vb = some (true, .cells #[.int .i64 places, .int .i64 pieces, .slice sa sn sc, .slice (some ⟨cb, co, none⟩) xss.length cc] 25 (0, 0))) [7, 8, 9] (.take 0 (.take 1 (.take 2 (.take 3 (.take 4 (.take 5 (.take 6 (.one 7 (.one 8 (.one 9 .nil)))))))))) (by kernel_rfl) (by kernel_rfl) (by decide) (by kernel_rfl) ?_; intro K hK
      have hSx := And.intro vxb11 vvb11
      (iterate 7 (apply Axd rfl rfl rfl ‹_›; (focus (intro HX hHX; simp -implicitDefEqProofs (disch := first | omega | (simp only [qd] <;> omega)) only [xq, ↓xp, qc, Nat.reduceAdd, List.range, List.range.loop, fine, Nat.reduceEqDiff, ↓reduceIte, yielded, reduceCtorEq, Nat.reduceLT, Nat.reduceMul, Nat.reduceSub, one, Nat.reduceLeDiff, Aqa, Axk, aq, ↓ap, qe0, qe1, qe2, *, -hK, Aq0, hHX.1, hHX.2] <;> (first | exact rfl | exact ⟨rfl, rfl⟩ | exact ⟨rfl, trivial⟩))); simp -implicitDefEqProofs (disch := first | omega | (simp only [qd] <;> omega)) only [Aqn, Aqc]))
      refine Aq6 ?_
      (refine @unH _ ?_; refine zX Axk ?_)
      have hsx : rowB (.slice v2a (i + 1) v2c) ≠ some xb := hrow11.rowB_ne fun c fr h => by rw [vxb11] at h; cases h
      have hsv : rowB (.slice v2a (i + 1) v2c) ≠ some vb := hrow11.rowB_ne fun c fr h => by rw [vvb11] at h; cases h
      refine Byx Tryz.underlying23 Tryz.sizeOf22 Tryz.zeroValue22 rfl Tryz.typeInfo22 (by decide) (by decide) hrow11 (news := vs.drop (i + 1)) (by rw [List.length_drop, hrows.1]; omega) (fun hm => ⟨?_, ?_, fun j u hj => ?_⟩) (fun u hu => hone u (List.mem_of_mem_drop hu)) (by rw [hl2]; omega) _ _ _ _ (fun v3 H12 hrow12 hkeep => ?_)
      ·exact (hex (fun h => by rw [h] at hlt; simp at hlt)).imp fun u hu => lex11.toLe _ _ hu
      ·intro h
       obtain ⟨u, hu⟩ := hex (fun h => by rw [h] at hlt; simp at hlt)
       rw [hrow11.rowB_new h] at hu
       cases hu
      ·rw [List.getElem?_drop] at hj
       rw [hso2 hm, Nat.add_assoc]
       exact Dqs lex11.toLe (hcells _ _ hj)
      have vxb12 := hkeep _ _ vxb11 hsx
      have vvb12 := hkeep _ _ vvb11 hsv
      have hp12 : SlI H12 (.slice (some ⟨g1, 0, none⟩) 1 1) [p] := hp11.move fun x q c fr hx => hkeep _ _ hx (hrow11.rowB_ne fun c' fr' h => by rw [hx] at h; simp only [Option.some.injEq, Prod.mk.injEq, Obj.cells.injEq] at h; exact absurd h.2.2.1 (by decide))
      have hl3 : ((vs.take i ++ [Value.slice (some ⟨g1, 0, none⟩) 1 1]) ++ vs.drop (i + 1)).length = xss.length := by rw [List.length_append, hl2, List.length_drop, hrows.1]; omega
      obtain ⟨v3a, v3c, rfl⟩ := hrow12.len
      rw [hl3] at hrow12 ⊢
      clear hkeep hsx hsv hrow11 hp11 vxb11 vvb11 lex11 hSx hl2
      (refine @unH _ ?_; refine zX Axk ?_)
      refine ⟨.inl (by decide), ?_⟩
      refine Aq6 ?_
      (refine @unH _ ?_; refine zX Axk ?_)
      refine ⟨.inl (by decide), ?_⟩
      refine Aq6 ?_
      (refine @unH _ ?_; refine zX Axk ?_)
      refine ⟨.inl (by decide), ?_⟩
      refine Azw (hK _ _ ?_)
      clear hK K hso hso2
      (try simp only [nq, ↓reduceIte, Nat.reduceEqDiff])
      generalize hG : Hp.set H12 xb _ = H13
      have vxb13 := Aqf hG
      have vvb13 := Aze hG vvb12 nvx
      have hrow13 : RowX none H6 H13 (.slice v3a xss.length v3c) 22 ((vs.take i ++ [Value.slice (some ⟨g1, 0, none⟩) 1 1]) ++ vs.drop (i + 1)) := by rw [<- hG]; exact hrow12.own hxb0 vxb12 (by decide)
      have hp13 : SlI H13 (.slice (some ⟨g1, 0, none⟩) 1 1) [p] := by rw [<- hG]; exact hp12.set (fun p c fr e => by rw [vxb12] at e; cases e)
      clear hG hrow12 hp12 vxb12 vvb12
      have l613 := hrow13.1.toLe
      have l013 := Hp.le_trans l06 l613
      have l513 := Hp.le_trans l56 l613
      have hR13 : Rows H13 ((vs.take i ++ [Value.slice (some ⟨g1, 0, none⟩) 1 1]) ++ vs.drop (i + 1)) (Azt xss i p) := by
       have h1 := hrows.mono fun v xs h => h.le l613
       have h2 := ((h1.take i).snoc hp13).app (h1.drop (i + 1))
       rw [List.append_assoc (xss.take i)] at h2
       exact h2
      have hcs13 := hrow13.rows hR13
      have hst13 := hv.st.le l013
      clear hrow13 hR13 hp13 hrows hcells hex hone l613
      have hkx3 : Az5 places pieces start (Azt xss i p) /\ (Azt xss i p).length = xss.length := hkx2
      have hov := fun HX (hX : H13.le HX) => Azo (Bq7 HX places pieces _ _ start (Azt xss i p) _ _ (hst13.le hX) (hcs13.le hX) hkx3.1 (by rw [hkx3.2]; exact h8) (Av4 HX places start hv.stA))
      have hfw := fun HX => Azo (Ayc (.wg Tryz.prog) HX)
      replace hov : Aqs _ := hov
      replace hfw : Aqs _ := hfw
      have hWp : Aqs (widF places start (Azt xss i p) = (bdT (fewF places start) (Aqz (Azt xss i p))).hi - (bdT (fewF places start) (Aqz (Azt xss i p))).lo) := rfl
      have hbd : 0 <= (bdT (fewF places start) (Aqz (Azt xss i p))).lo /\ (bdT (fewF places start) (Aqz (Azt xss i p))).lo <= (bdT (fewF places start) (Aqz (Azt xss i p))).hi /\ (bdT (fewF places start) (Aqz (Azt xss i p))).hi <= 8 := hil2
      clear hkx2 hil2 hkx3 hcs13 hst13
      generalize bdT (fewF places start) (Aqz (Azt xss i p)) = B at *
      obtain ⟨plo, phi, psm⟩ := B
      simp only [bdV] at hov
      simp only at hbd
      refine Aql ?_
      refine Ajl (fun HX => H13.le HX) [4] (.take 0 (.take 1 (.take 2 (.one 3 (.one 4 .nil))))) (by kernel_rfl) (by kernel_rfl) (by decide) (by kernel_rfl) ?_; intro K hK
      have hle0 : H13.le H13 := Hp.le_refl _
      (apply Axd rfl rfl rfl ‹_›; (focus (intro HX hHX; simp -implicitDefEqProofs (disch := first | omega | (simp only [qd] <;> omega)) only [xq, ↓xp, qc, Nat.reduceAdd, List.range, List.range.loop, fine, Nat.reduceEqDiff, ↓reduceIte, yielded, reduceCtorEq, Nat.reduceLT, Nat.reduceMul, Nat.reduceSub, one, Nat.reduceLeDiff, Aqa, Axk, aq, ↓ap, qe0, qe1, qe2, *, -hK, Aq0, hHX _ _ vxb13] <;> (first | exact rfl | exact ⟨rfl, rfl⟩ | exact ⟨rfl, trivial⟩))); simp -implicitDefEqProofs (disch := first | omega | (simp only [qd] <;> omega)) only [Aqn, Aqc])
      (apply Axd rfl rfl rfl ‹_›; (focus (intro HX hHX; simp -implicitDefEqProofs (disch := first | omega | (simp only [qd] <;> omega)) only [xq, ↓xp, qc, Nat.reduceAdd, List.range, List.range.loop, fine, Nat.reduceEqDiff, ↓reduceIte, yielded, reduceCtorEq, Nat.reduceLT, Nat.reduceMul, Nat.reduceSub, one, Nat.reduceLeDiff, Aqa, Axk, aq, ↓ap, qe0, qe1, qe2, *, -hK, Azl]; exact hfw HX)); simp -implicitDefEqProofs (disch := first | omega | (simp only [qd] <;> omega)) only [Aqn, Aqc])
      (apply Axd rfl rfl rfl ‹_›; (focus (intro HX hHX; simp -implicitDefEqProofs (disch := first | omega | (simp only [qd] <;> omega)) only [xq, ↓xp, qc, Nat.reduceAdd, List.range, List.range.loop, fine, Nat.reduceEqDiff, ↓reduceIte, yielded, reduceCtorEq, Nat.reduceLT, Nat.reduceMul, Nat.reduceSub, one, Nat.reduceLeDiff, Aqa, Axk, aq, ↓ap, qe0, qe1, qe2, *, -hK, Azl]; exact hov HX hHX)); simp -implicitDefEqProofs (disch := first | omega | (simp only [qd] <;> omega)) only [Aqn, Aqc])
      refine Aq6 ?_
      (refine @unH _ ?_; refine zX Axk ?_)
      intro qb hqb
      refine ⟨.inr fun _ => Hp.le_set hqb, ?_⟩
      have vqb : (H13.set qb (.cells #[.int .i64 0, .int .i64 0, .bool false] 120 (0, 0))) qb = _ := Aqw
      refine Aq6 ?_
      (refine @unH _ ?_; refine zX Axk ?_)
      refine ⟨.inl (by decide), ?_⟩
      clear vqb hle0
      refine Azw (hK _ _ ?_)
      clear hK K
      (try simp only [nq, ↓reduceIte, Nat.reduceEqDiff])
      have l134 := Hp.le_set (o := .cells #[.int .i64 plo, .int .i64 phi, .bool psm] 120 (0, 0)) hqb
      have vqb4 : (H13.set qb (.cells #[.int .i64 plo, .int .i64 phi, .bool psm] 120 (0, 0))) qb = _ := Aqw
      generalize Hp.set H13 qb _ = H14 at l134 vqb4 ⊢
      have vvb14 := l134 _ _ vvb13
      have l014 := Hp.le_trans l013 l134
      have l514 := Hp.le_trans l513 l134
      clear l134 vvb13 vxb13 hqb hov hfw l013 l513
      (refine @unH _ ?_; refine zA Axk ?_; (repeat (refine inC ?_; intro hc)); try (refine inK ?_; intro K hK))
      refine ⟨l.length - (k + 1), by omega, _, k + 1, rfl, hkl, rfl, e1, e2, e3, e7, ?_, e28, e29, e30, e38, e39, rfl, vvb14, l014, l514⟩
      show Value.int .i64 (if Bj7 (fun p => widF places start (Azt xss i p)) (l.take k) < phi - plo then phi - plo else Bj7 (fun p => widF places start (Azt xss i p)) (l.take k)) = _
      have hW3 : widF places start (Azt xss i p) = phi - plo := hWp
      rw [show l.take (k + 1) = l.take k ++ [p] from htake]
      unfold Bj7
      rw [Cz9, hW3]
     ·obtain rfl : k = l.length := by omega
      rw [List.take_length] at e9
      have hst2 : S1 = if Bj7 (fun p => widF places start (Azt xss i p)) l < S0.2 then ((i : Int), Bj7 (fun p => widF places start (Azt xss i p)) l) else S0 := by
       have h : S1 = if l.length < 2 then S0 else _ := hstep
       rw [h, if_neg h2]
      clear hstep hlx
      generalize Bj7 (fun p => widF places start (Azt xss i p)) l = M at *
      replace hst2 : Aqs _ := hst2
      by_cases hM : M < S0.2
      ·have hS : Aj1 W0 (askM places start xss) xss (i + 1) = ((i : Int), M) := by
        have h : S1 = if M < S0.2 then ((i : Int), M) else S0 := hst2
        rw [show Aj1 W0 (askM places start xss) xss (i + 1) = S1 from hS1, h, if_pos hM]
       replace hS : Aqs _ := hS
       clear hst2 hS1
       (refine @unH _ ?_; refine zA Axk ?_; (repeat (refine inC ?_; intro hc)); try (refine inK ?_; intro K hK))
       exact ⟨_, by omega, _, i + 1, rfl, hlt, rfl, e1, by rw [show Aj1 W0 (askM places start xss) xss (i + 1) = _ from hS]; rfl, by rw [show Aj1 W0 (askM places start xss) xss (i + 1) = _ from hS]; rfl, e28, e29, rfl, vvb6, l06⟩
      ·have hS : Aj1 W0 (askM places start xss) xss (i + 1) = S0 := by
        have h : S1 = if M < S0.2 then ((i : Int), M) else S0 := hst2
        rw [show Aj1 W0 (askM places start xss) xss (i + 1) = S1 from hS1, h, if_neg hM]
       replace hS : Aqs _ := hS
       clear hst2 hS1
       (refine @unH _ ?_; refine zA Axk ?_; (repeat (refine inC ?_; intro hc)); try (refine inK ?_; intro K hK))
       exact ⟨_, by omega, _, i + 1, rfl, hlt, rfl, e1, by rw [show Aj1 W0 (askM places start xss) xss (i + 1) = _ from hS]; exact e2, by rw [show Aj1 W0 (askM places start xss) xss (i + 1) = _ from hS]; exact e3, e28, e29, rfl, vvb6, l06⟩
  ·obtain rfl : i = xss.length := by omega
   rw [<- show Z = Aj1 W0 (askM places start xss) xss xss.length from hask] at e2 e3
   clear hask
   by_cases hz : Z.1 < 0
   ·(refine @unH _ ?_; refine zA Axk ?_; (repeat (refine inC ?_; intro hc)); try (refine inK ?_; intro K hK))
    (refine @unH _ ?_; refine zC Tryz.results51 ?_)
    rw [if_pos hz, if_pos hz, if_pos hz]
    exact ⟨rfl, l05⟩
   ·(refine @unH _ ?_; refine zA Axk ?_; (repeat (refine inC ?_; intro hc)); try (refine inK ?_; intro K hK))
    (refine @unH _ ?_; refine zC Tryz.results51 ?_)
    rw [if_neg hz, if_neg hz, if_neg hz]
    exact ⟨rfl, l05⟩
end Go.Proofs.YtgniilnljeedlaaGreatDoor
end
