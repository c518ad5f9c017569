/- Texts LPlaces PVaultPlaces SVaultPlaces. -/
import Derived.Test.YtgniilnljeedlaaGreatDoorJ23
import Derived.Test.YtgniilnljeedlaaGreatDoorAFactA
import Derived.Test.YtgniilnljeedlaaGreatDoorAFactVB
import Derived.Test.YtgniilnljeedlaaGreatDoorAFactVC
set_option linter.defProp false
set_option linter.unusedSimpArgs false
set_option linter.unusedVariables false
set_option maxRecDepth 100000
set_option maxHeartbeats 2000000
section
namespace Go.Proofs.YtgniilnljeedlaaGreatDoor
open Go Go.X
def y10_131 := And.intro @callF23 (And.intro @callF46 (And.intro (fun H => Aq0 (H := H) (P := Tryz.prog) (h := Tryz.zeroValue25)) (And.intro (fun H => Aq3 (H := H) Tryz.sizeOf25) (And.intro @Bxo (And.intro (fun H => Aqw (H := H) Tryz.underlying25 rfl Tryz.sizeOf25) (And.intro @Dxa (And.intro (fun H => Aq4 (H := H) Tryz.underlying22) (And.intro (fun H => Aqg (H := H) Tryz.underlying25 (i := 2) rfl (off := 2) rfl Tryz.sizeOf22) (And.intro (fun H => Aqd (H := H) Tryz.underlying22 rfl) (And.intro @Cqd (And.intro (fun H => Aqg (H := H) Tryz.underlying25 (i := 0) rfl (off := 0) rfl Tryz.sizeOf3) (And.intro (fun H => Axk (H := H) Tryz.sizeOf3) (And.intro @Dq7 (And.intro @Dq4 (And.intro @eqG_bool @callF22)))))))))))))))
theorem plF_some {P : Int -> Bool} : ∀ (k : Nat) (lo m : Int), plF P k lo = some m -> P m = true /\ lo <= m
 | 0, _, _, h => by cases h
 | k + 1, lo, m, h => by
  unfold plF at h
  split at h
  ·cases h; exact ⟨‹_›, Int.le_refl _⟩
  ·have := plF_some k (lo + 1) m h
   exact ⟨this.1, by omega⟩
theorem plF_hit {P : Int -> Bool} : ∀ (k : Nat) (lo n : Int), lo <= n -> n < lo + k -> P n = true -> ∃ m, plF P k lo = some m /\ m <= n
 | 0, lo, n, h, h', _ => by omega
 | k + 1, lo, n, h, h', hp => by
  unfold plF
  split
  ·exact ⟨lo, rfl, h⟩
  ·have : lo ≠ n := fun e => by subst e; contradiction
   exact plF_hit k (lo + 1) n (by omega) (by omega) hp
theorem opt_mono {ts start : List Int} (hs : ∀ y ∈ start, 0 <= y /\ y < 6) (hb : ∀ t ∈ ts, 0 <= t /\ t < 6) (m : Nat) (h1 : 1 <= m) (hm : start.length <= m) : ∀ k : Nat, optF ts.length ((m + k : Nat) : Int) ts (oOf start) <= optF ts.length (m : Int) ts (oOf start)
 | 0 => Nat.le_refl _
 | k + 1 => by
  have hf := Bjq (pl := ((m + k : Nat) : Int)) hs (by omega)
  refine Nat.le_trans ?_ (opt_mono hs hb m h1 hm k)
  have := Cvg ts.length (pl := ((m + k : Nat) : Int)) (by omega) ts (oOf start) (oOf start) (Nat.le_refl _) hb (fun _ h => h) hf.lt (by have := hf.few; omega)
  rw [show ((m + (k + 1) : Nat) : Int) = ((m + k : Nat) : Int) + 1 by omega]
  exact this
theorem place_iff {ts start : List Int} (hs : ∀ y ∈ start, 0 <= y /\ y < 6) (hb : ∀ t ∈ ts, 0 <= t /\ t < 6) {n : Nat} (h1 : 1 <= n) (hn : start.length <= n) (h6 : n <= 6) (fetched : Int) : ((optF ts.length (n : Int) ts (oOf start) : Nat) : Int) <= fetched ↔ (Ayz start ts fetched).isSome = true /\ (Ayz start ts fetched).getD 0 <= n := by
 have hlo : (loP start : Int) <= n := by unfold loP; split <;> omega
 have hlo1 : 1 <= loP start := by unfold loP; split <;> omega
 have hlo2 : start.length <= loP start := by unfold loP; split <;> omega
 constructor
 ·intro h
  obtain ⟨m, hm, hmn⟩ := plF_hit (P := fun n => decide (fewF n start ts <= fetched)) (7 - loP start) (loP start : Nat) n hlo (by omega) (decide_eq_true h)
  rw [show Ayz start ts fetched = some m from hm]
  exact ⟨rfl, hmn⟩
 ·rintro ⟨h2, h3⟩
  cases hp : Ayz start ts fetched with
  | none => rw [hp] at h2; cases h2
  | some m =>
   rw [hp] at h3
   have h3 : m <= n := h3
   obtain ⟨hq, hl⟩ := plF_some (7 - loP start) (loP start : Nat) m hp
   have hq := of_decide_eq_true hq
   obtain ⟨q, rfl⟩ : ∃ q : Nat, m = q := ⟨m.toNat, by omega⟩
   have := opt_mono hs hb q (by omega) (by omega) (n - q)
   rw [show q + (n - q) = n by omega] at this
   unfold fewF at hq
   omega
theorem nTT (b : Bool) : (b == b) = true := by cases b <;> rfl
theorem nFF : (!true) = false := rfl
theorem lplaces_spec (H : Hp) (sa : Option Addr) (sl sc : Nat) (hs : ∀ i : Nat, i < sl -> ∃ sb so c e fr x, sa = some ⟨sb, so, none⟩ /\ H sb = some (false, .cells c e fr) /\ c[so + i]? = some (.int .i64 x)) :
  FnX Tryz.prog (.wg Tryz.prog) 10 #[.slice sa sl sc] H fun e _ => e = .returned (.bool true) := by
 refine Aqk Tryz.func10 rfl Tryz.ntmps10 (by simp) ?_
 repeat' (first
 | (refine Axl rfl ?_; intro K hK; simp -implicitDefEqProofs (disch := first | omega | (simp only [qd] <;> omega)) only [xq, ↓xp, qc, Nat.reduceAdd, List.range, List.range.loop, fine, Nat.reduceEqDiff, ↓reduceIte, yielded, reduceCtorEq, Nat.reduceLT, Nat.reduceMul, Nat.reduceSub, one, Nat.reduceLeDiff, Aqa, y10_131, aq, ↓ap, qe0, qe1, qe2, *, -hK]; try (refine hK _ _ ?_; clear hK K))
 | (refine Axv rfl ?_; intro K hK; simp -implicitDefEqProofs (disch := first | omega | (simp only [qd] <;> omega)) only [xq, ↓xp, qc, Nat.reduceAdd, List.range, List.range.loop, fine, Nat.reduceEqDiff, ↓reduceIte, yielded, reduceCtorEq, Nat.reduceLT, Nat.reduceMul, Nat.reduceSub, one, Nat.reduceLeDiff, Aqa, y10_131, aq, ↓ap, qe0, qe1, qe2, *, -hK]; try (refine hK _ _ ?_; clear hK K; (try simp only [nq, ↓reduceIte, Nat.reduceEqDiff])))
 | (refine Aqt ?_; (try simp only [nq, ↓reduceIte, Nat.reduceEqDiff]))
 | (refine Axu ?_; (try simp only [nq, ↓reduceIte, Nat.reduceEqDiff]))
 | (refine Aq7 ?_; (try simp only [nq, ↓reduceIte, Nat.reduceEqDiff]))
 | (refine Azf ?_; (try simp only [nq, ↓reduceIte, Nat.reduceEqDiff]))
 | (refine Ax1 (by simp only [Aqm, Aqr, Nat.reduceEqDiff, Nat.reduceLT, ↓reduceIte, *]; rfl) ?_ ?_ <;> (intro hc; first | (exfalso; simp -implicitDefEqProofs (disch := omega) only [*, bq, reduceCtorEq] at hc; done) | (simp only [dq, qe3, qe4, qe5, qe6] at hc) | skip))
 | (refine Axn ?_)
 | (refine Aqp ?_)
 | (refine Aql ?_))
 refine (newTin_spec _ H sa sl sc hs 240 (by omega)).runs.mono ?_
 rintro _ H1 ⟨tb, rfl, l1, hT⟩
 (try simp -implicitDefEqProofs (disch := first | omega | (simp only [qd] <;> omega)) only [xq, ↓xp, qc, Nat.reduceAdd, List.range, List.range.loop, fine, Nat.reduceEqDiff, ↓reduceIte, yielded, reduceCtorEq, Nat.reduceLT, Nat.reduceMul, Nat.reduceSub, one, Nat.reduceLeDiff, Aqa, y10_131, aq, ↓ap, qe0, qe1, qe2, *, -hK]); try (refine hK _ _ ?_; clear hK K; (try simp only [nq, ↓reduceIte, Nat.reduceEqDiff])); repeat' (first
 | (refine Axl rfl ?_; intro K hK; simp -implicitDefEqProofs (disch := first | omega | (simp only [qd] <;> omega)) only [xq, ↓xp, qc, Nat.reduceAdd, List.range, List.range.loop, fine, Nat.reduceEqDiff, ↓reduceIte, yielded, reduceCtorEq, Nat.reduceLT, Nat.reduceMul, Nat.reduceSub, one, Nat.reduceLeDiff, Aqa, y10_131, aq, ↓ap, qe0, qe1, qe2, *, -hK]; try (refine hK _ _ ?_; clear hK K))
 | (refine Axv rfl ?_; intro K hK; simp -implicitDefEqProofs (disch := first | omega | (simp only [qd] <;> omega)) only [xq, ↓xp, qc, Nat.reduceAdd, List.range, List.range.loop, fine, Nat.reduceEqDiff, ↓reduceIte, yielded, reduceCtorEq, Nat.reduceLT, Nat.reduceMul, Nat.reduceSub, one, Nat.reduceLeDiff, Aqa, y10_131, aq, ↓ap, qe0, qe1, qe2, *, -hK]; try (refine hK _ _ ?_; clear hK K; (try simp only [nq, ↓reduceIte, Nat.reduceEqDiff])))
 | (refine Aqt ?_; (try simp only [nq, ↓reduceIte, Nat.reduceEqDiff]))
 | (refine Axu ?_; (try simp only [nq, ↓reduceIte, Nat.reduceEqDiff]))
 | (refine Aq7 ?_; (try simp only [nq, ↓reduceIte, Nat.reduceEqDiff]))
 | (refine Azf ?_; (try simp only [nq, ↓reduceIte, Nat.reduceEqDiff]))
 | (refine Ax1 (by simp only [Aqm, Aqr, Nat.reduceEqDiff, Nat.reduceLT, ↓reduceIte, *]; rfl) ?_ ?_ <;> (intro hc; first | (exfalso; simp -implicitDefEqProofs (disch := omega) only [*, bq, reduceCtorEq] at hc; done) | (simp only [dq, qe3, qe4, qe5, qe6] at hc) | skip))
 | (refine Axn ?_)
 | (refine Aqp ?_)
 | (refine Aql ?_))
 refine (vaultOf_spec _ H1 tb 166 6 2 (by omega) (by omega) (by omega) hT).runs.mono ?_
 rintro _ H2 ⟨places, pieces, sv, start, cv, xss, tv, ts, rfl, hst, hcs, htr, hok, hfew, htok, lex2, hT2⟩
 have hd2 : Aks H2 places pieces sv cv tv start xss ts := ⟨hst, hcs, htr, hok, by omega, htok⟩
 clear hT hs l1 hst hcs htr lex2
 obtain ⟨va, vc, rfl, hvc, _⟩ := id hd2.st
 obtain ⟨ca, cc, rfl, hcc, _⟩ := id hd2.calls
 obtain ⟨ta, tc, rfl, htc, _⟩ := id hd2.truth
 have htl : ts.length <= 6 := by have := htok.1; omega
 have htb := htok.bnd hok
 have hok2 := hok
 obtain ⟨p1, p4, q1, q6, hsp, hsd, hsb, hxs⟩ := hok2
 have hs6 : ∀ t ∈ start, 0 <= t /\ t < 6 := fun t ht => by have := hsb t ht; omega
 ((try (refine @unH _ ?_; refine zX y10_131 ?_)); (try (refine hK _ _ ?_; clear hK K; (try simp only [nq, ↓reduceIte, Nat.reduceEqDiff]))); refine @unH _ ?_; refine zA y10_131 ?_; (repeat (refine inC ?_; intro hc)); try (refine inK ?_; intro K hK))
 (intro vb hvb; generalize hG : Hp.set _ vb _ = H3; have lH3 := Aqh hG hvb; have vvb := Aqf hG; clear hG)
 have hd3 := hd2.le lH3
 have hT3 := hT2.le lH3
 clear hd2 lH3 hvb hT2
 ((try (refine @unH _ ?_; refine zX y10_131 ?_)); (try (refine hK _ _ ?_; clear hK K; (try simp only [nq, ↓reduceIte, Nat.reduceEqDiff]))); refine @unH _ ?_; refine zA y10_131 ?_; (repeat (refine inC ?_; intro hc)); try (refine inK ?_; intro K hK))
 refine (Aw9 _ H3 tb 165 4 (by omega) hT3).runs.mono ?_
 rintro _ H4 ⟨fe, hp0, hp1, rfl, o, hHe, hT4⟩
 have hd4 := hd3.tin hT3 (o := o)
 have vvb4 : (H3.set tb o) vb = _ := (Aqo (fun e => by obtain ⟨_, _, _, _, _, h1, _⟩ := hT3; rw [e, h1] at vvb; cases vvb)).trans vvb
 rw [<- hHe] at hd4 vvb4
 clear hd3 hT3 hT4 vvb hHe o
 ((try (refine @unH _ ?_; refine zX y10_131 ?_)); (try (refine hK _ _ ?_; clear hK K; (try simp only [nq, ↓reduceIte, Nat.reduceEqDiff]))); refine @unH _ ?_; refine zA y10_131 ?_; (repeat (refine inC ?_; intro hc)); try (refine inK ?_; intro K hK))
 refine (Byg _ H4 places pieces _ _ _ start xss ts hd4 fe hp0).runs.mono ?_
 rintro _ H5 ⟨rfl, l1⟩
 have hd5 := hd4.le l1
 have vvb5 := l1 _ _ vvb4
 have hpi := fun n : Nat => fun h1 h2 h3 => place_iff (ts := ts) (start := start) hs6 htb (n := n) h1 h2 h3 fe
 have hnone : (Ayz start ts fe).isSome = false -> (Ayz start ts fe).getD 0 = 0 := fun h => by
  cases hp : Ayz start ts fe with
  | none => rfl
  | some m => rw [hp] at h; cases h
 generalize (Ayz start ts fe).isSome = Q at *
 generalize (Ayz start ts fe).getD 0 = G at *
 obtain ⟨c, hcv, hcQ⟩ : ∃ c : Int, (if Q = true then (0 : Int) else 11) = c /\ (c = 0 /\ Q = true ∨ c = 11 /\ Q = false) := by cases Q <;> simp
 rw [hcv]
 replace hpi : Aq1 _ := hpi
 replace hnone : Aq1 _ := hnone
 clear hd4 vvb4 l1
 clear hcv
 have hcut : (∀ n : Nat, 1 <= n -> start.length <= n -> n <= 6 -> (((optF ts.length (n : Int) ts (oOf start) : Nat) : Int) <= fe ↔ c = 0 /\ G <= n)) /\ (c = 0 ∨ c = 11 /\ G = 0) := by
  rcases hcQ with ⟨rfl, rfl⟩ | ⟨rfl, rfl⟩
  ·exact ⟨fun n h1 h2 h3 => by have := (show ∀ n : Nat, _ from hpi) n h1 h2 h3; simpa using this, .inl rfl⟩
  ·exact ⟨fun n h1 h2 h3 => by have := (show ∀ n : Nat, _ from hpi) n h1 h2 h3; simpa using this, .inr ⟨rfl, (show false = false -> G = 0 from hnone) rfl⟩⟩
 clear hpi hnone hcQ
 obtain ⟨hpi, hcc2⟩ := hcut
 replace hpi : Aq1 _ := hpi
 ((try (refine @unH _ ?_; refine zX y10_131 ?_)); (try (refine hK _ _ ?_; clear hK K; (try simp only [nq, ↓reduceIte, Nat.reduceEqDiff]))); refine @unH _ ?_; refine zS y10_131 ?_; (repeat (refine inC ?_; intro hc)); try (refine inK ?_; intro K hK))
 refine Aka (fun a' H' => ∃ e, a' = act 106 e [] /\ e 4 = .pointer (some ⟨vb, 0, none⟩) /\ e 5 = .slice ta ts.length tc /\ e 6 = .int .i64 fe /\ e 7 = .int .i64 G /\ e 8 = .int .i64 c /\ H' = H5) ?_ ?_
 ·clear hpi
  rcases hcc2 with rfl | ⟨rfl, rfl⟩
  ·(refine @unH _ ?_; refine zA y10_131 ?_; (repeat (refine inC ?_; intro hc)); try (refine inK ?_; intro K hK))
   exact ⟨_, rfl, rfl, rfl, rfl, rfl, rfl, trivial⟩
  ·(refine @unH _ ?_; refine zA y10_131 ?_; (repeat (refine inC ?_; intro hc)); try (refine inK ?_; intro K hK))
   exact ⟨_, rfl, rfl, rfl, rfl, rfl, rfl, trivial⟩
 rintro a' H' ⟨e, rfl, e4, e5, e6, e7, e8, hHQ⟩
 rw [hHQ]; clear hHQ H'
 (refine @unH _ ?_; refine zA y10_131 ?_; (repeat (refine inC ?_; intro hc)); try (refine inK ?_; intro K hK))
 have hloV : Value.int .i64 (if (1 : Int) < (start.length : Int) then (start.length : Int) else 1) = .int .i64 ((loP start : Nat) : Int) := by
  congr 1
  unfold loP
  split <;> split <;> omega
 rw [hloV]
 have hlo1 : 1 <= loP start := by unfold loP; split <;> omega
 have hlo2 : start.length <= loP start := by unfold loP; split <;> omega
 have hlo4 : loP start <= 4 := by unfold loP; split <;> omega
 have hA0 : ∀ n : Nat, 1 <= n -> optF ts.length (n : Int) ts (oOf start) <= ts.length := fun n h => Bzr ts.length n (by omega) ts (oOf start) (Nat.le_refl _)
 have hB0 : ∀ n : Int, (rrun n 2 ts (rs0 start) ts.length).f <= ts.length := fun n => (Bjn n 2 ts start hs6 htb (by omega) ts.length (Nat.le_refl _)).f
 have hA1 : ∀ n : Nat, 1 <= n -> start.length <= n -> optF ts.length ((n + 1 : Nat) : Int) ts (oOf start) <= optF ts.length (n : Int) ts (oOf start) := fun n h h' => opt_mono hs6 htb n h h' 1
 have hB1 : ∀ n : Nat, 1 <= n -> start.length <= n -> (rrun ((n + 1 : Nat) : Int) 2 ts (rs0 start) ts.length).f <= (rrun (n : Int) 2 ts (rs0 start) ts.length).f := fun n h h' => lru_less (pl := (n : Int)) (by omega) hs6 hsd (by omega) htb
 refine Axc (fun w a' H' => ∃ e, ∃ n la st : Nat, w = 5 - n /\ 1 <= n /\ start.length <= n /\ n <= 5 /\ a' = act 106 e [] /\ e 4 = .pointer (some ⟨vb, 0, none⟩) /\ e 5 = .slice ta ts.length tc /\ e 6 = .int .i64 fe /\ e 7 = .int .i64 G /\ e 8 = .int .i64 c /\ e 9 = .int .i64 (la : Nat) /\ e 10 = .int .i64 (st : Nat) /\ e 11 = .int .i64 (n : Nat) /\
  H5.le H' /\ optF ts.length (n : Int) ts (oOf start) <= la /\ (rrun (n : Int) 2 ts (rs0 start) ts.length).f <= st) (n := 5 - loP start) ?_ ?_
 ·exact ⟨_, loP start, ts.length, ts.length, rfl, hlo1, hlo2, by omega, rfl, e4, e5, e6, e7, e8, rfl, rfl, rfl, Hp.le_refl _, hA0 _ hlo1, hB0 _⟩
 ·clear hlo1 hlo2 hlo4 hA0 hB0 hloV e4 e5 e6 e7 e8
  rename_i eold
  clear eold
  rintro w a' H6 ⟨e, n, la, st, rfl, hn1, hnl, hn5, rfl, e4, e5, e6, e7, e8, e9, e10, e11, l56, hla, hst⟩
  have hd6 := hd5.le l56
  have vvb6 := l56 _ _ vvb5
  by_cases hlt : n <= 4
  ·have hA2 := hA1 n hn1 hnl
   have hB2 := hB1 n hn1 hnl
   have hp := (show ∀ n : Nat, _ from hpi) n hn1 hnl (by omega)
   have hokn : Aje (n : Int) pieces start xss := ⟨by omega, by omega, q1, q6, by omega, hsd, hsb, hxs⟩
   replace hA1 : Aq1 _ := hA1
   replace hB1 : Aq1 _ := hB1
   replace hp : Aq1 _ := hp
   (refine @unH _ ?_; refine zA y10_131 ?_; (repeat (refine inC ?_; intro hc)); try (refine inK ?_; intro K hK))
   (intro xb hxb; generalize hG : Hp.set _ xb _ = H7; have lH7 := Aqh hG hxb; have vxb := Aqf hG; clear hG)
   have vvb7 := lH7 _ _ vvb6
   have l57 := Hp.le_trans l56 lH7
   have nvx : vb ≠ xb := Ax4 vvb6 hxb
   have hxb5 : H5 xb = none := Hp.le_none l56 hxb
   ((try (refine @unH _ ?_; refine zX y10_131 ?_)); (try (refine hK _ _ ?_; clear hK K; (try simp only [nq, ↓reduceIte, Nat.reduceEqDiff]))); refine @unH _ ?_; refine zA y10_131 ?_; (repeat (refine inC ?_; intro hc)); try (refine inK ?_; intro K hK))
   generalize hG : Hp.set H7 xb _ = H8
   have vxb8 := Aqf hG
   have l58 : H5.le H8 := by rw [<- hG]; exact ((Lex.of l57 : Lex none H5 H7).own hxb5).toLe
   clear hG vvb7 vxb lH7 hxb hxb5 nvx l57 l56 vvb6 hd6
   have hd8 := hd5.le l58
   have hdn : Aks H8 n pieces (.slice va start.length vc) (.slice ca xss.length cc) (.slice ta ts.length tc) start xss ts := ⟨hd8.st, hd8.calls, hd8.truth, hokn, by omega, htok⟩
   refine (Cjw _ H8 n pieces _ _ _ start xss ts hdn).runs.mono ?_
   rintro _ H9 ⟨bv, rfl, hbl, l1⟩
   have hdn9 := hdn.le l1
   have vxb9 := l1 _ _ vxb8
   have l59 := Hp.le_trans l58 l1
   clear hdn vxb8 l58 l1 hbl hd8 hokn
   ((try (refine @unH _ ?_; refine zX y10_131 ?_)); (try (refine hK _ _ ?_; clear hK K; (try simp only [nq, ↓reduceIte, Nat.reduceEqDiff]))); refine @unH _ ?_; refine zA y10_131 ?_; (repeat (refine inC ?_; intro hc)); try (refine inK ?_; intro K hK))
   refine (Cvv _ H9 n pieces _ _ _ start xss ts hdn9 2 (by omega) (by omega)).runs.mono ?_
   rintro _ HA ⟨kv, rfl, l1, hkv⟩
   have l5A := Hp.le_trans l59 l1
   clear hdn9 vxb9 l59 l1
   generalize (rrun (n : Int) 2 ts (rs0 start) ts.length).cl.take ts.length = KL at *
   generalize (rrun (n : Int) 2 ts (rs0 start) ts.length).f = FB at *
   generalize optF ts.length (n : Int) ts (oOf start) = FA at *
   obtain ⟨xa, xc, rfl, _, _⟩ := hkv
   (refine @unH _ ?_; refine zX y10_131 ?_)
   refine hK _ _ ?_; clear hK K
   (try simp only [nq, ↓reduceIte, Nat.reduceEqDiff])
   refine Av0 (fun e => e 4 = .pointer (some ⟨vb, 0, none⟩) /\ e 5 = .slice ta ts.length tc /\ e 6 = .int .i64 fe /\ e 7 = .int .i64 G /\ e 8 = .int .i64 c /\ e 9 = .int .i64 la /\ e 10 = .int .i64 st /\ e 11 = .int .i64 (n : Nat) /\ e 14 = .int .i64 FA /\ e 15 = .int .i64 0 /\ e 17 = .int .i64 FB /\ e 18 = .int .i64 0) ⟨e4, e5, e6, e7, e8, e9, e10, e11, rfl, rfl, rfl, rfl⟩ ?_
   clear e4 e5 e6 e7 e8 e9 e10 e11
   rename_i eold
   clear eold
   rintro e ⟨e4, e5, e6, e7, e8, e9, e10, e11, e14, e15, e17, e18⟩
   refine Aka (fun a' H' => ∃ e, a' = act 106 e [] /\ e 4 = .pointer (some ⟨vb, 0, none⟩) /\ e 5 = .slice ta ts.length tc /\ e 6 = .int .i64 fe /\ e 7 = .int .i64 G /\ e 8 = .int .i64 c /\ e 11 = .int .i64 (n : Nat) /\ e 14 = .int .i64 FA /\ e 17 = .int .i64 FB /\ H' = HA) ?_ ?_
   ·have hp' : ((FA : Int) <= fe ↔ c = 0 /\ G <= n) := hp
    clear hpi hp hA2 hB2
    by_cases h1 : (FA : Int) <= fe
    ·obtain ⟨rfl, h2⟩ := hp'.1 h1
     clear hp' hcc2
     refine Aql ?_; refine Axv rfl ?_; intro K hK
     (refine @unH _ ?_; refine zX y10_131 ?_)
     refine hK _ _ ?_; clear hK K
     (try simp only [nq, ↓reduceIte, Nat.reduceEqDiff])
     simp only [nTT, nFF]
     (refine @unH _ ?_; refine zA y10_131 ?_; (repeat (refine inC ?_; intro hc)); try (refine inK ?_; intro K hK))
     exact ⟨_, rfl, e4, e5, e6, e7, e8, e11, e14, e17, trivial⟩
    ·by_cases h0 : c = 0
     ·subst h0
      have h2 : ¬ G <= n := fun h => h1 (hp'.2 ⟨rfl, h⟩)
      clear hp' hcc2
      refine Aql ?_; refine Axv rfl ?_; intro K hK
      (refine @unH _ ?_; refine zX y10_131 ?_)
      refine hK _ _ ?_; clear hK K
      (try simp only [nq, ↓reduceIte, Nat.reduceEqDiff])
      simp only [nTT, nFF]
      (refine @unH _ ?_; refine zA y10_131 ?_; (repeat (refine inC ?_; intro hc)); try (refine inK ?_; intro K hK))
      exact ⟨_, rfl, e4, e5, e6, e7, e8, e11, e14, e17, trivial⟩
     ·obtain rfl : c = 11 := by omega
      clear hp' hcc2
      refine Aql ?_; refine Axv rfl ?_; intro K hK
      (refine @unH _ ?_; refine zX y10_131 ?_)
      refine hK _ _ ?_; clear hK K
      (try simp only [nq, ↓reduceIte, Nat.reduceEqDiff])
      simp only [nTT, nFF]
      (refine @unH _ ?_; refine zA y10_131 ?_; (repeat (refine inC ?_; intro hc)); try (refine inK ?_; intro K hK))
      exact ⟨_, rfl, e4, e5, e6, e7, e8, e11, e14, e17, trivial⟩
   rintro a' H' ⟨e, rfl, e4, e5, e6, e7, e8, e11, e14, e17, hHQ⟩
   rw [hHQ]; clear hHQ H'
   (refine @unH _ ?_; refine zA y10_131 ?_; (repeat (refine inC ?_; intro hc)); try (refine inK ?_; intro K hK))
   exact ⟨5 - (n + 1), by omega, _, n + 1, FA, FB, rfl, by omega, by omega, by omega, rfl, e4, e5, e6, e7, e8, rfl, rfl, rfl, l5A, hA2, hB2⟩
  ·obtain rfl : n = 5 := by omega
   clear hA1 hB1 hpi hla hst
   (refine @unH _ ?_; refine zA y10_131 ?_; (repeat (refine inC ?_; intro hc)); try (refine inK ?_; intro K hK))
   refine (kept_spec H6).runs.mono ?_
   rintro _ H7 ⟨rfl, lH7⟩
   ((try (refine @unH _ ?_; refine zX y10_131 ?_)); (try (refine hK _ _ ?_; clear hK K; (try simp only [nq, ↓reduceIte, Nat.reduceEqDiff]))); refine @unH _ ?_; refine zA y10_131 ?_; (repeat (refine inC ?_; intro hc)); try (refine inK ?_; intro K hK))
   (refine Ax8 ?_; (try simp only [nq, ↓reduceIte, Nat.reduceEqDiff]); rw [Axs, Ak2 Tryz.results10 (by decide)]; simp only [Aqr, Nat.reduceEqDiff, ↓reduceIte])
end Go.Proofs.YtgniilnljeedlaaGreatDoor
end
section
namespace Go.Proofs.YtgniilnljeedlaaGreatDoor
open Go Go.X Go.ChangeShapes Go.WideShapes Go.RowKit
set_option maxRecDepth 100000 in
theorem law_lifted (os : Os) (started : os.Started) (H : Type) (enc : TypeId × Value -> H) :
  ReturnsInLeavingWide {} Tryz.checked os 10 .any (fun w args => (Rows.vaultPlacesSpec.pre enc Tryz.prog Tryz.f10 [] false w args /\ laidMetH Tryz.prog [("errors.errorType", Rows.laid_errors_errorType)] w) /\ sizedMet enc Tryz.prog Tryz.f10 (OpenSpec.ofChange Rows.vaultPlacesSpec) false w args)
   (Rows.vaultPlacesSpec.post enc Tryz.prog Tryz.f10 false true false false) := by
 refine leaving_of_change_and (C := Tryz.checked) (X := fun w _ => laidMetH Tryz.prog [("errors.errorType", Rows.laid_errors_errorType)] w) (fun _ _ _ hh h => h.of_heap hh) ownK started Tryz.func10
  (ChangeSpec.witness_at (enc := enc) (C := Tryz.checked) (os := os) (X := fun w _ => laidMetH Tryz.prog [("errors.errorType", Rows.laid_errors_errorType)] w) false (laidWorld os) #[.slice none 0 0] 8 rfl (by kernel_rfl) (by kernel_rfl) (by kernel_rfl) (by kernel_rfl) (by kernel_rfl) (laidWorld_met os _)) ?_
 intro W base args ds gs before hval0 hW hL
 have hval : ∀ (j : Nat) t v, Tryz.f10.params[j]? = some t -> args[j]? = some v -> Value.okWide Tryz.prog W .any base t v := hval0
 have hW' := hW
 obtain ⟨p, q, hA0, hV0, rfl, hfz, hnd⟩ := hW
 have hA : DataW.TrodAll enc Tryz.prog W 0 (fun _ => true) true Tryz.f10.params.toList args.toList ds p := hA0
 have hV : DataW.TrodVars enc Tryz.prog W (fun _ => true) [] gs q := hV0
 rw [Tryz.params10] at hA hval
 obtain ⟨v0, d0, rfl, rfl, h0⟩ := trodAll_one hA
 obtain ⟨a0, len, cap, rfl⟩ := okWide_slice Tryz.underlying22 (hval 0 22 v0 rfl rfl)
 have h0k := h0
 obtain ⟨fuel, hf⟩ := h0
 obtain ⟨rfl, rfl⟩ : gs = [] /\ q = [] := by
  cases gs with
  | nil => exact ⟨rfl, hV⟩
  | cons g r => exact absurd hV (by intro h; cases h)
 have e1 : Rows.vaultPlacesSpec.fn H ([d0] ++ []) = { results := [.lit (.bool true)], args := [d0] } := by simp [Rows.vaultPlacesSpec]
 have hcells : ∀ i : Nat, i < len -> ∃ sb so c e fr x, a0 = some ⟨sb, so, none⟩ /\ Bqr W sb = some (false, .cells c e fr) /\ c[so + i]? = some (.int .i64 x) := by
  rcases open_ints Tryz.underlying22 Tryz.underlying3 cellsK hf with ⟨hcs, _⟩ | ⟨a, len', cap', zs, hcs, _, hl, hm, hz, hx, hcell, hwz⟩
  ·simp [Value.cells] at hcs
   intro i hi
   omega
  ·simp [Value.cells] at hcs
   obtain ⟨rfl, rfl, rfl⟩ := hcs
   intro i hi
   simp only [if_true] at hz
   have hc := hcell i (by omega)
   obtain ⟨b, off, spot⟩ := a
   have hspot : spot = none := by simpa [Addr.add] using World.cell?_spot (hcell 0 (by omega))
   subst hspot
   rw [add_plain] at hc
   unfold World.cell? at hc
   split at hc
   ·rename_i c e fr hb
    exact ⟨b, off, c, e, fr, _, rfl, by simp [Bqr, hb], by simpa using hc⟩
   ·cases hc
 have hlt : ∀ x ∈ p, x.block < W.heap.size := fun x hx => by simpa using hW'.lt x (by simpa using hx)
 obtain ⟨N, last, o, w', t', r1, r2, r3, v, hv, ⟨rfl, hB⟩, r4⟩ := (lplaces_spec (Bqr W) a0 len cap hcells).goodW Tryz.func10 (results_tmp Tryz.results10 _) (by kernel_rfl)
 refine ⟨N, last, o, w', t', r1, r2, r3, _, hv, ?_, r4⟩
 have hb := hB.below
 refine ⟨_, _, _, [], p, [], hW', ?_, ?_, ?_, hB.kept _, fun h => by cases h⟩
 ·rw [e1]; exact trodAll_mk1 (shut_bool Tryz.underlying4 true)
 ·rw [e1]
  have t := trodAll_mk1 (DataW.Trod.of_heap (w := { w' with tape := W.tape }) (w' := w') rfl (Below.trod laidOutK (by kernel_rfl) (of_decide_eq_true (by kernel_rfl)) h0k hb hlt))
  exact t
 ·rw [e1]; rfl
end Go.Proofs.YtgniilnljeedlaaGreatDoor
end
section
namespace Go.Proofs.YtgniilnljeedlaaGreatDoor
open Go Go.X Go.ChangeShapes Go.WideShapes Go.RowKit
theorem jEnter : Program.mayEnter Tryz.pinned.checked.prog = true := factEnter
theorem jLift : (Rows.vaultPlacesRow.lifted == Program.liftsFinal Tryz.pinned.checked.prog) = true := by rw [show Program.liftsFinal Tryz.pinned.checked.prog = Rows.vaultPlacesRow.lifted from factLift]; exact beq_self_eq_true _
theorem jMake : (Program.make Tryz.pinned.checked.prog == some Rows.vaultPlacesRow.make) = true := by rw [show Program.make Tryz.pinned.checked.prog = some Rows.vaultPlacesRow.make from factMake]; exact beq_self_eq_true _
set_option maxRecDepth 100000 in
theorem jf : joinedFacts Tryz.pinned.checked.prog 10 Tryz.f10 Rows.vaultPlacesSpec Rows.vaultPlacesRow = true := by
 unfold joinedFacts
 simp only [jEnter, jLift, jMake, Bool.and_true]
 kernel_rfl
set_option maxRecDepth 100000 in
theorem vaultPlaces_said : Rows.VaultPlacesSaid :=
 OpenClaim.holds_of_wide_leaving 10 Tryz.f10 rfl rfl rfl rfl rfl rfl rfl ⟨rfl, rfl, rfl, rfl, rfl⟩ rfl rfl rfl rfl rfl (by kernel_rfl) Tryz.func10 jf
  (of_decide_eq_true (by kernel_rfl)) (by unfold Func.isWrapper; rw [if_neg (of_decide_eq_false (by kernel_rfl))]; exact ⟨rfl, rfl⟩)
  (fun os started H enc _ => law_lifted os started H enc)
end Go.Proofs.YtgniilnljeedlaaGreatDoor
end
