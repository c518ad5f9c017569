/- Texts RefE RefF Made Leave PBase. -/
import Derived.Test.YtofmadjgbcopdaaGreatDoorJ09
import Derived.Conc.Holds
import Derived.Conc.LeavingOf
import Derived.Calls
import Derived.Below
import Derived.Carry
import Derived.ChangeSame
import Derived.ChangeVars
import Derived.ChangeSlices
import Derived.JoinedOf
import Derived.RowKit
import Derived.RowKitTokens
import Derived.LaidLaws
import Derived.LaidHandle
import Derived.Stop.Joined
import Derived.Handed
import Derived.Test.YtofmadjgbcopdaaGreatDoorRows
set_option linter.defProp false
set_option linter.unusedSimpArgs false
set_option linter.unusedVariables false
set_option maxRecDepth 100000
set_option maxHeartbeats 2000000
section
namespace Go.Proofs.YtofmadjgbcopdaaGreatDoor
open Go Go.X
def y29_113 := And.intro (fun H => fieldAt_eq (H := H) Tryz.underlying29 (i := 0) rfl (off := 0) rfl Tryz.sizeOf25) (And.intro (fun H => loadAt_aggE (H := H) Tryz.underlying25 rfl Tryz.sizeOf25) (And.intro (fun H => fieldAt_eq (H := H) Tryz.underlying29 (i := 1) rfl (off := 4) rfl Tryz.sizeOf22) (And.intro (fun H => loadAt_one (H := H) Tryz.underlying22 rfl) (And.intro (fun H => fieldAt_eq (H := H) Tryz.underlying29 (i := 2) rfl (off := 5) rfl Tryz.sizeOf3) (And.intro (fun H => loadAt_one (H := H) Tryz.underlying3 rfl) (And.intro @callF72 (And.intro (fun H => fieldAt_eq (H := H) Tryz.underlying29 (i := 3) rfl (off := 6) rfl Tryz.sizeOf22) (And.intro (fun H => len_slice (H := H) Tryz.underlying22) (And.intro (fun H => indexAt_slice (H := H) Tryz.underlying22 Tryz.sizeOf3) (And.intro @callF73 (And.intro (fun H => fieldAt_eq (H := H) Tryz.underlying29 (i := 4) rfl (off := 7) rfl Tryz.sizeOf3) (And.intro (fun H => fieldAt_eq (H := H) Tryz.underlying29 (i := 5) rfl (off := 8) rfl Tryz.sizeOf3) (And.intro (fun H => fieldAt_eq (H := H) Tryz.underlying29 (i := 6) rfl (off := 9) rfl Tryz.sizeOf3) (And.intro (fun H => fieldAt_eq (H := H) Tryz.underlying29 (i := 7) rfl (off := 10) rfl Tryz.sizeOf27) (And.intro (fun H => fieldAt_eq (H := H) Tryz.underlying27 (i := 0) rfl (off := 0) rfl Tryz.sizeOf3) (fun H => fieldAt_eq (H := H) Tryz.underlying27 (i := 1) rfl (off := 1) rfl Tryz.sizeOf3))))))))))))))))
def y72_113 := And.intro (fun H => loadAt_aggE (H := H) Tryz.underlying25 rfl Tryz.sizeOf25) (And.intro @callF111 (And.intro @callF112 @callF113))
theorem HaulIn.numR {H : Hp} {n : HN} {v : HV} (h : HaulIn H n v) : NumOk n :=
 ⟨h.day.ok.1, by have := h.day.true.1; have := h.day.few; omega, h.day.true.bnd h.day.ok, fun x hx => by
  have := h.day.ok.2.2.2.2.2.2.1 x hx; have := h.day.ok.2.2.2.1; omega, h.day.ok.2.2.2.2.1⟩
theorem HN.sentsL (n : HN) (h : NumOk n) : n.sents.length = n.ts.length := by
 have hcl : (rs0 n.start).cl.length = 8 := by simp [rs0]
 have := (rrun_cl (pl := n.places) (r := n.rule) hcl h.t8 n.ts.length (Nat.le_refl _)).1
 have h8 := h.t8
 show ((rrun n.places n.rule n.ts (rs0 n.start) n.ts.length).cl.take n.ts.length).length = _
 rw [List.length_take]
 omega
theorem rRun_spec (m : Md) (H : Hp) (n : HN) (v : HV) (hd : HaulIn H n v) :
  FnX Tryz.prog m 72 #[.agg #[.int .i64 n.places, .int .i64 n.pieces, v.sv, v.cv], v.tv, .int .i64 n.rule] H fun e H' => ∃ w, e = .returned (.tuple #[w, .int .i64 (n.jobs.length : Nat), .int .i64 0]) /\ H.le H' /\ SlI H' w n.sents := by
 have hno := hd.numR
 have hrs := fun H' (hd' : DayIn H' n.places n.pieces v.sv v.cv v.tv n.start n.xss n.ts) => rrun_spec m H' n.places n.pieces v.sv v.cv v.tv n.start n.xss n.ts n.sents hd' n.rule hd.r0 hd.r3 (n.sentsL hno) fun i hi => ref_sent n hno hd.day.ok.2.2.2.2.2.1 ⟨hd.r0, hd.r3⟩ hd.day.ok.2.1 hi
 replace hrs : SameP _ := hrs
 have hjobs : ((nhS n.ts n.sents n.start n.ts.length).2.length : Nat) = n.jobs.length := rfl
 have r0 := hd.r0
 have r3 := hd.r3
 have hday := hd.day
 clear hd hno
 obtain ⟨sv, cv, tv, xv⟩ := v
 obtain ⟨places, pieces, rule, notice, load, barrows, lo, hi, start, xss, ts, xs⟩ := n
 simp only [] at hday r0 r3 hrs hjobs ⊢
 generalize HN.sents _ = ss at *
 generalize List.length (HN.jobs _) = jl at *
 obtain ⟨sa, sn, sc, rfl⟩ := hday.st.isSlice
 obtain ⟨ca, cn, cc, rfl⟩ := hday.calls.isSlice
 obtain ⟨ta, tn, tc, rfl⟩ := hday.truth.isSlice
 refine FnX_start Tryz.func72 rfl Tryz.ntmps72 (by simp) ?_
 (refine @unH _ ?_; refine zA y72_113 ?_; (repeat (refine inC ?_; intro hc)); try (refine inK ?_; intro K hK))
 (intro vb hvb; generalize hG : Hp.set _ vb _ = H1; have lH1 := le_of_set hG hvb; have vvb := at_of_set hG; clear hG)
 have hd1 := hday.le lH1
 ((try (refine @unH _ ?_; refine zX y72_113 ?_)); (try (refine hK _ _ ?_; clear hK K; (try simp only [nq, ↓reduceIte, Nat.reduceEqDiff]))); refine @unH _ ?_; refine zA y72_113 ?_; (repeat (refine inC ?_; intro hc)); try (refine inK ?_; intro K hK))
 refine (rcheckTruth_spec m H1 places pieces _ _ _ start xss ts hd1).runs.mono ?_
 rintro _ H2 ⟨rfl, lH2⟩
 have hd2 := hd1.le lH2
 have vvb2 := lH2 _ _ vvb
 clear hd1 vvb hday
 ((try (refine @unH _ ?_; refine zX y72_113 ?_)); (try (refine hK _ _ ?_; clear hK K; (try simp only [nq, ↓reduceIte, Nat.reduceEqDiff]))); refine @unH _ ?_; refine zA y72_113 ?_; (repeat (refine inC ?_; intro hc)); try (refine inK ?_; intro K hK))
 refine (isRule_spec m H2 rule r0 r3).runs.mono ?_; rintro _ HQ ⟨rfl, hHQ⟩; rw [hHQ]; clear hHQ HQ; ((try (refine @unH _ ?_; refine zX y72_113 ?_)); (try (refine hK _ _ ?_; clear hK K; (try simp only [nq, ↓reduceIte, Nat.reduceEqDiff]))); refine @unH _ ?_; refine zA y72_113 ?_; (repeat (refine inC ?_; intro hc)); try (refine inK ?_; intro K hK))
 have hr2 := (show ∀ H', DayIn H' places pieces _ _ _ start xss ts -> _ from hrs) H2 hd2
 refine hr2.runs.mono ?_
 clear hr2
 rintro _ H3 ⟨w, rfl, lH3, hw⟩
 rw [hjobs]
 ((try (refine @unH _ ?_; refine zX y72_113 ?_)); (try (refine hK _ _ ?_; clear hK K; (try simp only [nq, ↓reduceIte, Nat.reduceEqDiff]))); refine @unH _ ?_; refine zA y72_113 ?_; (repeat (refine inC ?_; intro hc)); try (refine inK ?_; intro K hK))
 (refine @unH _ ?_; refine zC Tryz.results72 ?_)
 exact ⟨w, rfl, Hp.le_trans lH1 (Hp.le_trans lH2 lH3), hw⟩
theorem rinside_yes (m : Md) (H : Hp) (n lo hi : Int) (h0 : lo <= n) (h1 : n <= hi) :
  FnX Tryz.prog m 73 #[.int .i64 n, .int .i64 lo, .int .i64 hi] H fun e H' => e = .returned (.bool true) /\ H' = H := by
 refine FnX_start Tryz.func73 rfl Tryz.ntmps73 (by simp) ?_
 (refine @unH _ ?_; refine zA trivial ?_; (repeat (refine inC ?_; intro hc)); try (refine inK ?_; intro K hK))
 (refine @unH _ ?_; refine z9 Tryz.results73 ?_)
 (refine ⟨?_, ?_⟩ <;> first | rfl | trivial | assumption)
theorem rcheck6_spec (m : Md) (H : Hp) (n : HN) (v : HV) (hd : HaulIn H n v) :
  FnX Tryz.prog m 29 #[n.agg v] H fun e H' => e = .returned (.int .i64 0) /\ H.le H' := by
 have hrun := fun H' h' => rRun_spec m H' n v h'
 have hd0 := hd
 obtain ⟨sv, cv, tv, xv⟩ := v
 have hxl := hd.xlen
 replace hxl : n.xs.length <= n.ts.length /\ n.ts.length <= n.xs.length := by omega
 have hxl' : n.ts.length <= 8 := by have := hd.day.true.1; have := hd.day.few; omega
 obtain ⟨hday, htimes, hok, r0, r3, n0, n30, l1, l3, b1, b4, t1, t2, t20⟩ := hd
 simp only [] at hday htimes hok r0 r3 n0 n30 l1 l3 b1 b4 t1 t2 t20
 obtain ⟨sa, sn, sc, rfl⟩ := hday.st.isSlice
 obtain ⟨ca, cn, cc, rfl⟩ := hday.calls.isSlice
 obtain ⟨ta, tc, rfl, htc, _⟩ := id hday.truth
 obtain ⟨xa, xc, rfl, hxc, _⟩ := id htimes
 simp only [HN.agg] at hrun ⊢
 replace hrun : SameP _ := hrun
 clear hday
 have hasc : SameP _ := hok.2.1
 have hbnd : SameP _ := hok.2.2
 clear hok
 refine FnX_start Tryz.func29 rfl Tryz.ntmps29 (by simp) ?_
 (refine @unH _ ?_; refine zA y29_113 ?_; (repeat (refine inC ?_; intro hc)); try (refine inK ?_; intro K hK))
 (intro vb hvb; generalize hG : Hp.set _ vb _ = H1; have lH1 := le_of_set hG hvb; have vvb := at_of_set hG; clear hG)
 have hd1 := hd0.le lH1
 clear hd0
 ((try (refine @unH _ ?_; refine zX y29_113 ?_)); (try (refine hK _ _ ?_; clear hK K; (try simp only [nq, ↓reduceIte, Nat.reduceEqDiff]))); refine @unH _ ?_; refine zA y29_113 ?_; (repeat (refine inC ?_; intro hc)); try (refine inK ?_; intro K hK))
 have hr := (show ∀ H', HaulIn H' n ⟨.slice sa sn sc, .slice ca cn cc, .slice ta n.ts.length tc, .slice xa n.xs.length xc⟩ -> _ from hrun) H1 hd1
 refine hr.runs.mono ?_
 clear hr
 rintro _ H2 ⟨w, rfl, lH2, _⟩
 have hx2 := htimes.le (Hp.le_trans lH1 lH2)
 have vvb2 := lH2 _ _ vvb
 have lHH := Hp.le_trans lH1 lH2
 clear hd1 vvb lH1 lH2 htimes
 ((try (refine @unH _ ?_; refine zX y29_113 ?_)); (try (refine hK _ _ ?_; clear hK K; (try simp only [nq, ↓reduceIte, Nat.reduceEqDiff]))); refine @unH _ ?_; refine zA y29_113 ?_; (repeat (refine inC ?_; intro hc)); try (refine inK ?_; intro K hK))
 refine wpX_loop (fun w a' H' => ∃ e j, w = n.xs.length - j /\ j <= n.xs.length /\ a' = act 100 e [] /\ e 1 = .pointer (some ⟨vb, 0, none⟩) /\ e 6 = .int .i64 (j : Nat) /\ H' = H2) (n := n.xs.length) ?_ ?_
 ·exact ⟨_, 0, by omega, by omega, rfl, rfl, rfl, by trivial⟩
 ·rintro w a' H' ⟨e, j, rfl, hj, rfl, e1, e6, hH⟩
  rw [hH]; clear hH H'
  by_cases hlt : j < n.xs.length
  ·obtain ⟨b, o, p, c, fr, rfl, hb, hcx⟩ := SlI.get hx2 (List.getElem?_eq_getElem hlt)
   have hxb := (show ∀ x ∈ n.xs, 0 <= x /\ x <= 99 from hbnd) _ (List.getElem_mem hlt)
   have hprev : 0 < j -> ∃ y : Int, c[o + ((j : Int) - 1).toNat]? = some (.int .i64 y) /\ y <= n.xs[j] := fun hj0 => by
    have hj1 : j - 1 < n.xs.length := by omega
    obtain ⟨b3, o3, p3, c3, fr3, hre, hb3, hx3⟩ := SlI.get hx2 (List.getElem?_eq_getElem hj1)
    cases hre
    rw [hb] at hb3
    cases hb3
    refine ⟨n.xs[j - 1], ?_, (List.pairwise_iff_getElem.1 hasc) (j - 1) j hj1 hlt (by omega)⟩
    rw [show ((j : Int) - 1).toNat = j - 1 by omega]
    exact hx3
   generalize n.xs[j] = x at *
   replace hprev : SameP _ := hprev
   (refine @unH _ ?_; refine zA y29_113 ?_; (repeat (refine inC ?_; intro hc)); try (refine inK ?_; intro K hK))
   refine (rinside_yes m H2 x 0 99 hxb.1 hxb.2).runs.mono ?_; rintro _ HQ ⟨rfl, hHQ⟩; rw [hHQ]; clear hHQ HQ; ((try (refine @unH _ ?_; refine zX y29_113 ?_)); (try (refine hK _ _ ?_; clear hK K; (try simp only [nq, ↓reduceIte, Nat.reduceEqDiff]))); refine @unH _ ?_; refine zA y29_113 ?_; (repeat (refine inC ?_; intro hc)); try (refine inK ?_; intro K hK))
   by_cases hk0 : j = 0
   ·subst hk0
    refine wpX_dst1 16 [(true, 0), (true, 1), (true, 2), (true, 3), (true, 4), (true, 5), (true, 6), (true, 7), (true, 8), (true, 9), (true, 10), (true, 11), (true, 12), (true, 13), (true, 14), (true, 15)] (by kernel_rfl) (by kernel_rfl) (by simp) (by kernel_rfl) ?_; intro K hK
    (iterate 3 (refine @unH _ ?_; refine z3 y29_113 ?_))
    (iterate 12 (apply plan_skip rfl (by simp -implicitDefEqProofs (disch := omega) only [wanted_some, yielded_list, ylK_bool, List.getElem?_cons_succ, List.getElem?_cons_zero, Option.bind_some, act_get?, upd_get, Nat.reduceEqDiff, ↓reduceIte, *]; rfl); simp -implicitDefEqProofs (disch := first | omega | (simp only [qd] <;> omega)) only [act_put, act_put_none]))
    (refine @unH _ ?_; refine z3 y29_113 ?_)
    refine plan_nil (hK _ _ ?_)
    clear hK K
    (try simp only [nq, ↓reduceIte, Nat.reduceEqDiff])
    (refine @unH _ ?_; refine zA y29_113 ?_; (repeat (refine inC ?_; intro hc)); try (refine inK ?_; intro K hK))
    exact ⟨_, by omega, _, 1, rfl, hlt, rfl, e1, rfl, by trivial⟩
   ·obtain ⟨y, hy, hyx⟩ := (show 0 < j -> _ from hprev) (by omega)
    refine wpX_dst1 16 [(true, 0), (true, 1), (true, 2), (true, 3), (true, 4), (true, 5), (true, 6), (true, 7), (true, 8), (true, 9), (true, 10), (true, 11), (true, 12), (true, 13), (true, 14), (true, 15)] (by kernel_rfl) (by kernel_rfl) (by simp) (by kernel_rfl) ?_; intro K hK
    (iterate 3 (refine @unH _ ?_; refine z3 y29_113 ?_))
    (iterate 12 (refine @unH _ ?_; refine z6 y29_113 ?_))
    (refine @unH _ ?_; refine z3 y29_113 ?_)
    refine plan_nil (hK _ _ ?_)
    clear hK K
    (try simp only [nq, ↓reduceIte, Nat.reduceEqDiff])
    (refine @unH _ ?_; refine zA y29_113 ?_; (repeat (refine inC ?_; intro hc)); try (refine inK ?_; intro K hK))
    exact ⟨_, by omega, _, j + 1, rfl, hlt, rfl, e1, rfl, by trivial⟩
  ·obtain rfl : j = n.xs.length := by omega
   (refine @unH _ ?_; refine zA y29_113 ?_; (repeat (refine inC ?_; intro hc)); try (refine inK ?_; intro K hK))
   refine (rinside_yes m H2 n.notice 0 30 n0 n30).runs.mono ?_; rintro _ HQ ⟨rfl, hHQ⟩; rw [hHQ]; clear hHQ HQ; ((try (refine @unH _ ?_; refine zX y29_113 ?_)); (try (refine hK _ _ ?_; clear hK K; (try simp only [nq, ↓reduceIte, Nat.reduceEqDiff]))); refine @unH _ ?_; refine zA y29_113 ?_; (repeat (refine inC ?_; intro hc)); try (refine inK ?_; intro K hK))
   refine (rinside_yes m H2 n.load 1 3 l1 l3).runs.mono ?_; rintro _ HQ ⟨rfl, hHQ⟩; rw [hHQ]; clear hHQ HQ; ((try (refine @unH _ ?_; refine zX y29_113 ?_)); (try (refine hK _ _ ?_; clear hK K; (try simp only [nq, ↓reduceIte, Nat.reduceEqDiff]))); refine @unH _ ?_; refine zA y29_113 ?_; (repeat (refine inC ?_; intro hc)); try (refine inK ?_; intro K hK))
   refine (rinside_yes m H2 n.barrows 1 4 b1 b4).runs.mono ?_; rintro _ HQ ⟨rfl, hHQ⟩; rw [hHQ]; clear hHQ HQ; ((try (refine @unH _ ?_; refine zX y29_113 ?_)); (try (refine hK _ _ ?_; clear hK K; (try simp only [nq, ↓reduceIte, Nat.reduceEqDiff]))); refine @unH _ ?_; refine zA y29_113 ?_; (repeat (refine inC ?_; intro hc)); try (refine inK ?_; intro K hK))
   refine (rinside_yes m H2 n.lo 1 20 t1 (by omega)).runs.mono ?_; rintro _ HQ ⟨rfl, hHQ⟩; rw [hHQ]; clear hHQ HQ; ((try (refine @unH _ ?_; refine zX y29_113 ?_)); (try (refine hK _ _ ?_; clear hK K; (try simp only [nq, ↓reduceIte, Nat.reduceEqDiff]))); refine @unH _ ?_; refine zA y29_113 ?_; (repeat (refine inC ?_; intro hc)); try (refine inK ?_; intro K hK))
   refine (rinside_yes m H2 n.hi 1 20 (by omega) t20).runs.mono ?_; rintro _ HQ ⟨rfl, hHQ⟩; rw [hHQ]; clear hHQ HQ; ((try (refine @unH _ ?_; refine zX y29_113 ?_)); (try (refine hK _ _ ?_; clear hK K; (try simp only [nq, ↓reduceIte, Nat.reduceEqDiff]))); refine @unH _ ?_; refine zA y29_113 ?_; (repeat (refine inC ?_; intro hc)); try (refine inK ?_; intro K hK))
   (refine @unH _ ?_; refine z9 Tryz.results29 ?_)
   exact ⟨by trivial, lHH⟩
end Go.Proofs.YtofmadjgbcopdaaGreatDoor
end
section
namespace Go.Proofs.YtofmadjgbcopdaaGreatDoor
open Go Go.X
def y27_114 := And.intro (fun H => loadAt_aggE (H := H) Tryz.underlying29 rfl Tryz.sizeOf29) (And.intro @callF29 @callF69)
def y69_114 := And.intro (fun H => fieldAt_eq (H := H) Tryz.underlying29 (i := 0) rfl (off := 0) rfl Tryz.sizeOf25) (And.intro (fun H => loadAt_aggE (H := H) Tryz.underlying25 rfl Tryz.sizeOf25) (And.intro (fun H => fieldAt_eq (H := H) Tryz.underlying29 (i := 1) rfl (off := 4) rfl Tryz.sizeOf22) (And.intro (fun H => loadAt_one (H := H) Tryz.underlying22 rfl) (And.intro (fun H => fieldAt_eq (H := H) Tryz.underlying29 (i := 2) rfl (off := 5) rfl Tryz.sizeOf3) (And.intro (fun H => loadAt_one (H := H) Tryz.underlying3 rfl) (And.intro @callF72 (And.intro (fun H => makeSlice_one (H := H) Tryz.underlying59 Tryz.sizeOf4 Tryz.zeroValue4 rfl Tryz.typeInfo4 (by decide)) (And.intro (fun H => fieldAt_eq (H := H) Tryz.underlying25 (i := 2) rfl (off := 2) rfl Tryz.sizeOf22) (And.intro (fun H => len_slice (H := H) Tryz.underlying22) (And.intro (fun H => indexAt_slice (H := H) Tryz.underlying22 Tryz.sizeOf3) (And.intro (fun H => indexAt_slice (H := H) Tryz.underlying59 Tryz.sizeOf4) (And.intro (fun H => storeAt_bool (H := H) Tryz.sizeOf4) (And.intro (fun H => loadAt_one (H := H) Tryz.underlying4 rfl) @lit_22_1_0_0)))))))))))))
def boolsO (off : List Int) : List Value := (List.range 6).map fun p : Nat => .bool (decide ((p : Int) ∈ off))
theorem boolsO_len (off : List Int) : (boolsO off).length = 6 := by simp [boolsO]
theorem boolsO_get {off : List Int} {p : Int} (h : 0 <= p /\ p < 6) : (boolsO off)[p.toNat]? = some (.bool (decide (p ∈ off))) := by
 have : (p.toNat : Int) = p := by omega
 simp [boolsO, List.getElem?_map, List.getElem?_range (show p.toNat < 6 by omega), this]
theorem boolsO_set {off off' : List Int} {p : Int} {b : Bool} (h : 0 <= p /\ p < 6) (hq : ∀ q : Int, 0 <= q -> q < 6 -> (q ∈ off' ↔ if q = p then b = true else q ∈ off)) : (boolsO off).set p.toNat (.bool b) = boolsO off' := by
 apply List.ext_getElem?
 intro i
 by_cases hi : i < 6
 ·have h2 := boolsO_get (off := off') (p := (i : Int)) ⟨by omega, by omega⟩
  have h1 := boolsO_get (off := off) (p := (i : Int)) ⟨by omega, by omega⟩
  rw [Int.toNat_natCast] at h1 h2
  rw [h2]
  have h3 := hq (i : Int) (by omega) (by omega)
  by_cases hip : (i : Int) = p
  ·have : p.toNat = i := by omega
   rw [this, List.getElem?_set_self (by rw [boolsO_len]; exact hi)]
   rw [if_pos hip] at h3
   cases b
   ·rw [decide_eq_false (fun h => by simp at h3; exact h3 h)]
   ·rw [decide_eq_true (h3.2 rfl)]
  ·rw [List.getElem?_set_ne (by omega), h1]
   rw [if_neg hip] at h3
   by_cases ho : (i : Int) ∈ off
   ·rw [decide_eq_true ho, decide_eq_true (h3.2 ho)]
   ·rw [decide_eq_false ho, decide_eq_false (fun h => ho (h3.1 h))]
 ·rw [List.getElem?_eq_none (by rw [List.length_set, boolsO_len]; omega), List.getElem?_eq_none (by rw [boolsO_len]; omega)]
theorem boolsO_new {off : List Int} {t : Int} (h : 0 <= t /\ t < 6) : (boolsO off).set t.toNat (.bool true) = boolsO (off ++ [t]) := boolsO_set h fun q _ _ => by
 rw [List.mem_append, List.mem_singleton]
 by_cases e : q = t
 ·rw [if_pos e]; exact ⟨fun _ => rfl, fun _ => .inr e⟩
 ·rw [if_neg e]; exact ⟨fun h => h.resolve_right e, .inl⟩
theorem boolsO_out {off : List Int} {s : Int} (h : 0 <= s /\ s < 6) : (boolsO off).set s.toNat (.bool false) = boolsO (off.filter fun x => !(x == s)) := boolsO_set h fun q _ _ => by
 rw [List.mem_filter]
 by_cases e : q = s
 ·rw [if_pos e]; simp [e]
 ·rw [if_neg e]; simp [e]
theorem boolsO_neg {off : List Int} {s : Int} (h : s < 0) : boolsO (off.filter fun x => !(x == s)) = boolsO off := by
 unfold boolsO
 refine List.map_congr_left fun p _ => ?_
 congr 1
 refine decide_eq_decide.2 ?_
 rw [List.mem_filter]
 refine ⟨fun h => h.1, fun h' => ⟨h', ?_⟩⟩
 simp
 omega
theorem sents_bnd (n : HN) (h : NumOk n) {i : Nat} (hi : i < n.ts.length) : -1 <= n.sents.getD i 0 /\ n.sents.getD i 0 < 6 := by
 have hcl : (rs0 n.start).cl.length = 8 := by simp [rs0]
 have hs : n.sents.getD i 0 = _ := sents_at (pl := n.places) (r := n.rule) hcl h.t8 hi
 have h6 := ts_in hi h.tb
 rw [hs]
 exact optsF_range (rsent_opts h.pl h6.1 h6.2)
theorem rjobs_spec (m : Md) (H : Hp) (n : HN) (v : HV) (hd : HaulIn H n v) :
  FnX Tryz.prog m 69 #[n.agg v] H fun e H' => ∃ jv, e = .returned jv /\ H.le H' /\ SlI H' jv n.jobs := by
 have hno := hd.numR
 have hrun := fun H' h' => rRun_spec m H' n v h'
 have hsl := n.sentsL hno
 have hsb := fun i hi => sents_bnd n hno (i := i) hi
 have hd0 := hd
 obtain ⟨sv, cv, tv, xv⟩ := v
 obtain ⟨hday, htimes, _⟩ := hd
 simp only [] at hday htimes
 obtain ⟨sa, sc, rfl, hsc, _⟩ := id hday.st
 obtain ⟨ca, cn, cc, rfl⟩ := hday.calls.isSlice
 obtain ⟨ta, tc, rfl, htc, _⟩ := id hday.truth
 obtain ⟨xa, xn, xc, rfl⟩ := htimes.isSlice
 have ht8 := hno.t8
 have hst4 : n.start.length <= 4 := by have := hno.sl; have := hday.ok.2.1; omega
 have hstb : SameP _ := hno.sb
 have htb : SameP _ := hno.tb
 have hst0 := hday.st
 have htr0 := hday.truth
 simp only [HN.agg] at hrun ⊢
 replace hrun : SameP _ := hrun
 replace hsb : SameP _ := hsb
 have hjobs : n.jobs = (nhS n.ts n.sents n.start n.ts.length).2 := rfl
 generalize hJ : n.jobs = jj at hjobs hrun ⊢
 clear hJ
 generalize n.sents = ss at *
 replace hsl : SameP _ := hsl
 replace hjobs : SameP _ := hjobs
 clear hday htimes hno
 refine FnX_start Tryz.func69 rfl Tryz.ntmps69 (by simp) ?_
 (refine @unH _ ?_; refine zA y69_114 ?_; (repeat (refine inC ?_; intro hc)); try (refine inK ?_; intro K hK))
 (intro vb hvb; generalize hG : Hp.set _ vb _ = H1; have lH1 := le_of_set hG hvb; have vvb := at_of_set hG; clear hG)
 have hd1 := hd0.le lH1
 ((try (refine @unH _ ?_; refine zX y69_114 ?_)); (try (refine hK _ _ ?_; clear hK K; (try simp only [nq, ↓reduceIte, Nat.reduceEqDiff]))); refine @unH _ ?_; refine zA y69_114 ?_; (repeat (refine inC ?_; intro hc)); try (refine inK ?_; intro K hK))
 have hr := (show ∀ H', HaulIn H' n ⟨.slice sa n.start.length sc, .slice ca cn cc, .slice ta n.ts.length tc, .slice xa xn xc⟩ -> _ from hrun) H1 hd1
 refine hr.runs.mono ?_
 clear hr
 rintro _ H2 ⟨w, rfl, lH2, hw⟩
 have vvb2 := lH2 _ _ vvb
 have lHH := Hp.le_trans lH1 lH2
 have hst2 := hst0.le lHH
 have htr2 := htr0.le lHH
 clear hd1 vvb lH1 lH2 hst0 htr0 hd0 hrun
 ((try (refine @unH _ ?_; refine zX y69_114 ?_)); (try (refine hK _ _ ?_; clear hK K; (try simp only [nq, ↓reduceIte, Nat.reduceEqDiff]))); refine @unH _ ?_; refine zA y69_114 ?_; (repeat (refine inC ?_; intro hc)); try (refine inK ?_; intro K hK))
 intro ob hob
 have nvo : vb ≠ ob := ne_new vvb2 hob
 ((try (refine @unH _ ?_; refine zX y69_114 ?_)); (try (refine hK _ _ ?_; clear hK K; (try simp only [nq, ↓reduceIte, Nat.reduceEqDiff]))); refine @unH _ ?_; refine zA y69_114 ?_; (repeat (refine inC ?_; intro hc)); try (refine inK ?_; intro K hK))
 refine wpX_loop (fun w' a' H' => ∃ e j, w' = n.start.length - j /\ j <= n.start.length /\ a' = act 76 e [] /\ e 1 = .pointer (some ⟨vb, 0, none⟩) /\ e 3 = w /\ e 6 = .slice (some ⟨ob, 0, none⟩) 6 6 /\ e 7 = .int .i64 (j : Nat) /\ H' = H2.set ob (.cells (boolsO (n.start.take j)).toArray 4 (0, 0))) (n := n.start.length) ?_ ?_
 ·exact ⟨_, 0, by omega, by omega, rfl, rfl, rfl, rfl, rfl, rfl⟩
 ·rintro w' a' H' ⟨e, j, rfl, hj, rfl, e1, e3, e6, e7, hH⟩
  generalize hG : H2.set ob (.cells (boolsO (n.start.take j)).toArray 4 (0, 0)) = H3 at hH
  have vob3 := at_of_set hG
  have l3 := le_of_set hG hob
  have vvb3 := l3 _ _ vvb2
  have hst3 := hst2.le l3
  rw [hH]; clear hH H'
  by_cases hlt : j < n.start.length
  ·obtain ⟨b, o, p, c, fr, rfl, hb, hcx⟩ := SlI.get hst3 (List.getElem?_eq_getElem hlt)
   have hxb := (show ∀ x ∈ n.start, 0 <= x /\ x < 6 from hstb) _ (List.getElem_mem hlt)
   have hnx : n.start.take (j + 1) = n.start.take j ++ [n.start[j]] := by rw [List.take_add_one, List.getElem?_eq_getElem hlt]; rfl
   have hbs := boolsO_new (off := n.start.take j) hxb
   have hbl := boolsO_len (n.start.take j)
   rw [<- hnx] at hbs
   generalize n.start[j] = x at *
   generalize boolsO (n.start.take j) = bl at *
   replace hbl : bl.length <= 6 /\ 6 <= bl.length := by omega
   replace hbs : SameP _ := hbs
   replace hG : SameP _ := hG
   clear hnx
   (refine @unH _ ?_; refine zA y69_114 ?_; (repeat (refine inC ?_; intro hc)); try (refine inK ?_; intro K hK))
   refine ⟨_, by omega, _, j + 1, rfl, hlt, rfl, e1, e3, e6, rfl, ?_⟩
   rw [show H3 = _ from (show H2.set ob _ = H3 from hG).symm, set_set, show bl.set _ _ = _ from hbs]
  ·obtain rfl : j = n.start.length := by omega
   rw [List.take_length] at vob3
   clear hG hst3
   (refine @unH _ ?_; refine zA y69_114 ?_; (repeat (refine inC ?_; intro hc)); try (refine inK ?_; intro K hK))
   refine wpX_loop (fun w' a' H' => ∃ e i jv, w' = n.ts.length - i /\ i <= n.ts.length /\ a' = act 76 e [] /\ e 1 = .pointer (some ⟨vb, 0, none⟩) /\ e 3 = w /\ e 6 = .slice (some ⟨ob, 0, none⟩) 6 6 /\ e 8 = jv /\ e 9 = .int .i64 (i : Nat) /\
    H' ob = some (true, .cells (boolsO (nhS n.ts ss n.start i).1).toArray 4 (0, 0)) /\ RowX none H2 H' jv 3 (ints (nhS n.ts ss n.start i).2) /\ rowB jv ≠ some ob) (n := n.ts.length) ?_ ?_
   ·exact ⟨_, 0, .slice none 0 0, rfl, by omega, rfl, e1, e3, e6, rfl, rfl, vob3, ⟨Lex.of l3, .inl ⟨rfl, rfl⟩⟩, fun h => by cases h⟩
   ·clear vob3 vvb3 l3 H3 e1 e3 e6 e7 e
    rintro w' a' H3 ⟨e, i, jv, rfl, hi, rfl, e1, e3, e6, e8, e9, vob3, hjv, hjo⟩
    have l3 := hjv.1.toLe
    have vvb3 := l3 _ _ vvb2
    by_cases hlt : i < n.ts.length
    ·have hlts : i < ss.length := by rw [show ss.length = n.ts.length from hsl]; exact hlt
     obtain ⟨b, o, p, c, fr, rfl, hb, hcx⟩ := SlI.get htr2 (List.getElem?_eq_getElem hlt)
     have hb3 := l3 _ _ hb
     have htx := (show ∀ x ∈ n.ts, 0 <= x /\ x < 6 from htb) _ (List.getElem_mem hlt)
     obtain ⟨wa, wc, rfl, hwc, _⟩ := id hw
     obtain ⟨b2, o2, p2, c2, fr2, rfl, hb2, hcx2⟩ := SlI.get hw (List.getElem?_eq_getElem hlts)
     have hsx := (show ∀ i, i < n.ts.length -> -1 <= ss.getD i 0 /\ ss.getD i 0 < 6 from hsb) i hlt
     have hmiss := nh_miss (ts := n.ts) (ss := ss) (start := n.start) (i := i)
     have hhit := nh_hit (ts := n.ts) (ss := ss) (start := n.start) (i := i)
     have hlen2 := (nhS_len n.ts ss n.start i).2
     have hgt : n.ts.getD i 0 = n.ts[i] := getD_at hlt
     have hgs : ss.getD i 0 = ss[i] := getD_at hlts
     rw [hgt] at hmiss hhit
     rw [hgs] at hmiss hsx
     rw [show ss.length = n.ts.length from hsl] at *
     generalize n.ts[i] = t at *
     generalize ss[i] = sg at *
     clear hgt hgs
     generalize hN1 : nhS n.ts ss n.start (i + 1) = N1 at *
     generalize (nhS n.ts ss n.start i).1 = off at *
     generalize (nhS n.ts ss n.start i).2 = jb at *
     have hbg := boolsO_get (off := off) htx
     have hbl := boolsO_len off
     have hbs := boolsO_new (off := off.filter fun x => !(x == sg)) htx
     have hbo := boolsO_out (off := off) (s := sg)
     have hbn := boolsO_neg (off := off) (s := sg)
     generalize hB : boolsO off = bl at *
     replace hB : SameP _ := hB
     replace hbl : bl.length <= 6 /\ 6 <= bl.length := by omega
     replace hbs : SameP _ := hbs
     replace hbo : SameP _ := hbo
     replace hbn : SameP _ := hbn
     replace hmiss : SameP _ := hmiss
     replace hhit : SameP _ := hhit
     replace hN1 : SameP _ := hN1
     by_cases ht : t ∈ off
     ·have hN : N1 = (off, jb) := hhit ht
      rw [decide_eq_true ht] at hbg
      subst hN
      replace ht : SameP _ := ht
      (refine @unH _ ?_; refine zA y69_114 ?_; (repeat (refine inC ?_; intro hc)); try (refine inK ?_; intro K hK))
      refine ⟨_, by omega, _, i + 1, jv, rfl, hlt, rfl, e1, e3, e6, e8, rfl, ?_, ?_, hjo⟩
      ·rw [show nhS n.ts ss n.start (i + 1) = _ from hN1]; exact vob3.trans (by rw [show bl = boolsO off from (show boolsO off = bl from hB).symm])
      ·rw [show nhS n.ts ss n.start (i + 1) = _ from hN1]; exact hjv
     ·have hN : N1 = ((off.filter fun x => !(x == sg)) ++ [t], jb ++ [(i : Int)]) := hmiss ht
      rw [decide_eq_false ht] at hbg
      subst hN
      replace ht : SameP _ := ht
      (refine @unH _ ?_; refine zA y69_114 ?_; (repeat (refine inC ?_; intro hc)); try (refine inK ?_; intro K hK))
      intro g hg
      refine append_i2 hjv hg (by omega) _ _ _ _ ?_
      intro jv' H4 hr4 hk4 hn4
      have l4 := hr4.1.toLe
      have vvb4 := l4 _ _ vvb2
      have hb4 := l4 _ _ hb
      have hb24 := l4 _ _ hb2
      have vob4 := hk4 _ _ vob3 hjo
      have hjo4 : rowB jv' ≠ some ob := fun h => by
       rcases hn4 _ h with h | h
       ·exact hjo h
       ·rw [vob3] at h; cases h
      have hfin : ∀ bl', bl' = boolsO ((off.filter fun x => !(x == sg)) ++ [t]) -> (H4.set ob (.cells bl'.toArray 4 (0, 0))) ob = some (true, .cells (boolsO (nhS n.ts ss n.start (i + 1)).1).toArray 4 (0, 0)) /\ RowX none H2 (H4.set ob (.cells bl'.toArray 4 (0, 0))) jv' 3 (ints (nhS n.ts ss n.start (i + 1)).2) := fun bl' e' => by
       rw [show nhS n.ts ss n.start (i + 1) = _ from hN1, e']
       exact ⟨set_at, row_set hr4 hjo4 (hr4.1.own hob)⟩
      replace hfin : SameP _ := hfin
      clear vvb3 hb3 vob3 hN1 hk4 hn4
      have nbo : b ≠ ob := ne_new hb hob
      have nb2o : b2 ≠ ob := ne_new hb2 hob
      by_cases hs0 : 0 <= sg
      ·have hbo' := (show 0 <= sg /\ sg < 6 -> bl.set sg.toNat (.bool false) = boolsO (off.filter fun x => !(x == sg)) from hbo) ⟨hs0, hsx.2⟩
       replace hbo' : SameP _ := hbo'
       ((try (refine @unH _ ?_; refine zX y69_114 ?_)); (try (refine hK _ _ ?_; clear hK K; (try simp only [nq, ↓reduceIte, Nat.reduceEqDiff]))); refine @unH _ ?_; refine zA y69_114 ?_; (repeat (refine inC ?_; intro hc)); try (refine inK ?_; intro K hK))
       refine ⟨by rw [List.length_set]; omega, hK _ _ ?_⟩
       clear hK K
       (try simp only [nq, ↓reduceIte, Nat.reduceEqDiff])
       (refine @unH _ ?_; refine zA y69_114 ?_; (repeat (refine inC ?_; intro hc)); try (refine inK ?_; intro K hK))
       have hf := (show ∀ bl', _ -> _ /\ _ from hfin) ((bl.set sg.toNat (.bool false)).set t.toNat (.bool true)) (by rw [show bl.set _ _ = _ from hbo']; exact hbs)
       exact ⟨_, by omega, _, i + 1, jv', rfl, hlt, rfl, e1, e3, e6, rfl, rfl, hf.1, hf.2, hjo4⟩
      ·have hbn' := (show sg < 0 -> boolsO (off.filter fun x => !(x == sg)) = bl from hbn) (by omega)
       replace hbn' : SameP _ := hbn'
       ((try (refine @unH _ ?_; refine zX y69_114 ?_)); (try (refine hK _ _ ?_; clear hK K; (try simp only [nq, ↓reduceIte, Nat.reduceEqDiff]))); refine @unH _ ?_; refine zA y69_114 ?_; (repeat (refine inC ?_; intro hc)); try (refine inK ?_; intro K hK))
       have hf := (show ∀ bl', _ -> _ /\ _ from hfin) (bl.set t.toNat (.bool true)) (by rw [<- show boolsO _ = bl from hbn']; exact hbs)
       exact ⟨_, by omega, _, i + 1, jv', rfl, hlt, rfl, e1, e3, e6, rfl, rfl, hf.1, hf.2, hjo4⟩
    ·obtain rfl : i = n.ts.length := by omega
     rw [<- show jj = _ from hjobs] at hjv
     obtain ⟨ja, jc, rfl⟩ := hjv.len
     (refine @unH _ ?_; refine zA y69_114 ?_; (repeat (refine inC ?_; intro hc)); try (refine inK ?_; intro K hK))
     (refine @unH _ ?_; refine z9 Tryz.results69 ?_)
     exact ⟨_, rfl, Hp.le_trans lHH l3, hjv.ints⟩
theorem rJobs_spec (m : Md) (H : Hp) (n : HN) (v : HV) (hd : HaulIn H n v) :
  FnX Tryz.prog m 27 #[n.agg v] H fun e H' => ∃ jv, e = .returned (.tuple #[jv, .int .i64 0]) /\ H.le H' /\ SlI H' jv n.jobs := by
 have hck := fun H' h' => rcheck6_spec m H' n v h'
 have hjb := fun H' h' => rjobs_spec m H' n v h'
 have hd0 := hd
 obtain ⟨sv, cv, tv, xv⟩ := v
 obtain ⟨hday, htimes, _⟩ := hd
 simp only [] at hday htimes
 obtain ⟨sa, sn, sc, rfl⟩ := hday.st.isSlice
 obtain ⟨ca, cn, cc, rfl⟩ := hday.calls.isSlice
 obtain ⟨ta, tn, tc, rfl⟩ := hday.truth.isSlice
 obtain ⟨xa, xn, xc, rfl⟩ := htimes.isSlice
 simp only [HN.agg] at hck hjb ⊢
 replace hck : SameP _ := hck
 replace hjb : SameP _ := hjb
 clear hday htimes
 refine FnX_start Tryz.func27 rfl Tryz.ntmps27 (by simp) ?_
 (refine @unH _ ?_; refine zA y27_114 ?_; (repeat (refine inC ?_; intro hc)); try (refine inK ?_; intro K hK))
 (intro vb hvb; generalize hG : Hp.set _ vb _ = H1; have lH1 := le_of_set hG hvb; have vvb := at_of_set hG; clear hG)
 have hd1 := hd0.le lH1
 ((try (refine @unH _ ?_; refine zX y27_114 ?_)); (try (refine hK _ _ ?_; clear hK K; (try simp only [nq, ↓reduceIte, Nat.reduceEqDiff]))); refine @unH _ ?_; refine zA y27_114 ?_; (repeat (refine inC ?_; intro hc)); try (refine inK ?_; intro K hK))
 have hr := (show ∀ H', HaulIn H' n ⟨.slice sa sn sc, .slice ca cn cc, .slice ta tn tc, .slice xa xn xc⟩ -> _ from hck) H1 hd1
 refine hr.runs.mono ?_
 clear hr
 rintro _ H2 ⟨rfl, lH2⟩
 have hd2 := hd1.le lH2
 have vvb2 := lH2 _ _ vvb
 clear vvb
 ((try (refine @unH _ ?_; refine zX y27_114 ?_)); (try (refine hK _ _ ?_; clear hK K; (try simp only [nq, ↓reduceIte, Nat.reduceEqDiff]))); refine @unH _ ?_; refine zA y27_114 ?_; (repeat (refine inC ?_; intro hc)); try (refine inK ?_; intro K hK))
 have hr := (show ∀ H', HaulIn H' n ⟨.slice sa sn sc, .slice ca cn cc, .slice ta tn tc, .slice xa xn xc⟩ -> _ from hjb) H2 hd2
 refine hr.runs.mono ?_
 clear hr
 rintro _ H3 ⟨jv, rfl, lH3, hj⟩
 obtain ⟨ja, jn, jc, rfl⟩ := hj.isSlice
 ((try (refine @unH _ ?_; refine zX y27_114 ?_)); (try (refine hK _ _ ?_; clear hK K; (try simp only [nq, ↓reduceIte, Nat.reduceEqDiff]))); refine @unH _ ?_; refine zA y27_114 ?_; (repeat (refine inC ?_; intro hc)); try (refine inK ?_; intro K hK))
 (refine @unH _ ?_; refine zB Tryz.results27 ?_)
 exact ⟨_, rfl, Hp.le_trans lH1 (Hp.le_trans lH2 lH3), hj⟩
end Go.Proofs.YtofmadjgbcopdaaGreatDoor
end
section
namespace Go.X
open Go
theorem results_cell_tmp3 {P : Program} {H : Hp} {fn : Func} {t u v x : Tmp} {ty : TypeId} (h : fn.results = #[.cell t ty, .tmp u, .tmp v, .tmp x]) {n : Nat} {e : Nat -> Value} {ds : List Deferred} (ht : t < n) (hu' : u < n) (hv : v < n) (hx : x < n) {b o : Nat} (hb : e t = .pointer (some ⟨b, o, none⟩))
  {d : TypeDesc} (hu : P.underlying ty = some d) (hd : aggB d = true) {k : Nat} (hs : ∀ w, (sizeOf ty).run P w = .ok (k + 1) w) (K : Value -> Hp -> Prop) (E : Value -> Hp -> Prop) :
  wpS P (results fn (act n e ds).tmps) H K E = loadA H b o (k + 1) (fun w => K (.tuple #[w, e u, e v, e x]) H) := by
 simp [-bind_pure_comp, results, h, act_get? ht, act_get? hu', act_get? hv, act_get? hx, hb, asAddr, wpS_bind', wpS_pure, loadVar_agg hu hd hs]
end Go.X
namespace Go.Proofs.YtofmadjgbcopdaaGreatDoor
open Go Go.X
def y41_115 := And.intro (fun H => ex_alloc (H := H) (P := Tryz.prog) (h := Tryz.zeroValue29)) (And.intro @callF38 (And.intro (fun H => storeAt_agg (H := H) Tryz.sizeOf29) (And.intro (fun H => loadAt_aggE (H := H) Tryz.underlying29 rfl Tryz.sizeOf29) (And.intro @callF27 (And.intro (fun H => len_slice (H := H) Tryz.underlying22) (And.intro (fun H => fieldAt_eq (H := H) Tryz.underlying29 (i := 5) rfl (off := 8) rfl Tryz.sizeOf3) (And.intro (fun H => loadAt_one (H := H) Tryz.underlying3 rfl) (And.intro @callF66 (And.intro @lit_22_3_0_1_2_0 (And.intro @callF82 @callF24))))))))))
def y66_115 := And.intro @min_int (And.intro @callF24 @lit_22_1_0_0)
theorem HaulIn.move {H H' : Hp} {n : HN} {v : HV} (h : HaulIn H n v) (hl : ∀ x p c fr e, (e = 3 ∨ e = 22) -> H x = some (p, .cells c e fr) -> H' x = some (p, .cells c e fr)) : HaulIn H' n v :=
 {h with
  day := { h.day with st := h.day.st.move fun _ _ _ _ q => hl _ _ _ _ _ (.inl rfl) q, calls := h.day.calls.move hl, truth := h.day.truth.move fun _ _ _ _ q => hl _ _ _ _ _ (.inl rfl) q }
  times := h.times.move fun _ _ _ _ q => hl _ _ _ _ _ (.inl rfl) q }
theorem tin_keeps {H H' : Hp} {b k : Nat} (hl : Lex (some b) H H') (hT : TinI H b k) : ∀ x p c fr e, (e = 3 ∨ e = 22) -> H x = some (p, .cells c e fr) -> H' x = some (p, .cells c e fr) := fun x p c fr e he hx => hl.keeps hx fun e' => by
 obtain ⟨_, _, _, _, _, hb2, _⟩ := hT
 rw [e', hb2] at hx
 simp only [Option.some.injEq, Prod.mk.injEq, Obj.cells.injEq] at hx
 rcases he with he | he <;> rw [he] at hx <;> exact absurd hx.2.2.1 (by decide)
theorem set_keeps {H : Hp} {b : Nat} {p : Bool} {c0 : Array Value} {e0 : TypeId} {fr0 : Nat × Nat} {o : Obj} (hb : H b = some (p, .cells c0 e0 fr0)) (h1 : e0 ≠ 3) (h2 : e0 ≠ 22) : ∀ x p c fr e, (e = 3 ∨ e = 22) -> H x = some (p, .cells c e fr) -> (H.set b o) x = some (p, .cells c e fr) := fun x p c fr e he hx => by
 rw [set_ne (fun e' => ?_)]
 ·exact hx
 ·rw [e', hb] at hx
  simp only [Option.some.injEq, Prod.mk.injEq, Obj.cells.injEq] at hx
  rcases he with he | he <;> rw [he] at hx
  ·exact h1 hx.2.2.1
  ·exact h2 hx.2.2.1
theorem planOf_spec (m : Md) (H : Hp) (b k N : Nat) (load : Int) (hN : N <= 8) (l1 : 1 <= load) (l3 : load <= 3) (hT : TinI H b (k + N)) :
  FnX Tryz.prog m 66 #[.pointer (some ⟨b, 0, none⟩), .int .i64 N, .int .i64 load] H fun e H' => ∃ (pv : Value) (pl : List Nat), e = .returned pv /\ RowX (some b) H H' pv 3 (ints (pl.map fun x : Nat => (x : Int))) /\ (∀ m ∈ pl, 1 <= m) /\ (∀ m ∈ pl, (m : Int) <= load) /\ pl.sum = N /\ TinI H' b k := by
 refine FnX_start Tryz.func66 rfl Tryz.ntmps66 (by simp) ?_
 (refine @unH _ ?_; refine zA y66_115 ?_; (repeat (refine inC ?_; intro hc)); try (refine inK ?_; intro K hK))
 refine wpX_loop (fun w' a' H' => ∃ e pv, ∃ (pl : List Nat) (left : Nat), w' = left /\ a' = act 24 e [] /\ e 0 = .pointer (some ⟨b, 0, none⟩) /\ e 1 = .int .i64 (left : Nat) /\ e 2 = .int .i64 load /\ e 7 = pv /\ RowX (some b) H H' pv 3 (ints (pl.map fun x : Nat => (x : Int))) /\ (∀ m ∈ pl, 1 <= m) /\ (∀ m ∈ pl, (m : Int) <= load) /\ pl.sum + left = N /\ pl.length + left <= N /\ TinI H' b (k + left)) (n := N) ?_ ?_
 ·exact ⟨_, .slice none 0 0, [], N, rfl, rfl, rfl, rfl, rfl, rfl, RowX.nil, by simp, by simp, by simp, by simp, hT⟩
 ·rintro w' a' H2 ⟨e, pv, pl, left, rfl, rfl, e0, e1, e2, e7, hrow, hp1, hp2, hps, hpl, hT2⟩
  replace hp1 : SameP _ := hp1
  replace hp2 : SameP _ := hp2
  replace hps : SameP _ := hps
  by_cases h0 : 0 < w'
  ·(refine @unH _ ?_; refine zA y66_115 ?_; (repeat (refine inC ?_; intro hc)); try (refine inK ?_; intro K hK))
   obtain ⟨hi, hhi⟩ : ∃ hi : Int, hi = (if (w' : Int) < load then (w' : Int) else load) := ⟨_, rfl⟩
   rw [<- hhi]
   have hb : 1 <= hi /\ hi <= load /\ hi <= w' := by rw [hhi]; split <;> omega
   clear hhi
   refine (withinL m H2 b (k + (w' - 1)) 1 hi (by omega) (by omega) (by omega) (by omega) (by rw [show k + (w' - 1) + 1 = k + w' by omega]; exact hT2)).runs.mono ?_
   rintro _ H3 ⟨r, hr1, hr2, rfl, hl3, hT3⟩
   replace hr2 : r <= hi := by omega
   have hrow3 := hrow.lex hl3 (fun b' e p c fr h => hT2.neI h (Option.some.inj e).symm)
   clear hrow hT2 hl3
   ((try (refine @unH _ ?_; refine zX y66_115 ?_)); (try (refine hK _ _ ?_; clear hK K; (try simp only [nq, ↓reduceIte, Nat.reduceEqDiff]))); refine @unH _ ?_; refine zA y66_115 ?_; (repeat (refine inC ?_; intro hc)); try (refine inK ?_; intro K hK))
   intro g hg
   refine append_i hrow3 hg (by rw [List.length_map]; omega) _ _ _ _ ?_
   intro v' H5 hr5 ho5
   have hT5 := ho5.tin (by decide) hT3
   ((try (refine @unH _ ?_; refine zX y66_115 ?_)); (try (refine hK _ _ ?_; clear hK K; (try simp only [nq, ↓reduceIte, Nat.reduceEqDiff]))); refine @unH _ ?_; refine zA y66_115 ?_; (repeat (refine inC ?_; intro hc)); try (refine inK ?_; intro K hK))
   have hrn : (r.toNat : Int) = r := by omega
   refine ⟨w' - r.toNat, by omega, _, v', pl ++ [r.toNat], w' - r.toNat, rfl, rfl, e0, ?_, e2, rfl, ?_, ?_, ?_, ?_, ?_, ?_⟩
   ·show Value.int .i64 _ = Value.int .i64 _
    congr 1
    omega
   ·rw [List.map_append, List.map_singleton, hrn]
    exact hr5
   ·intro x hx
    rcases List.mem_append.1 hx with hx | hx
    ·exact hp1 x hx
    ·rw [List.mem_singleton.1 hx]; omega
   ·intro x hx
    rcases List.mem_append.1 hx with hx | hx
    ·exact hp2 x hx
    ·rw [List.mem_singleton.1 hx]; omega
   ·have : pl.sum + w' = N := hps
    rw [List.sum_append, List.sum_singleton]
    omega
   ·rw [List.length_append, List.length_singleton]
    omega
   ·exact hT5.less (by omega)
  ·obtain rfl : w' = 0 := by omega
   obtain ⟨pa, pc, rfl⟩ := hrow.len
   (refine @unH _ ?_; refine zA y66_115 ?_; (repeat (refine inC ?_; intro hc)); try (refine inK ?_; intro K hK))
   (refine @unH _ ?_; refine z9 Tryz.results66 ?_)
   exact ⟨_, pl, rfl, hrow, hp1, hp2, by have : pl.sum + 0 = N := hps; omega, hT2⟩
theorem made_specX (m : Md) (H : Hp) (b k c : Nat) (hc : c <= 8) (hT : TinI H b (k + 240)) :
  FnX Tryz.prog m 41 #[.pointer (some ⟨b, 0, none⟩), .int .i64 (c : Nat)] H fun e H' => ∃ n v jv pv pl mi, e = .returned (.tuple #[n.agg v, jv, pv, .int .i64 mi]) /\ HaulIn H' n v /\ n.xss.length <= c /\ SlI H' jv n.jobs /\ SlI H' pv (pl.map fun x : Nat => (x : Int)) /\ PlanOk n n.jobs.length pl /\ 1 <= mi /\ mi <= 20 /\ Lex (some b) H H' /\ TinI H' b k /\ ∀ x ∈ n.xs, x <= 82 := by
 refine FnX_start Tryz.func41 rfl Tryz.ntmps41 (by simp) ?_
 (refine @unH _ ?_; refine zA y41_115 ?_; (repeat (refine inC ?_; intro hc)); try (refine inK ?_; intro K hK))
 intro rb hrb
 have hrbn := hT.ne hrb
 have hT1 := hT.new hrb (o := (.cells #[.int .i64 0, .int .i64 0, .slice none 0 0, .slice none 0 0, .slice none 0 0, .int .i64 0, .slice none 0 0, .int .i64 0, .int .i64 0, .int .i64 0, .int .i64 0, .int .i64 0] 29 (0, 0)))
 have l1 : Lex (some b) H (H.set rb (.cells #[.int .i64 0, .int .i64 0, .slice none 0 0, .slice none 0 0, .slice none 0 0, .int .i64 0, .slice none 0 0, .int .i64 0, .int .i64 0, .int .i64 0, .int .i64 0, .int .i64 0] 29 (0, 0))) := Lex.refl.new hrb
 have vrb1 : (H.set rb (.cells #[.int .i64 0, .int .i64 0, .slice none 0 0, .slice none 0 0, .slice none 0 0, .int .i64 0, .slice none 0 0, .int .i64 0, .int .i64 0, .int .i64 0, .int .i64 0, .int .i64 0] 29 (0, 0))) rb = _ := set_at
 generalize H.set rb (.cells #[.int .i64 0, .int .i64 0, .slice none 0 0, .slice none 0 0, .slice none 0 0, .int .i64 0, .slice none 0 0, .int .i64 0, .int .i64 0, .int .i64 0, .int .i64 0, .int .i64 0] 29 (0, 0)) = H1 at *
 ((try (refine @unH _ ?_; refine zX y41_115 ?_)); (try (refine hK _ _ ?_; clear hK K; (try simp only [nq, ↓reduceIte, Nat.reduceEqDiff]))); refine @unH _ ?_; refine zA y41_115 ?_; (repeat (refine inC ?_; intro hc)); try (refine inK ?_; intro K hK))
 refine (haulN_specX m H1 b (k + 20) c hc (hT1.less (by omega))).runs.mono ?_
 rintro _ H2 ⟨n, v, rfl, hd2, hxc, hl2, hT2, hx82⟩
 replace hx82 : SameP _ := hx82
 have vrb2 := hl2.keeps vrb1 hrbn
 have L2 := l1.trans hl2
 have hjob := fun H' h' => rJobs_spec m H' n v h'
 have hj8 := hd2.jobs.1
 have hl1 := hd2.l1
 have hl3 := hd2.l3
 obtain ⟨sv, cv, tv, xv⟩ := v
 obtain ⟨a1, n1, c1, hsv⟩ := hd2.day.st.isSlice
 obtain ⟨a2, n2, c2, hcv⟩ := hd2.day.calls.isSlice
 obtain ⟨a3, n3, c3, htv⟩ := hd2.day.truth.isSlice
 obtain ⟨a4, n4, c4, hxv⟩ := hd2.times.isSlice
 simp only [] at hsv hcv htv hxv
 subst hsv hcv htv hxv
 simp only [HN.agg] at hjob ⊢
 replace hjob : SameP _ := hjob
 clear hT hT1 l1 hl2 vrb1
 ((try (refine @unH _ ?_; refine zX y41_115 ?_)); (try (refine hK _ _ ?_; clear hK K; (try simp only [nq, ↓reduceIte, Nat.reduceEqDiff]))); refine @unH _ ?_; refine zA y41_115 ?_; (repeat (refine inC ?_; intro hc)); try (refine inK ?_; intro K hK))
 intro hb hhb
 have hbr : hb ≠ rb := fun e => by rw [e, vrb2] at hhb; cases hhb
 have hhbn := hT2.ne hhb
 have lH3 : H2.le (H2.set hb (.cells #[.int .i64 n.places, .int .i64 n.pieces, .slice a1 n1 c1, .slice a2 n2 c2, .slice a3 n3 c3, .int .i64 n.rule, .slice a4 n4 c4, .int .i64 n.notice, .int .i64 n.load, .int .i64 n.barrows, .int .i64 n.lo, .int .i64 n.hi] 29 (0, 0))) := Hp.le_set hhb
 have vhb3 : (H2.set hb (.cells #[.int .i64 n.places, .int .i64 n.pieces, .slice a1 n1 c1, .slice a2 n2 c2, .slice a3 n3 c3, .int .i64 n.rule, .slice a4 n4 c4, .int .i64 n.notice, .int .i64 n.load, .int .i64 n.barrows, .int .i64 n.lo, .int .i64 n.hi] 29 (0, 0))) hb = _ := set_at
 generalize H2.set hb (.cells #[.int .i64 n.places, .int .i64 n.pieces, .slice a1 n1 c1, .slice a2 n2 c2, .slice a3 n3 c3, .int .i64 n.rule, .slice a4 n4 c4, .int .i64 n.notice, .int .i64 n.load, .int .i64 n.barrows, .int .i64 n.lo, .int .i64 n.hi] 29 (0, 0)) = H3 at *
 have vrb3 := lH3 _ _ vrb2
 have hd3 := hd2.le lH3
 have hT3 := hT2.le lH3
 have L3 := L2.le lH3
 clear vrb2 hd2 hT2 L2 lH3
 refine hK _ _ ?_
 clear hK K
 (try simp only [nq, ↓reduceIte, Nat.reduceEqDiff])
 (refine @unH _ ?_; refine zA y41_115 ?_; (repeat (refine inC ?_; intro hc)); try (refine inK ?_; intro K hK))
 have hr := (show ∀ H', HaulIn H' n ⟨.slice a1 n1 c1, .slice a2 n2 c2, .slice a3 n3 c3, .slice a4 n4 c4⟩ -> _ from hjob) H3 hd3
 refine hr.runs.mono ?_
 clear hr hjob
 rintro _ H4 ⟨jv, rfl, lH4, hj4⟩
 have vhb4 := lH4 _ _ vhb3
 have vrb4 := lH4 _ _ vrb3
 have hd4 := hd3.le lH4
 have hT4 := hT3.le lH4
 have L4 := L3.le lH4
 clear vhb3 vrb3 hd3 hT3 L3 lH4
 generalize hjj : n.jobs = js at *
 obtain ⟨ja, jc, rfl, hjc, _⟩ := id hj4
 ((try (refine @unH _ ?_; refine zX y41_115 ?_)); (try (refine hK _ _ ?_; clear hK K; (try simp only [nq, ↓reduceIte, Nat.reduceEqDiff]))); refine @unH _ ?_; refine zA y41_115 ?_; (repeat (refine inC ?_; intro hc)); try (refine inK ?_; intro K hK))
 refine wpX_tlast (fun HX => HX hb = some (true, (.cells #[.int .i64 n.places, .int .i64 n.pieces, .slice a1 n1 c1, .slice a2 n2 c2, .slice a3 n3 c3, .int .i64 n.rule, .slice a4 n4 c4, .int .i64 n.notice, .int .i64 n.load, .int .i64 n.barrows, .int .i64 n.lo, .int .i64 n.hi] 29 (0, 0)))) (.take 0 (.take 1 (.take 2 (.take 3 (.take 4 (.take 5 (.take 6 (.take 8 (.take 9 (.two 7 (.one 10 (.one 11 (.one 12 (.one 13 (.take 14 (.take 15 (.take 16 .nil))))))) 10 (.one 7 (.one 11 (.one 12 (.one 13 (.take 14 (.take 15 (.take 16 .nil))))))))))))))))) (by kernel_rfl) (by kernel_rfl) (by decide) (by kernel_rfl) ?_; intro K hK
 (iterate 9 (refine @unH _ ?_; refine z4 y41_115 ?_))
 refine planT_two ?_ ?_
 ·(refine @unH _ ?_; refine zX y41_115 ?_)
  refine (planOf_spec m H4 b (k + 4) js.length n.load hj8 hl1 hl3 (hT4.less (by omega))).runs.mono ?_
  rintro _ H5 ⟨pv, pl, rfl, hrow, hp1, hp2, hps, hT5⟩
  have hl5 := hrow.1
  have vhb5 := hl5.keeps vhb4 hhbn
  have vrb5 := hl5.keeps vrb4 hrbn
  have hd5 := hd4.move (tin_keeps hl5 hT4)
  have hj5 := hj4.lex hl5 hT4
  have hp5 : SlI H5 pv (pl.map fun x : Nat => (x : Int)) := hrow.ints
  have L5 := L4.trans hl5
  clear vhb4 vrb4 hd4 hj4 L4 hT4 hl5 hrow
  have hpok : PlanOk n js.length pl := ⟨hp1, hp2, hps⟩
  clear hp1 hp2 hps
  obtain ⟨pa, pc, rfl, _, _⟩ := id hp5
  (refine @unH _ ?_; refine zX y41_115 ?_)
  refine planT_one ?_
  (refine @unH _ ?_; refine zX y41_115 ?_)
  intro g hg
  have nhg : hb ≠ g := ne_new vhb5 hg
  (refine @unH _ ?_; refine zX y41_115 ?_)
  have vg6 : (H5.set g (.cells #[.int .i64 5, .int .i64 10, .int .i64 20] 3 (0, 0))) g = _ := set_at
  have lg : H5.le (H5.set g (.cells #[.int .i64 5, .int .i64 10, .int .i64 20] 3 (0, 0))) := Hp.le_set hg
  generalize H5.set g (.cells #[.int .i64 5, .int .i64 10, .int .i64 20] 3 (0, 0)) = H6 at *
  have vhb6 := lg _ _ vhb5
  have vrb6 := lg _ _ vrb5
  have hd6 := hd5.le lg
  have hj6 := hj5.le lg
  have hp6 := hp5.le lg
  have hT6 := hT5.le lg
  have L6 := L5.le lg
  clear vhb5 vrb5 hd5 hj5 hp5 hT5 L5 lg
  refine planT_one ?_
  (refine @unH _ ?_; refine zX y41_115 ?_)
  refine (eitherL m H6 b (k + 3) _ [5, 10, 20] (sli_new (xs := [5, 10, 20]) vg6 rfl) (by simp) (by simp) hT6).runs.mono ?_
  rintro _ H7 ⟨r, hr, rfl, hl7, hT7⟩
  have hr5 : 5 <= r /\ r <= 20 := by simp at hr; omega
  have vhb7 := hl7.keeps vhb6 hhbn
  have vrb7 := hl7.keeps vrb6 hrbn
  have hd7 := hd6.move (tin_keeps hl7 hT6)
  have hj7 := hj6.lex hl7 hT6
  have hp7 := hp6.lex hl7 hT6
  have L7 := L6.trans hl7
  clear vhb6 vrb6 hd6 hj6 hp6 L6 hT6 hl7 vg6
  (refine @unH _ ?_; refine zX y41_115 ?_)
  refine planT_one ?_
  (refine @unH _ ?_; refine zX y41_115 ?_)
  refine (withinL m H7 b (k + 2) 1 r (by omega) (by omega) (by omega) (by omega) hT7).runs.mono ?_
  rintro _ H8 ⟨mi, hm1, hm2, rfl, hl8, hT8⟩
  have vhb8 := hl8.keeps vhb7 hhbn
  have vrb8 := hl8.keeps vrb7 hrbn
  have hd8 := hd7.move (tin_keeps hl8 hT7)
  have hj8 := hj7.lex hl8 hT7
  have hp8 := hp7.lex hl8 hT7
  have L8 := L7.trans hl8
  clear vhb7 vrb7 hd7 hj7 hp7 L7 hT7 hl8
  (refine @unH _ ?_; refine zX y41_115 ?_)
  refine planT_one ?_
  (refine @unH _ ?_; refine zX y41_115 ?_)
  have vhb9 : (H8.set rb (.cells #[.int .i64 n.places, .int .i64 n.pieces, .slice a1 n1 c1, .slice a2 n2 c2, .slice a3 n3 c3, .int .i64 n.rule, .slice a4 n4 c4, .int .i64 n.notice, .int .i64 n.load, .int .i64 n.barrows, .int .i64 n.lo, .int .i64 n.hi] 29 (0, 0))) hb = some (true, (.cells #[.int .i64 n.places, .int .i64 n.pieces, .slice a1 n1 c1, .slice a2 n2 c2, .slice a3 n3 c3, .int .i64 n.rule, .slice a4 n4 c4, .int .i64 n.notice, .int .i64 n.load, .int .i64 n.barrows, .int .i64 n.lo, .int .i64 n.hi] 29 (0, 0))) := (set_ne hbr).trans vhb8
  have vrb9 : (H8.set rb (.cells #[.int .i64 n.places, .int .i64 n.pieces, .slice a1 n1 c1, .slice a2 n2 c2, .slice a3 n3 c3, .int .i64 n.rule, .slice a4 n4 c4, .int .i64 n.notice, .int .i64 n.load, .int .i64 n.barrows, .int .i64 n.lo, .int .i64 n.hi] 29 (0, 0))) rb = some (true, (.cells #[.int .i64 n.places, .int .i64 n.pieces, .slice a1 n1 c1, .slice a2 n2 c2, .slice a3 n3 c3, .int .i64 n.rule, .slice a4 n4 c4, .int .i64 n.notice, .int .i64 n.load, .int .i64 n.barrows, .int .i64 n.lo, .int .i64 n.hi] 29 (0, 0))) := set_at
  have hd9 := hd8.move (set_keeps vrb8 (by decide) (by decide) (o := (.cells #[.int .i64 n.places, .int .i64 n.pieces, .slice a1 n1 c1, .slice a2 n2 c2, .slice a3 n3 c3, .int .i64 n.rule, .slice a4 n4 c4, .int .i64 n.notice, .int .i64 n.load, .int .i64 n.barrows, .int .i64 n.lo, .int .i64 n.hi] 29 (0, 0))))
  have hj9 := hj8.set (fun p c fr h => by rw [vrb8] at h; cases h) (b := rb) (o := (.cells #[.int .i64 n.places, .int .i64 n.pieces, .slice a1 n1 c1, .slice a2 n2 c2, .slice a3 n3 c3, .int .i64 n.rule, .slice a4 n4 c4, .int .i64 n.notice, .int .i64 n.load, .int .i64 n.barrows, .int .i64 n.lo, .int .i64 n.hi] 29 (0, 0)))
  have hp9 := hp8.set (fun p c fr h => by rw [vrb8] at h; cases h) (b := rb) (o := (.cells #[.int .i64 n.places, .int .i64 n.pieces, .slice a1 n1 c1, .slice a2 n2 c2, .slice a3 n3 c3, .int .i64 n.rule, .slice a4 n4 c4, .int .i64 n.notice, .int .i64 n.load, .int .i64 n.barrows, .int .i64 n.lo, .int .i64 n.hi] 29 (0, 0)))
  have L9 := L8.own hrb (o := (.cells #[.int .i64 n.places, .int .i64 n.pieces, .slice a1 n1 c1, .slice a2 n2 c2, .slice a3 n3 c3, .int .i64 n.rule, .slice a4 n4 c4, .int .i64 n.notice, .int .i64 n.load, .int .i64 n.barrows, .int .i64 n.lo, .int .i64 n.hi] 29 (0, 0)))
  have hT9 := hT8.own vrb8 hrbn.symm (o' := (.cells #[.int .i64 n.places, .int .i64 n.pieces, .slice a1 n1 c1, .slice a2 n2 c2, .slice a3 n3 c3, .int .i64 n.rule, .slice a4 n4 c4, .int .i64 n.notice, .int .i64 n.load, .int .i64 n.barrows, .int .i64 n.lo, .int .i64 n.hi] 29 (0, 0)))
  generalize H8.set rb (.cells #[.int .i64 n.places, .int .i64 n.pieces, .slice a1 n1 c1, .slice a2 n2 c2, .slice a3 n3 c3, .int .i64 n.rule, .slice a4 n4 c4, .int .i64 n.notice, .int .i64 n.load, .int .i64 n.barrows, .int .i64 n.lo, .int .i64 n.hi] 29 (0, 0)) = H9 at *
  clear vhb8 vrb8 hd8 hj8 hp8 L8 hT8
  (iterate 3 (refine @unH _ ?_; refine z4 y41_115 ?_))
  refine planT_nil (hK _ _ ?_)
  clear hK K
  (try simp only [nq, ↓reduceIte, Nat.reduceEqDiff])
  refine wpX_ret ?_
  (try simp only [nq, ↓reduceIte, Nat.reduceEqDiff])
  rw [bodyX_ret, results_cell_tmp3 Tryz.results41 (by decide) (by decide) (by decide) (by decide) (b := rb) (o := 0) rfl Tryz.underlying29 rfl Tryz.sizeOf29]
  simp -implicitDefEqProofs (disch := first | omega | (simp only [qd] <;> omega)) only [xq, ↓xp, qc, Nat.reduceAdd, List.range, List.range.loop, fine, Nat.reduceEqDiff, ↓reduceIte, yielded, reduceCtorEq, Nat.reduceLT, Nat.reduceMul, Nat.reduceSub, one, Nat.reduceLeDiff, runX_cons, y41_115, aq, loadA_at vrb9, qe0, qe1, qe2]
  rw [vrb9]
  refine ⟨Nat.le_refl 12, ?_⟩
  exact ⟨n, ⟨.slice a1 n1 c1, .slice a2 n2 c2, .slice a3 n3 c3, .slice a4 n4 c4⟩, _, _, pl, mi, rfl, hd9, hxc, by rw [hjj]; exact hj9, hp9, by rw [hjj]; exact hpok, hm1, by omega, L9, hT9.less (by omega), hx82⟩
 ·(refine @unH _ ?_; refine zX y41_115 ?_)
  intro g hg
  have nhg : hb ≠ g := ne_new vhb4 hg
  (refine @unH _ ?_; refine zX y41_115 ?_)
  have vg5 : (H4.set g (.cells #[.int .i64 5, .int .i64 10, .int .i64 20] 3 (0, 0))) g = _ := set_at
  have lg : H4.le (H4.set g (.cells #[.int .i64 5, .int .i64 10, .int .i64 20] 3 (0, 0))) := Hp.le_set hg
  have hgn := hT4.ne hg
  generalize H4.set g (.cells #[.int .i64 5, .int .i64 10, .int .i64 20] 3 (0, 0)) = H5 at *
  have vhb5 := lg _ _ vhb4
  have vrb5 := lg _ _ vrb4
  have hd5 := hd4.le lg
  have hj5 := hj4.le lg
  have hT5 := hT4.le lg
  have L5 := L4.le lg
  clear vhb4 vrb4 hd4 hj4 hT4 L4 lg
  refine planT_one ?_
  (refine @unH _ ?_; refine zX y41_115 ?_)
  refine (planOf_spec m H5 b (k + 4) js.length n.load hj8 hl1 hl3 (hT5.less (by omega))).runs.mono ?_
  rintro _ H6 ⟨pv, pl, rfl, hrow, hp1, hp2, hps, hT6⟩
  have hl6 := hrow.1
  have vhb6 := hl6.keeps vhb5 hhbn
  have vrb6 := hl6.keeps vrb5 hrbn
  have vg6 := hl6.keeps vg5 hgn
  have hd6 := hd5.move (tin_keeps hl6 hT5)
  have hj6 := hj5.lex hl6 hT5
  have hp6 : SlI H6 pv (pl.map fun x : Nat => (x : Int)) := hrow.ints
  have L6 := L5.trans hl6
  clear vhb5 vrb5 vg5 hd5 hj5 L5 hT5 hl6 hrow
  have hpok : PlanOk n js.length pl := ⟨hp1, hp2, hps⟩
  clear hp1 hp2 hps
  obtain ⟨pa, pc, rfl, _, _⟩ := id hp6
  (refine @unH _ ?_; refine zX y41_115 ?_)
  refine planT_one ?_
  (refine @unH _ ?_; refine zX y41_115 ?_)
  refine (eitherL m H6 b (k + 3) _ [5, 10, 20] (sli_new (xs := [5, 10, 20]) vg6 rfl) (by simp) (by simp) hT6).runs.mono ?_
  rintro _ H7 ⟨r, hr, rfl, hl7, hT7⟩
  have hr5 : 5 <= r /\ r <= 20 := by simp at hr; omega
  have vhb7 := hl7.keeps vhb6 hhbn
  have vrb7 := hl7.keeps vrb6 hrbn
  have hd7 := hd6.move (tin_keeps hl7 hT6)
  have hj7 := hj6.lex hl7 hT6
  have hp7 := hp6.lex hl7 hT6
  have L7 := L6.trans hl7
  clear vhb6 vrb6 hd6 hj6 hp6 L6 hT6 hl7 vg6
  (refine @unH _ ?_; refine zX y41_115 ?_)
  refine planT_one ?_
  (refine @unH _ ?_; refine zX y41_115 ?_)
  refine (withinL m H7 b (k + 2) 1 r (by omega) (by omega) (by omega) (by omega) hT7).runs.mono ?_
  rintro _ H8 ⟨mi, hm1, hm2, rfl, hl8, hT8⟩
  have vhb8 := hl8.keeps vhb7 hhbn
  have vrb8 := hl8.keeps vrb7 hrbn
  have hd8 := hd7.move (tin_keeps hl8 hT7)
  have hj8 := hj7.lex hl8 hT7
  have hp8 := hp7.lex hl8 hT7
  have L8 := L7.trans hl8
  clear vhb7 vrb7 hd7 hj7 hp7 L7 hT7 hl8
  (refine @unH _ ?_; refine zX y41_115 ?_)
  refine planT_one ?_
  (refine @unH _ ?_; refine zX y41_115 ?_)
  have vhb9 : (H8.set rb (.cells #[.int .i64 n.places, .int .i64 n.pieces, .slice a1 n1 c1, .slice a2 n2 c2, .slice a3 n3 c3, .int .i64 n.rule, .slice a4 n4 c4, .int .i64 n.notice, .int .i64 n.load, .int .i64 n.barrows, .int .i64 n.lo, .int .i64 n.hi] 29 (0, 0))) hb = some (true, (.cells #[.int .i64 n.places, .int .i64 n.pieces, .slice a1 n1 c1, .slice a2 n2 c2, .slice a3 n3 c3, .int .i64 n.rule, .slice a4 n4 c4, .int .i64 n.notice, .int .i64 n.load, .int .i64 n.barrows, .int .i64 n.lo, .int .i64 n.hi] 29 (0, 0))) := (set_ne hbr).trans vhb8
  have vrb9 : (H8.set rb (.cells #[.int .i64 n.places, .int .i64 n.pieces, .slice a1 n1 c1, .slice a2 n2 c2, .slice a3 n3 c3, .int .i64 n.rule, .slice a4 n4 c4, .int .i64 n.notice, .int .i64 n.load, .int .i64 n.barrows, .int .i64 n.lo, .int .i64 n.hi] 29 (0, 0))) rb = some (true, (.cells #[.int .i64 n.places, .int .i64 n.pieces, .slice a1 n1 c1, .slice a2 n2 c2, .slice a3 n3 c3, .int .i64 n.rule, .slice a4 n4 c4, .int .i64 n.notice, .int .i64 n.load, .int .i64 n.barrows, .int .i64 n.lo, .int .i64 n.hi] 29 (0, 0))) := set_at
  have hd9 := hd8.move (set_keeps vrb8 (by decide) (by decide) (o := (.cells #[.int .i64 n.places, .int .i64 n.pieces, .slice a1 n1 c1, .slice a2 n2 c2, .slice a3 n3 c3, .int .i64 n.rule, .slice a4 n4 c4, .int .i64 n.notice, .int .i64 n.load, .int .i64 n.barrows, .int .i64 n.lo, .int .i64 n.hi] 29 (0, 0))))
  have hj9 := hj8.set (fun p c fr h => by rw [vrb8] at h; cases h) (b := rb) (o := (.cells #[.int .i64 n.places, .int .i64 n.pieces, .slice a1 n1 c1, .slice a2 n2 c2, .slice a3 n3 c3, .int .i64 n.rule, .slice a4 n4 c4, .int .i64 n.notice, .int .i64 n.load, .int .i64 n.barrows, .int .i64 n.lo, .int .i64 n.hi] 29 (0, 0)))
  have hp9 := hp8.set (fun p c fr h => by rw [vrb8] at h; cases h) (b := rb) (o := (.cells #[.int .i64 n.places, .int .i64 n.pieces, .slice a1 n1 c1, .slice a2 n2 c2, .slice a3 n3 c3, .int .i64 n.rule, .slice a4 n4 c4, .int .i64 n.notice, .int .i64 n.load, .int .i64 n.barrows, .int .i64 n.lo, .int .i64 n.hi] 29 (0, 0)))
  have L9 := L8.own hrb (o := (.cells #[.int .i64 n.places, .int .i64 n.pieces, .slice a1 n1 c1, .slice a2 n2 c2, .slice a3 n3 c3, .int .i64 n.rule, .slice a4 n4 c4, .int .i64 n.notice, .int .i64 n.load, .int .i64 n.barrows, .int .i64 n.lo, .int .i64 n.hi] 29 (0, 0)))
  have hT9 := hT8.own vrb8 hrbn.symm (o' := (.cells #[.int .i64 n.places, .int .i64 n.pieces, .slice a1 n1 c1, .slice a2 n2 c2, .slice a3 n3 c3, .int .i64 n.rule, .slice a4 n4 c4, .int .i64 n.notice, .int .i64 n.load, .int .i64 n.barrows, .int .i64 n.lo, .int .i64 n.hi] 29 (0, 0)))
  generalize H8.set rb (.cells #[.int .i64 n.places, .int .i64 n.pieces, .slice a1 n1 c1, .slice a2 n2 c2, .slice a3 n3 c3, .int .i64 n.rule, .slice a4 n4 c4, .int .i64 n.notice, .int .i64 n.load, .int .i64 n.barrows, .int .i64 n.lo, .int .i64 n.hi] 29 (0, 0)) = H9 at *
  clear vhb8 vrb8 hd8 hj8 hp8 L8 hT8
  (iterate 3 (refine @unH _ ?_; refine z4 y41_115 ?_))
  refine planT_nil (hK _ _ ?_)
  clear hK K
  (try simp only [nq, ↓reduceIte, Nat.reduceEqDiff])
  refine wpX_ret ?_
  (try simp only [nq, ↓reduceIte, Nat.reduceEqDiff])
  rw [bodyX_ret, results_cell_tmp3 Tryz.results41 (by decide) (by decide) (by decide) (by decide) (b := rb) (o := 0) rfl Tryz.underlying29 rfl Tryz.sizeOf29]
  simp -implicitDefEqProofs (disch := first | omega | (simp only [qd] <;> omega)) only [xq, ↓xp, qc, Nat.reduceAdd, List.range, List.range.loop, fine, Nat.reduceEqDiff, ↓reduceIte, yielded, reduceCtorEq, Nat.reduceLT, Nat.reduceMul, Nat.reduceSub, one, Nat.reduceLeDiff, runX_cons, y41_115, aq, loadA_at vrb9, qe0, qe1, qe2]
  rw [vrb9]
  refine ⟨Nat.le_refl 12, ?_⟩
  exact ⟨n, ⟨.slice a1 n1 c1, .slice a2 n2 c2, .slice a3 n3 c3, .slice a4 n4 c4⟩, _, _, pl, mi, rfl, hd9, hxc, by rw [hjj]; exact hj9, hp9, by rw [hjj]; exact hpok, hm1, by omega, L9, hT9.less (by omega), hx82⟩
theorem made_spec (m : Md) (H : Hp) (b k c : Nat) (hc : c <= 8) (hT : TinI H b (k + 240)) :
  FnX Tryz.prog m 41 #[.pointer (some ⟨b, 0, none⟩), .int .i64 (c : Nat)] H fun e H' => ∃ n v jv pv pl mi, e = .returned (.tuple #[n.agg v, jv, pv, .int .i64 mi]) /\ HaulIn H' n v /\ n.xss.length <= c /\ SlI H' jv n.jobs /\ SlI H' pv (pl.map fun x : Nat => (x : Int)) /\ PlanOk n n.jobs.length pl /\ 1 <= mi /\ mi <= 20 /\ Lex (some b) H H' /\ TinI H' b k :=
 (made_specX m H b k c hc hT).mono fun e H' ⟨n, v, jv, pv, pl, mi, h1, h2, h3, h4, h5, h6, h7, h8, h9, h10, _⟩ => ⟨n, v, jv, pv, pl, mi, h1, h2, h3, h4, h5, h6, h7, h8, h9, h10⟩
end Go.Proofs.YtofmadjgbcopdaaGreatDoor
end
section
namespace Go.X
open Go Go.RowKit
open Go.Conc (G base)
theorem Base.below {W w : World} (h : Base W w) : Below W.heap.size W { w with tape := W.tape } := ⟨h.os, rfl, h.output, h.size, h.block⟩
theorem Base.kept {W w : World} (h : Base W w) (may : MemPlace -> Prop) : W.keptBut w may := by
 have := World.keptBut_refl W may
 refine ⟨h.os, h.output, fun i hi => ?_⟩
 rw [h.block i hi]
 exact this.2.2 i hi
theorem leaving_of_change_and {H : Type} {enc : TypeId × Value -> H} {a : Assume} {C : Checked} {os : Os} {f : FuncId} {fn : Func} {s : ChangeSpec} {conds : List PathCond} {apart fresh handsOn again : Bool} {X : World -> Array Value -> Prop}
  (hX : ∀ (w w' : World) (args : Array Value), w.heap = w'.heap -> X w args -> X w' args)
  (own : ownKnob C.prog.godebug = none) (started : os.Started) (hfn : C.prog.funcs[f]? = some fn)
  (witness : ∃ (w : World) (tape : Tape) (i : Input), w.os = os /\ (w.forCall tape i).Shaped C.prog /\ i.vars = [] /\ Input.okWide C.prog (w.forCall tape i) .any w.heap.size f i /\
   ((s.pre enc C.prog fn conds apart (w.forCall tape i).memory i.args /\ X (w.forCall tape i).memory i.args) /\ sizedMet enc C.prog fn (OpenSpec.ofChange s) apart (w.forCall tape i).memory i.args) /\ a.holds C.prog (lone (Frame.enter C.prog f i.args .normal) [] (w.forCall tape i)))
  (runs : ∀ (W : World) (base : Nat) (args : Array Value) (ds gs : List (DataW H)) (before : List MemPlace),
   (∀ (j : Nat) t v, fn.params[j]? = some t -> args[j]? = some v -> Value.okWide C.prog W .any base t v) ->
   DataW.Whole enc C.prog fn.params.toList s.vars apart W args.toList ds gs before -> X W args ->
   Ends C.prog (fun v W' => s.post enc C.prog fn apart fresh handsOn again W args v W') (Conc.solo (G (Frame.enter C.prog f args .normal) []) W) #[]) :
  ReturnsInLeavingWide a C os f .any (fun w args => (s.pre enc C.prog fn conds apart w args /\ X w args) /\ sizedMet enc C.prog fn (OpenSpec.ofChange s) apart w args) (s.post enc C.prog fn apart fresh handsOn again) := by
 refine returnsInLeavingWide_of_good own started witness ?_
 intro w tape i _ _ _ hok hpre hholds
 obtain ⟨_, _, _, fn', hfn', _, _, _, _, hval⟩ := hok
 have e : fn' = fn := Option.some.inj (hfn'.symm.trans hfn)
 subst e
 obtain ⟨⟨⟨ds, gs, before, hw, hc⟩, hx⟩, hz⟩ := hpre
 have hw' := DataW.Whole.of_heap (w' := w.forCall tape i) (by rfl) hw
 obtain ⟨M, last, o, w', t', h1, h2, h3, h4⟩ := runs (w.forCall tape i) w.heap.size i.args ds gs before hval hw' (hX _ _ _ (by rfl) hx)
 exact ⟨M, last, o, w', t', h1, h2, h3, h4.mono fun v hp => ChangeSpec.post_blind hp⟩
end Go.X
end
section
namespace Go.Proofs.YtofmadjgbcopdaaGreatDoor
open Go Go.X Go.ChangeShapes Go.WideShapes Go.RowKit
theorem ownK : ownKnob Tryz.prog.godebug = none := by kernel_rfl
theorem laidOutK : laidOutB Tryz.prog = true := by kernel_rfl
theorem cellsK : Tryz.prog.cellsOf 3 = 1 := by kernel_rfl
noncomputable def laidWorld (os : Os) : World :=
 let w0 := World.holding Tryz.prog os ⟨#[], #[], []⟩
 {w0 with heap := w0.heap.modify 0 fun
   | .cells _ t frozen => .cells #[.iface 230 (.agg #[.pointer (some ⟨1, 142, none⟩)])] t frozen
   | o => o }
theorem laidWorld_met (os : Os) (args : Array Value) : laidMetH Tryz.prog [("errors.errorType", Rows.laid_errors_errorType)] ((laidWorld os).forCall (fun _ _ => 0) ⟨#[], args, []⟩).memory :=
 laidMetH_of_parts (laidMet_nil _ _) (by kernel_rfl)
theorem results_tmp {fn : Func} {t : Tmp} (h : fn.results = #[.tmp t]) (P : Program) (tmps : Array Value) (w : World) (v : Value) (w' : World) (hr : (results fn tmps).run P w = .ok v w') : w' = w := by
 simp [results, h] at hr
 exact hr.2.symm
end Go.Proofs.YtofmadjgbcopdaaGreatDoor
end
