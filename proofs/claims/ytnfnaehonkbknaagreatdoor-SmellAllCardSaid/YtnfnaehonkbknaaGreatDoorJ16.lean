/- Texts SmN SmD PlanW SmT SmP SmFq. -/
import Derived.Test.YtnfnaehonkbknaaGreatDoorJ15
set_option linter.defProp false
set_option linter.unusedSimpArgs false
set_option linter.unusedVariables false
set_option maxRecDepth 100000
set_option maxHeartbeats 2000000
section
namespace Go.X
open Go
theorem Avw {P : Program} {H : Hp} {fn : Func} {t u r : Tmp} {ty : TypeId} (h : fn.results = #[.tmp t, .tmp u, .cell r ty]) {n : Nat} {e : Nat -> Value} {ds : List Deferred} (ht : t < n) (hu : u < n) (hr : r < n) {a : Addr} (hb : e r = .pointer (some a))
  {d : TypeDesc} (hty : P.underlying ty = some d) (hd : aggB d = false) (K : Value -> Hp -> Prop) (E : Value -> Hp -> Prop) :
  wpS P (results fn (act n e ds).tmps) H K E = ∃ v, H.cell a = some v /\ K (.tuple #[e t, e u, v]) H := by
 have hl : ∀ K E, wpS P (loadVar ty a) H K E = ∃ v, H.cell a = some v /\ K v H := fun K E => Aqh hty hd a K E
 simp [-bind_pure_comp, results, h, act_get? ht, act_get? hu, act_get? hr, hb, asAddr, Aqa, Aqe, hl]
end Go.X
namespace Go.Proofs.YtnfnaehonkbknaaGreatDoor
open Go Go.X Go.Proofs.Tryz
def Azb := aN (fun H => Aqt (H := H) (P := Tryz.prog) (h := zeroValue4)) (aN @Dy4 (aN @Dy9 (aN @Eqx (aN @Dyx (aN @Exj (aN @Eq6 (aN @Exw (aN @Exe (aN @Dqr (aN (fun H st => Bqc (H := H) (st := st) underlying206 rfl zeroValue206) (aN @Bqn (aN @Bqo (aN @Dqs (aN @Bx5 (aN @Bx7 (aN @Dqt (aN @Eqe (aN @Eqy (aN @Dyr (aN @Ayy (aN (fun H st => Bqc (H := H) (st := st) underlying208 rfl zeroValue208) (aN @Bvw (aN (fun H => Aqt (H := H) (P := Tryz.prog) (h := zeroValue206)) (aN (fun H => Aqr (H := H) sizeOf206) (aN @Cjs (aN (fun H => Dxx (H := H) underlying200 rfl) @Dyq))))))))))))))))))))))))))
def Cx6 := aN (fun H st => Bqc (H := H) (st := st) underlying200 rfl zeroValue200) (aN (fun H => Aqt (H := H) (P := Tryz.prog) (h := zeroValue200)) (aN (fun H => Aqr (H := H) sizeOf200) @Dyq))
def Bwh := aN @Eqg (aN @Eqz (aN @Eqf (aN @Eqy (aN @Cqi (aN (fun H => Dxx (H := H) underlying206 rfl) (aN @Cqj (fun H => Dxx (H := H) underlying208 rfl)))))))
def Cy8 := aN (fun H => Aqd (H := H) underlying206 (i := 0) rfl (off := 0) rfl sizeOf3) @Eqy
def Cy9 := aN (fun H => Aqd (H := H) underlying208 (i := 0) rfl (off := 0) rfl sizeOf3) @Eqy
def nsV (n : Ns) : Value := if n.sm then .iface 206 (.agg #[.int .i64 n.hr]) else .iface 208 (.agg #[.int .i64 n.hr])
theorem Cxa (main : Md) (H : Hp) (n : Ns) :
  FnX Tryz.prog main 115 #[.agg #[.int .i64 n.pl, .int .i64 n.hr, .bool n.sm]] H fun e H' => e = .returned (nsV n) /\ H.le H' := by
 obtain ⟨pl, hr, sm⟩ := n
 cases sm with
 | true =>
  refine Aql func115 rfl ntmps115 (by simp) ?_
  (refine @unH _ (zA Bwh ?_); (try clear hK K); intro K hK hc)
  (intro sb hsb; generalize hG : Hp.set _ sb _ = H1; have lH1 := Aqc hG hsb; have vsb := Aqb hG; clear hG)
  (refine @unH _ (zU Bwh ?_); (try clear hK K); intro K hK hc)
  (refine @unH _ ?_; refine z9 results115 ?_)
  exact ⟨rfl, lH1⟩
 | false =>
  refine Aql func115 rfl ntmps115 (by simp) ?_
  (refine @unH _ (zA Bwh ?_); (try clear hK K); intro K hK hc)
  (intro sb hsb; generalize hG : Hp.set _ sb _ = H1; have lH1 := Aqc hG hsb; have vsb := Aqb hG; clear hG)
  (refine @unH _ (zU Bwh ?_); (try clear hK K); intro K hK hc)
  (refine @unH _ ?_; refine z9 results115 ?_)
  exact ⟨rfl, lH1⟩
theorem Cym (main : Md) (H : Hp) (x : Int) :
  FnX Tryz.prog main 150 #[.agg #[.int .i64 x]] H fun e H' => e = .returned (.int .i64 x) /\ H.le H' := by
 refine Aql func150 rfl ntmps150 (by simp) ?_
 (refine @unH _ (zA Cy8 ?_); (try clear hK K); intro K hK hc)
 (intro sb hsb; generalize hG : Hp.set _ sb _ = H1; have lH1 := Aqc hG hsb; have vsb := Aqb hG; clear hG)
 (refine @unH _ (zU Cy8 ?_); (try clear hK K); intro K hK hc)
 (refine @unH _ ?_; refine z9 results150 ?_)
 exact ⟨trivial, lH1⟩
theorem Cv6 (main : Md) (H : Hp) (x : Int) :
  FnX Tryz.prog main 151 #[.agg #[.int .i64 x]] H fun e H' => e = .returned (.int .i64 x) /\ H.le H' := by
 refine Aql func151 rfl ntmps151 (by simp) ?_
 (refine @unH _ (zA Cy9 ?_); (try clear hK K); intro K hK hc)
 (intro sb hsb; generalize hG : Hp.set _ sb _ = H1; have lH1 := Aqc hG hsb; have vsb := Aqb hG; clear hG)
 (refine @unH _ (zU Cy9 ?_); (try clear hK K); intro K hK hc)
 (refine @unH _ ?_; refine z9 results151 ?_)
 exact ⟨trivial, lH1⟩
def Cw4 (k : Bool) : Value := if k then .iface 200 (.agg #[]) else .nilIface
theorem Bwt (H : Hp) (k : Bool) (st : TypeId) (K : Value -> Hp -> Prop) (E : Value -> Hp -> Prop) : wpS Tryz.prog (Instr.typeAssert (Cw4 k) st 200 true) H K E = K (.tuple #[.agg #[], .bool k]) H := by
 cases k
 ·show wpS Tryz.prog (Instr.typeAssert .nilIface st 200 true) H K E = _
  unfold Instr.typeAssert
  rw [Aqa, Aqj underlying200]
  simp only [Bjq, Aqe, if_true, Aqa, Axg zeroValue200]
 ·show wpS Tryz.prog (Instr.typeAssert (.iface 200 (.agg #[])) st 200 true) H K E = _
  rw [Bqc underlying200 rfl zeroValue200]
  rfl
theorem Ak6 (main : Md) (H : Hp) (isb : Nat) (x : Value) (hb : H isb = some (true, .cells #[x] 4 (0, 0))) (m : FrameMode) (k : Bool) (hm : m = .returning /\ k = false ∨ m = .panicking [{ v := Cw4 true, recovered := false }] /\ k = true) (R : FrameMode -> Hp -> Prop)
  (hR : Aqk (∀ H', H.le H' -> R .returning (if k = true then H'.set isb (.cells #[.bool false] 4 (0, 0)) else H'))) :
  DefX Tryz.prog main m { target := .fn (.func 114) #[.pointer (some ⟨isb, 0, none⟩)], args := #[] } H R := by
 refine Bwn (v := Cw4 k) func114 rfl (fun _ _ => Dqq _) ?_ ?_
 ·rcases hm with ⟨h1, h2⟩ | ⟨h1, h2⟩
  ·exact .inl ⟨h1, by rw [h2]; rfl⟩
  ·exact .inr (by rw [h1, h2])
 intro K hK
 rw [ntmps114]
 rw [show ((#[] : Array Value) ++ #[.pointer (some ⟨isb, 0, none⟩)]) = [Value.pointer (some ⟨isb, 0, none⟩)].toArray from rfl, Bqh (by simp)]
 (refine @unH _ ?_; refine zX (aN Cx6 @Bwt) ?_)
 (intro nb hnb; generalize hG : Hp.set _ nb _ = H1; have lH1 := Aqc hG hnb; have vnb := Aqb hG; clear hG)
 have hb1 := lH1 _ _ hb
 refine hK _ _ ?_; clear hK K
 cases k
 ·have hR1 := (show ∀ H', H.le H' -> R .returning (if false = true then H'.set isb (.cells #[.bool false] 4 (0, 0)) else H') from hR) H1 lH1
  simp only [Bool.false_eq_true, if_false] at hR1
  replace hR1 : Aqk _ := hR1
  (refine @unH _ (zA Cx6 ?_); (try clear hK K); intro K hK hc)
  refine ⟨rfl, ?_⟩
  rw [Awo results114]
  exact hR1
 ·have hR1 := (show ∀ H', H.le H' -> R .returning (if true = true then H'.set isb (.cells #[.bool false] 4 (0, 0)) else H') from hR) H1 lH1
  simp only [if_true] at hR1
  replace hR1 : Aqk _ := hR1
  (refine @unH _ (zA Cx6 ?_); (try clear hK K); intro K hK hc)
  refine ⟨rfl, ?_⟩
  rw [Awo results114]
  exact hR1
def Cqb (ns : List Ns) (c : List Int) (lo hi : Int) (f : Bool) : Prop := match begN ns c 0 12 with
 | none => f = false
 | some (l, h) => f = true /\ lo = l /\ hi = h
theorem Cqc (main : Md) (H : Hp) (hb mb : Nat) (q : Bool) (pl : Int) (dv hv : Value) (na : Option Addr) (nc : Nat) (c : List Int) (ns : List Ns) (vh : H hb = some (q, hsO pl dv hv (.slice na ns.length nc) mb)) (nn : SlN H (.slice na ns.length nc) ns)
  (hp : pl <= 6) (hns : ∀ n ∈ ns, NsOk pl n) (hl4 : ns.length <= 4) (hcl : c.length = 6) (hc0 : ∀ q, 0 <= q -> q < 6 -> 0 <= gI c q /\ gI c q <= 99) :
  FnX Tryz.prog main 99 #[.pointer (some ⟨hb, 0, none⟩), .agg (ints c).toArray] H fun e H' => ∃ lo hi f, e = .returned (.tuple #[.int .i64 lo, .int .i64 hi, .bool f]) /\ Cqb ns c lo hi f /\ H.le H' := by
 have hil : (ints c).length = 6 := by rw [Aqz]; exact hcl
 simp only [hsO] at vh
 refine Aql func99 rfl ntmps99 (by simp) ?_
 refine Axz rfl ?_; intro K hK
 (refine @unH _ ?_; refine zXi Azb ?_)
 (intro cb hcb fb hfb; replace hfb : (Hp.set _ cb _) fb = none := hfb; generalize hG : Hp.set _ cb _ = H1 at hfb ⊢; have lH1 := Aqc hG hcb; have wcb := Aqb hG; clear hG; generalize hG : Hp.set _ fb _ = H2; have lH2 := Aqc hG hfb; have vfb := Aqb hG; have vcb := lH2 _ _ wcb; have ncbfb := Aqq wcb hfb; clear hG wcb)
 have l2 := Hp.le_trans lH1 lH2
 have h0fb := Hp.le_none lH1 hfb
 have vh2 := l2 _ _ vh
 have nn2 := nn.le l2
 clear hcb hfb lH1 lH2 vh nn
 refine hK _ _ ?_; clear hK K
 refine Axz rfl ?_; intro K hK
 (refine @unH _ ?_; refine zXi (aN Azb (aN @Cwe (aN @Cqw @Bxy))) ?_)
 refine hK _ _ ?_; clear hK K
 (refine @unH _ (zAi Azb ?_); (try clear hK K); intro K hK hc)
 refine Axc (fun w a' H' => ∃ e, ∃ k : Nat, ∃ lo hi : Int, w = ns.length - k /\ k <= ns.length /\ a' = act 74 e [{ target := .fn (.func 114) #[.pointer (some ⟨fb, 0, none⟩)], args := #[] }] /\ e 0 = .pointer (some ⟨hb, 0, none⟩) /\ e 3 = .pointer (some ⟨cb, 0, none⟩) /\ e 4 = .int .i64 lo /\ e 5 = .int .i64 hi /\ e 6 = .pointer (some ⟨fb, 0, none⟩) /\
  e 17 = .slice na ns.length nc /\ e 18 = .int .i64 ns.length /\ e 19 = .int .i64 (k : Nat) /\ H2.le H' /\ (0 <= lo /\ lo <= 13 /\ -99 <= hi /\ hi <= 12) /\ begN (ns.drop k) c lo hi = begN ns c 0 12) (n := ns.length) ?_ ?_
 ·exact ⟨_, 0, 0, 12, by omega, by omega, rfl, rfl, rfl, rfl, rfl, rfl, rfl, rfl, rfl, Hp.le_refl _, by omega, rfl⟩
 ·rintro w a' H3 ⟨e, k, lo, hi, rfl, hk, rfl, e0, e3, e4, e5, e6, e17, e18, e19, l23, hlh, hbeg⟩
  have vc3 := l23 _ _ vcb
  have vf3 := l23 _ _ vfb
  by_cases hlt : k < ns.length
  ·obtain ⟨b, o, p', cd, fr, rfl, hb', hcs, hce⟩ := nn2.get (List.getElem?_eq_getElem hlt)
   obtain ⟨p0, p1, q0, q1⟩ := hns _ (List.getElem_mem hlt)
   have hdr : ns.drop k = ns[k] :: ns.drop (k + 1) := List.drop_eq_getElem_cons hlt
   rw [hdr, begN] at hbeg
   clear hdr
   generalize ns[k] = n at *
   obtain ⟨npl, nhr, nsm⟩ := n
   simp only at p0 p1 q0 q1 hce hbeg
   have hg := Awi hcl p0 (by omega)
   obtain ⟨g0, g9⟩ := hc0 npl p0 (by omega)
   have hb3 := l23 _ _ hb'
   replace hbeg : Aqk _ := hbeg
   obtain ⟨lo0, lo13, hi99, hi12⟩ := hlh
   (refine @unH _ (zAi Azb ?_); (try clear hK K); intro K hK hc)
   intro ab hab
   have nca := Aqq vc3 hab
   have nfa := Aqq vf3 hab
   (refine @unH _ (zUi Azb ?_); (try clear hK K); intro K hK hc)
   generalize hG : Hp.set H3 ab _ = H4
   have va := Aqb hG
   have l24 := Hp.le_trans l23 (Aqc hG hab)
   clear hG hb3 hb' hcs hce vc3 vf3 nca nfa hab l23
   refine (Cxa main H4 ⟨npl, nhr, nsm⟩).runs.mono ?_
   rintro _ H5 ⟨rfl, lH5⟩
   have va5 := lH5 _ _ va
   have l25 := Hp.le_trans l24 lH5
   have vc5 := l25 _ _ vcb
   have vf5 := l25 _ _ vfb
   clear va l24 lH5
   generalize hgc : gI c npl = g at *
   cases nsm with
   | true =>
    rw [show nsV ⟨npl, nhr, true⟩ = .iface 206 (.agg #[.int .i64 nhr]) from rfl]
    have hs : Aqk ((if g = 99 ∨ (min hi (nhr - g)) < lo then none else begN (ns.drop (k + 1)) c lo (min hi (nhr - g))) = begN ns c 0 12) := by
     have h : _ = begN ns c 0 12 := hbeg
     simp only [true_and, if_true] at h
     exact h
    clear hbeg
    (refine @unH _ (zUi Azb ?_); (try clear hK K); intro K hK hc)
    refine Akm 10 [(true, 0), (true, 1), (true, 2), (true, 3), (true, 4), (true, 5), (true, 6), (true, 7), (true, 8), (true, 9)] (by kernel_rfl) (by kernel_rfl) (by simp) (by kernel_rfl) ?_; intro K hK
    (iterate 2 (refine @unH _ ?_; refine z3i Azb ?_))
    (apply Aku rfl rfl rfl; (focus ((refine @unH _ ?_; refine zXi Azb ?_); exact Cz8 (Cym main H5 nhr))); simp -implicitDefEqProofs (disch := first | omega | (simp only [qd] <;> omega)) only [Aq3, Aqm])
    (iterate 7 (refine @unH _ ?_; refine z3i Azb ?_))
    refine Ak8 (hK _ _ ?_)
    clear hK K
    (try refine @unH _ (zQ ?_))
    rw [show (if nhr - g < hi then nhr - g else hi) = min hi (nhr - g) by split <;> omega]
    have hb2 : -99 <= min hi (nhr - g) /\ min hi (nhr - g) <= 12 := by omega
    generalize min hi (nhr - g) = hi2 at *
    obtain ⟨hb21, hb22⟩ := hb2
    (refine @unH _ (zAi Azb ?_); (try clear hK K); intro K hK hc)
    intro xb hxb
    have nax := Aqq va5 hxb
    have ncx := Aqq vc5 hxb
    have nfx := Aqq vf5 hxb
    clear hgc
    by_cases hz : g = 99
    ·subst hz
     try (refine @unH _ ?_; refine zXi Azb ?_)
     refine hK _ _ ?_
     clear hK K
     (try refine @unH _ (zQ ?_))
     refine Axz rfl ?_; intro K hK
     (refine @unH _ ?_; refine zXi Azb ?_)
     refine hK _ _ ?_
     clear hK K
     (try refine @unH _ (zQ ?_))
     refine Av2 (t := true) (by simp only [Aq6, Axh, Nat.reduceEqDiff, Nat.reduceLT, ↓reduceIte, *]; first | done | rfl) ?_
     rw [if_pos rfl]
     generalize hG : Hp.set H5 xb _ = H6
     have l26 := Hp.le_trans l25 (Aqc hG hxb)
     have vf6 := l26 _ _ vfb
     clear hG va5 vc5 vf5 nax ncx nfx hxb hg l25
     refine Bjt rfl ?_; intro K E hK hE
     (refine @unH _ ?_; refine zXi (aN Azb (aN @Cvo (aN @Cvp (aN @Bvt @Ayz)))) ?_)
     refine hE _ _ _ ?_
     refine Ak6 main H6 fb _ vf6 (.panicking _) true (.inr ⟨rfl, rfl⟩) _ (fun H8 l8 => ?_)
     show wpS _ (results _ _) _ _ _
     rw [Avw results99 (by decide) (by decide) (by decide) (a := ⟨fb, 0, none⟩) (by exact e6) underlying4 rfl]
     refine ⟨.bool false, by rw [if_pos rfl, cell_of Axf]; rfl, lo, hi2, false, by (show Ending.returned (.tuple #[e 4, _, _]) = _; rw [e4]; rfl), ?_, ?_⟩
     ·unfold Cqb; rw [<- show _ = begN ns c 0 12 from hs, if_pos (.inl rfl)]
     ·exact (((Lex.of (Hp.le_trans l2 (Hp.le_trans l26 l8))).own h0fb : Lex none H _)).toLe
    ·by_cases hz2 : hi2 < lo
     ·try (refine @unH _ ?_; refine zXi Azb ?_)
      refine hK _ _ ?_
      clear hK K
      (try refine @unH _ (zQ ?_))
      refine Axz rfl ?_; intro K hK
      (refine @unH _ ?_; refine zXi Azb ?_)
      refine hK _ _ ?_
      clear hK K
      (try refine @unH _ (zQ ?_))
      refine Av2 (t := true) (by simp only [Aq6, Axh, Nat.reduceEqDiff, Nat.reduceLT, ↓reduceIte, *]; first | done | rfl) ?_
      rw [if_pos rfl]
      generalize hG : Hp.set H5 xb _ = H6
      have l26 := Hp.le_trans l25 (Aqc hG hxb)
      have vf6 := l26 _ _ vfb
      clear hG va5 vc5 vf5 nax ncx nfx hxb hg l25
      refine Bjt rfl ?_; intro K E hK hE
      (refine @unH _ ?_; refine zXi (aN Azb (aN @Cvo (aN @Cvp (aN @Bvt @Ayz)))) ?_)
      refine hE _ _ _ ?_
      refine Ak6 main H6 fb _ vf6 (.panicking _) true (.inr ⟨rfl, rfl⟩) _ (fun H8 l8 => ?_)
      show wpS _ (results _ _) _ _ _
      rw [Avw results99 (by decide) (by decide) (by decide) (a := ⟨fb, 0, none⟩) (by exact e6) underlying4 rfl]
      refine ⟨.bool false, by rw [if_pos rfl, cell_of Axf]; rfl, lo, hi2, false, by (show Ending.returned (.tuple #[e 4, _, _]) = _; rw [e4]; rfl), ?_, ?_⟩
      ·unfold Cqb; rw [<- show _ = begN ns c 0 12 from hs, if_pos (.inr hz2)]
      ·exact (((Lex.of (Hp.le_trans l2 (Hp.le_trans l26 l8))).own h0fb : Lex none H _)).toLe
     ·(refine @unH _ (zUi Azb ?_); (try clear hK K); intro K hK hc)
      generalize hG : Hp.set H5 xb _ = H6
      have l26 := Hp.le_trans l25 (Aqc hG hxb)
      have vf6 := l26 _ _ vfb
      clear hG va5 vc5 vf5 nax ncx nfx hxb hg l25
      (refine @unH _ (zAi Azb ?_); (try clear hK K); intro K hK hc)
      refine ⟨_, by omega, _, k + 1, lo, hi2, rfl, by omega, rfl, e0, e3, e4, rfl, e6, e17, e18, rfl, l26, by omega, ?_⟩
      rw [<- show _ = begN ns c 0 12 from hs, if_neg (by omega)]
   | false =>
    rw [show nsV ⟨npl, nhr, false⟩ = .iface 208 (.agg #[.int .i64 nhr]) from rfl]
    have hs : Aqk ((if hi < (max lo (nhr - g + 1)) then none else begN (ns.drop (k + 1)) c (max lo (nhr - g + 1)) hi) = begN ns c 0 12) := by
     have h : _ = begN ns c 0 12 := hbeg
     simp only [Bool.false_eq_true, false_and, false_or, if_false] at h
     exact h
    clear hbeg
    (refine @unH _ (zUi Azb ?_); (try clear hK K); intro K hK hc)
    refine Akm 11 [(true, 0), (true, 1), (true, 2), (true, 3), (true, 4), (true, 5), (true, 6), (true, 7), (true, 8), (true, 9), (true, 10)] (by kernel_rfl) (by kernel_rfl) (by simp) (by kernel_rfl) ?_; intro K hK
    (iterate 2 (refine @unH _ ?_; refine z3i Azb ?_))
    (apply Aku rfl rfl rfl; (focus ((refine @unH _ ?_; refine zXi Azb ?_); exact Cz8 (Cv6 main H5 nhr))); simp -implicitDefEqProofs (disch := first | omega | (simp only [qd] <;> omega)) only [Aq3, Aqm])
    (iterate 8 (refine @unH _ ?_; refine z3i Azb ?_))
    refine Ak8 (hK _ _ ?_)
    clear hK K
    (try refine @unH _ (zQ ?_))
    rw [show (if lo < nhr - g + 1 then nhr - g + 1 else lo) = max lo (nhr - g + 1) by split <;> omega]
    have hb2 : 0 <= max lo (nhr - g + 1) /\ max lo (nhr - g + 1) <= 13 := by omega
    generalize max lo (nhr - g + 1) = lo2 at *
    obtain ⟨hb21, hb22⟩ := hb2
    (refine @unH _ (zAi Azb ?_); (try clear hK K); intro K hK hc)
    intro xb hxb
    have nax := Aqq va5 hxb
    have ncx := Aqq vc5 hxb
    have nfx := Aqq vf5 hxb
    clear hgc
    by_cases hz2 : hi < lo2
    ·try (refine @unH _ ?_; refine zXi Azb ?_)
     refine hK _ _ ?_
     clear hK K
     (try refine @unH _ (zQ ?_))
     refine Axz rfl ?_; intro K hK
     (refine @unH _ ?_; refine zXi Azb ?_)
     refine hK _ _ ?_
     clear hK K
     (try refine @unH _ (zQ ?_))
     refine Av2 (t := true) (by simp only [Aq6, Axh, Nat.reduceEqDiff, Nat.reduceLT, ↓reduceIte, *]; first | done | rfl) ?_
     rw [if_pos rfl]
     generalize hG : Hp.set H5 xb _ = H6
     have l26 := Hp.le_trans l25 (Aqc hG hxb)
     have vf6 := l26 _ _ vfb
     clear hG va5 vc5 vf5 nax ncx nfx hxb hg l25
     refine Bjt rfl ?_; intro K E hK hE
     (refine @unH _ ?_; refine zXi (aN Azb (aN @Cvo (aN @Cvp (aN @Bvt @Ayz)))) ?_)
     refine hE _ _ _ ?_
     refine Ak6 main H6 fb _ vf6 (.panicking _) true (.inr ⟨rfl, rfl⟩) _ (fun H8 l8 => ?_)
     show wpS _ (results _ _) _ _ _
     rw [Avw results99 (by decide) (by decide) (by decide) (a := ⟨fb, 0, none⟩) (by exact e6) underlying4 rfl]
     refine ⟨.bool false, by rw [if_pos rfl, cell_of Axf]; rfl, lo2, hi, false, by (show Ending.returned (.tuple #[_, e 5, _]) = _; rw [e5]; rfl), ?_, ?_⟩
     ·unfold Cqb; rw [<- show _ = begN ns c 0 12 from hs, if_pos hz2]
     ·exact (((Lex.of (Hp.le_trans l2 (Hp.le_trans l26 l8))).own h0fb : Lex none H _)).toLe
    ·(refine @unH _ (zUi Azb ?_); (try clear hK K); intro K hK hc)
     generalize hG : Hp.set H5 xb _ = H6
     have l26 := Hp.le_trans l25 (Aqc hG hxb)
     have vf6 := l26 _ _ vfb
     clear hG va5 vc5 vf5 nax ncx nfx hxb hg l25
     (refine @unH _ (zAi Azb ?_); (try clear hK K); intro K hK hc)
     refine ⟨_, by omega, _, k + 1, lo2, hi, rfl, by omega, rfl, e0, e3, rfl, e5, e6, e17, e18, rfl, l26, by omega, ?_⟩
     rw [<- show _ = begN ns c 0 12 from hs, if_neg (by omega)]
  ·obtain rfl : k = ns.length := by omega
   rw [List.drop_length, begN] at hbeg
   replace hbeg : Aqk _ := hbeg
   obtain ⟨lo0, lo13, hi99, hi12⟩ := hlh
   (refine @unH _ (zAi Azb ?_); (try clear hK K); intro K hK hc)
   generalize hG : Hp.set H3 fb _ = H4
   have vf4 := Aqb hG
   have hl : Lex none H H4 := by rw [<- hG]; exact (Lex.of (Hp.le_trans l2 l23)).own h0fb
   clear hG
   refine Axs ?_
   refine Ak6 main H4 fb _ vf4 .returning false (.inl ⟨rfl, rfl⟩) _ (fun H8 l8 => ?_)
   show wpS _ (results _ _) _ _ _
   rw [Avw results99 (by decide) (by decide) (by decide) (a := ⟨fb, 0, none⟩) (by exact e6) underlying4 rfl]
   refine ⟨.bool true, by rw [if_neg (by simp), cell_of (l8 _ _ vf4)]; rfl, lo, hi, true, rfl, ?_, ?_⟩
   ·unfold Cqb; rw [<- show _ = begN ns c 0 12 from hbeg]; exact ⟨rfl, rfl, rfl⟩
   ·exact Hp.le_trans hl.toLe l8
end Go.Proofs.YtnfnaehonkbknaaGreatDoor
end
section
namespace Go.Proofs.YtnfnaehonkbknaaGreatDoor
open Go Go.X Go.Proofs.Tryz
def Bxk := aN @Exz (aN (fun H => Aqt (H := H) (P := Tryz.prog) (h := zeroValue49)) (aN (fun H => Byy (H := H) sizeOf49) (aN (fun H => Bjm (H := H) sizeOf49) @Eq0)))
def Avf := aN @Eqs (aN @Dy4 (aN @Dy7 (aN @Eqw (aN @Dyw (aN (fun H => Aqh (H := H) underlying199 rfl) (aN @Eq8 (aN @Exi (aN @Eqj (aN @Eq5 (aN @Exv (aN @Exd (aN @Eqa (aN @Eqy (aN @Eqb (aN @Ays (aN @Dyu (aN @Ex2 @Eq0)))))))))))))))))
structure Drs (S : Nat -> Prop) (T : Bool -> List (List Int) -> Hp -> Prop) (y : Value) (yb tb gb thisb : Nat) (ds : List Dr) (L : List (List Int)) (pre : List Int) (H : Hp) : Prop where
 cl : T true L H
 vy : H yb = some (true, .cells #[y] 199 (0, 0))
 vg : H gb = some (true, .cells #[.func (.func 113) #[] #[.pointer (some ⟨thisb, 0, none⟩), .pointer (some ⟨yb, 0, none⟩), .pointer (some ⟨tb, 0, none⟩), .pointer (some ⟨gb, 0, none⟩)]] 49 (0, 0))
 vt : ∃ p, H tb = some (true, .cells (ints p).toArray 91 (0, 0)) /\ p.length = 6 /\ p.take pre.length = pre /\ p.drop ds.length = List.replicate (6 - ds.length) 0
 ny : ¬ S yb
 ng : ¬ S gb
 nt : ¬ S tb
def Bx2 (d : Dr) (R : List (List Int)) (pre : List Int) (i : Nat) : List (List Int) := (((List.range i).map fun (n : Nat) => (n : Int)).filter fun n => decide (d.mn <= n /\ n <= d.mx)).flatMap fun n => R.map fun u => pad6 (pre ++ n :: u)
theorem Cjz (d : Dr) (R : List (List Int)) (pre : List Int) (i : Nat) : Bx2 d R pre (i + 1) = Bx2 d R pre i ++ if d.mn <= (i : Int) /\ (i : Int) <= d.mx then R.map (fun u => pad6 ((pre ++ [(i : Int)]) ++ u)) else [] := by
 unfold Bx2
 rw [List.range_succ, List.map_append, List.filter_append, List.flatMap_append]
 congr 1
 by_cases h : d.mn <= (i : Int) /\ (i : Int) <= d.mx
 ·rw [if_pos h]
  simp [h]
 ·rw [if_neg h]
  simp [h]
theorem Cv9 (d : Dr) (ds : List Dr) (pre : List Int) : Bx2 d (Axw ds) pre 5 = (Axw (d :: ds)).map fun u => pad6 (pre ++ u) := by
 show _ = ((hrsF d).flatMap fun n => (Axw ds).map (n :: ·)).map fun u => pad6 (pre ++ u)
 unfold Bx2 hrsF
 rw [List.map_flatMap]
 congr 1
 funext n
 rw [List.map_map]
 rfl
theorem Cyc {p pre : List Int} (h : p.length = 6) (n : Nat) (hn : pre.length = n) (h1 : p.take n = pre) (h2 : p.drop n = List.replicate (6 - n) 0) : p = pad6 pre := by
 unfold pad6
 rw [<- List.take_append_drop n p, h1, h2, hn]
theorem Cj9 (main : Md) {S : Nat -> Prop} {A : List Int -> Prop} {T : Bool -> List (List Int) -> Hp -> Prop} {yf : Fn} {yi yc : Array Value} {yb tb gb thisb : Nat} {pl : Int} {da : Option Addr} {dc : Nat} {hv nv : Value} {ds : List Dr}
  (hC : Cvd Tryz.prog main (.func yf yi yc) S (fun H v xs => v = .agg (ints xs).toArray) A T) (hT1 : ∀ t L H, T t L H -> t = true)
  (hthis : ∀ L H, T true L H -> ∃ hb mb q q', H thisb = some (q', .cells #[.pointer (some ⟨hb, 0, none⟩)] 115 (0, 0)) /\ H hb = some (q, hsO pl (.slice da ds.length dc) hv nv mb) /\ SlD H (.slice da ds.length dc) ds)
  (hl6 : ds.length <= 6) : ∀ (n k : Nat) (hk : k + n = ds.length) (pre : List Int) (hpre : pre.length = k) (L : List (List Int)) (H : Hp) (hP : Drs S T (.func yf yi yc) yb tb gb thisb ds L pre H) (hA : ∀ u ∈ Axw (ds.drop k), A (pad6 (pre ++ u))),
  FnX Tryz.prog main 113 #[.int .i64 k, .pointer (some ⟨thisb, 0, none⟩), .pointer (some ⟨yb, 0, none⟩), .pointer (some ⟨tb, 0, none⟩), .pointer (some ⟨gb, 0, none⟩)] H fun e H' => e = .returned (.bool true) /\ Drs S T (.func yf yi yc) yb tb gb thisb ds (L ++ (Axw (ds.drop k)).map fun u => pad6 (pre ++ u)) pre H' /\ ∀ b x, ¬ S b -> b ≠ tb -> H b = some x -> H' b = some x := by
 intro n
 induction n with
 | zero =>
  intro k hk pre hpre L H hP hA
  obtain ⟨p, vt, hp6, hp1, hp2⟩ := hP.vt
  obtain ⟨hb, mb, q, q', vth, vh, dd⟩ := hthis _ _ hP.cl
  have vy := hP.vy
  obtain rfl : k = ds.length := by omega
  have hpp : p = pad6 pre := Cyc hp6 _ hpre (by rw [<- hpre]; exact hp1) hp2
  have hil : (ints p).length = 6 := by rw [Aqz]; exact hp6
  have hex := Ajn hp6
  simp only [hsO] at vh
  replace hpp : Aqk _ := hpp
  replace hp1 : Aqk _ := hp1
  replace hp2 : Aqk _ := hp2
  replace hpre : Aqk _ := hpre
  refine Aql func113 rfl ntmps113 (by simp) ?_
  (refine @unH _ (zA Avf ?_); (try clear hK K); intro K hK hc)
  have hcall := hC.call L H _ p hP.cl rfl (by rw [show p = _ from hpp]; have := hA [] (by simp [Axw]); simpa using this)
  refine Ajp.use hcall ?_
  clear hcall
  rintro _ H2 ⟨t, rfl, hT, hk2⟩
  obtain rfl : t = true := hT1 _ _ _ hT
  have hP2 : Drs S T (.func yf yi yc) yb tb gb thisb ds (L ++ [p]) pre H2 := ⟨hT, hk2 _ _ hP.ny vy, hk2 _ _ hP.ng hP.vg, ⟨p, hk2 _ _ hP.nt vt, hp6, hp1, hp2⟩, hP.ny, hP.ng, hP.nt⟩
  clear vy vt vth vh hex hil dd
  replace hk2 : Aqk _ := hk2
  (refine @unH _ (zU Avf ?_); (try clear hK K); intro K hK hc)
  (refine @unH _ ?_; refine z9 results113 ?_)
  refine ⟨trivial, ?_, fun b x h1 _ hx => (show ∀ b x, ¬ S b -> H b = some x -> H2 b = some x from hk2) b x h1 hx⟩
  rw [show p = _ from hpp] at hP2
  simpa [Axw] using hP2
 | succ n ih =>
  intro k hk pre hpre L H hP hA
  obtain ⟨p, vt, hp6, hp1, hp2⟩ := hP.vt
  obtain ⟨hb, mb, q, q', vth, vh, dd⟩ := hthis _ _ hP.cl
  have hlt : k < ds.length := by omega
  obtain ⟨db, o, p', cd, fr, rfl, hdb, hcs, hce⟩ := dd.get (List.getElem?_eq_getElem hlt)
  have hdr : ds.drop k = ds[k] :: ds.drop (k + 1) := List.drop_eq_getElem_cons hlt
  generalize ds[k] = d at *
  have hce2 : cd.extract (o + k * 4 + 2) (o + k * 4 + 4) = #[.int .i64 d.mn, .int .i64 d.mx] := by
   have h : (cd.extract (o + k * 4) (o + k * 4 + 4)).extract 2 4 = #[.int .i64 d.mn, .int .i64 d.mx] := by rw [hce]; rfl
   rw [Array.extract_extract] at h
   rw [<- h]
   congr 1
   omega
  have hcs2 : o + k * 4 + 4 <= cd.size := hcs
  simp only [hsO] at vh
  rw [hdr] at hA ⊢
  rw [<- Cv9]
  clear hdr hce hcs
  have hke : ((k : Int) == (ds.length : Int)) = false := by simp; omega
  have hA2 : ∀ i : Int, d.mn <= i -> i <= d.mx -> 0 <= i -> i < 5 -> ∀ u ∈ Axw (ds.drop (k + 1)), A (pad6 (pre ++ [i] ++ u)) := fun i h1 h2 h3 h4 u hu => by
   rw [List.append_assoc]
   refine hA _ ?_
   unfold Axw
   rw [List.mem_flatMap]
   refine ⟨i, ?_, List.mem_map.2 ⟨u, hu, rfl⟩⟩
   unfold hrsF
   rw [List.mem_filter]
   exact ⟨List.mem_map.2 ⟨i.toNat, List.mem_range.2 (by omega), by omega⟩, by simp [h1, h2]⟩
  clear hA
  have hrec := fun (L : List (List Int)) (H : Hp) (i : Int) (hP : Drs S T (.func yf yi yc) yb tb gb thisb ds L (pre ++ [i]) H) h => ih (k + 1) (by omega) (pre ++ [i]) (by simp [hpre]) L H hP h
  clear ih
  generalize Axw (ds.drop (k + 1)) = R at *
  replace hp1 : Aqk _ := hp1
  replace hp2 : Aqk _ := hp2
  replace hp6 : Aqk _ := hp6
  replace hpre : Aqk _ := hpre
  refine Aql func113 rfl ntmps113 (by simp) ?_
  (refine @unH _ (zA Avf ?_); (try clear hK K); intro K hK hc)
  intro bb hbb
  have nSb : ¬ S bb := fun h => hC.ex _ _ _ _ hP.cl h hbb
  have ntb := Aqq vt hbb
  generalize hG : Hp.set H bb _ = H1
  have lH1 := Aqc hG hbb
  have vb := Aqb hG
  have hP1 : Drs S T (.func yf yi yc) yb tb gb thisb ds (L ++ Bx2 d R pre 0) pre H1 := by
   rw [show Bx2 d R pre 0 = [] from rfl, List.append_nil]
   exact ⟨hC.keep _ _ _ _ hP.cl fun b x _ hx => lH1 _ _ hx, lH1 _ _ hP.vy, lH1 _ _ hP.vg, ⟨p, lH1 _ _ vt, hp6, hp1, hp2⟩, hP.ny, hP.ng, hP.nt⟩
  have hnt := hP.nt
  clear hG vt vth vh dd hdb hce2 hcs2 hP hp1 hp2 hp6 hbb
  (refine @unH _ (zU Avf ?_); (try clear hK K); intro K hK hc)
  refine Axc (fun w a' H' => ∃ e, ∃ i : Nat, w = 5 - i /\ i <= 5 /\ a' = act 47 e [] /\ e 0 = .int .i64 k /\ e 3 = .pointer (some ⟨tb, 0, none⟩) /\ e 4 = .pointer (some ⟨gb, 0, none⟩) /\ e 7 = .pointer (some ⟨bb, 0, none⟩) /\ e 29 = .int .i64 (i : Nat) /\
   Drs S T (.func yf yi yc) yb tb gb thisb ds (L ++ Bx2 d R pre i) pre H' /\ ∀ b x, ¬ S b -> b ≠ tb -> H1 b = some x -> H' b = some x) (n := 5) ?_ ?_
  ·exact ⟨_, 0, by omega, by omega, rfl, rfl, rfl, rfl, rfl, rfl, hP1, fun _ _ _ _ h => h⟩
  ·clear hP1
   rintro w a' H2 ⟨e, i, rfl, hi, rfl, e0, e3, e4, e7, e29, hP2, hfr⟩
   have vb2 := hfr _ _ nSb (Ne.symm ntb) vb
   by_cases hi5 : i < 5
   ·have hsu := Cjz d R pre i
    by_cases hin : d.mn <= (i : Int) /\ (i : Int) <= d.mx
    ·rw [if_pos hin] at hsu
     obtain ⟨p2, vt2, hq6, hq1, hq2⟩ := hP2.vt
     have vg2 := hP2.vg
     have ngt : gb ≠ tb := Azj vg2 vt2 (by decide)
     have hil : (ints p2).length = 6 := by rw [Aqz]; exact hq6
     have hk6 : k < 6 := by omega
     replace hsu : Aqk _ := hsu
     replace hq1 : Aqk _ := hq1
     replace hq2 : Aqk _ := hq2
     replace hq6 : Aqk _ := hq6
     replace hfr : Aqk _ := hfr
     (refine @unH _ (zA Avf ?_); (try clear hK K); intro K hK hc)
     refine (Axk main H2 (i : Int) d.mn d.mx).runs.mono ?_
     rintro _ _ ⟨rfl, hQ⟩
     rw [hQ, show (decide ((i : Int) < d.mn) || decide (d.mx < (i : Int))) = false by simp; omega]
     clear hQ
     (refine @unH _ (zU (aN Avf @Azr) ?_); (try clear hK K); intro K hK hc)
     generalize hG : Hp.set H2 tb _ = H3
     have hfr3 : ∀ b x, b ≠ tb -> H2 b = some x -> H3 b = some x := fun b x hb hx => Aqi hG hx hb
     have hP3 : Drs S T (.func yf yi yc) yb tb gb thisb ds (L ++ Bx2 d R pre i) (pre ++ [(i : Int)]) H3 := by
      refine ⟨hC.keep _ _ _ _ hP2.cl fun b x hb hx => hfr3 b x (fun e => hnt (by rw [<- e]; exact hb)) hx, hfr3 _ _ (Azj hP2.vy vt2 (by decide)) hP2.vy, hfr3 _ _ ngt hP2.vg, ⟨p2.set k (i : Int), Aqb hG, by rw [List.length_set]; exact hq6, ?_, ?_⟩, hP2.ny, hP2.ng, hP2.nt⟩
      ·rw [List.length_append, List.length_singleton, show pre.length = k from hpre, List.take_set, List.take_add_one, List.getElem?_eq_getElem (by rw [show p2.length = 6 from hq6]; omega)]
       have h1 : p2.take k = pre := by have := hq1; rw [show pre.length = k from hpre] at this; exact this
       have hpl : pre.length = k := hpre
       rw [h1, List.set_append_right _ _ (by omega), show k - pre.length = 0 by omega]
       rfl
      ·rw [List.drop_set_of_lt hlt]
       exact hq2
     have hr := hrec _ H3 (i : Int) hP3 (hA2 _ hin.1 hin.2 (by omega) (by omega))
     have vb3 := hfr3 _ _ (Ne.symm ntb) vb2
     replace hfr3 : Aqk _ := hfr3
     clear hG vg2 vt2 hP2 hP3 hrec hA2 vb2
     rw [Czm, Aj4]
     simp only [Array.empty_append, List.append_toArray, List.cons_append, List.nil_append]
     refine hr.runs.mono ?_
     clear hr
     rintro _ H4 ⟨rfl, hP4, hfr4⟩
     replace hfr4 : Aqk _ := hfr4
     (refine @unH _ (zU Avf ?_); (try clear hK K); intro K hK hc)
     refine ⟨_, by omega, _, i + 1, rfl, by omega, rfl, e0, e3, e4, e7, rfl, ?_, fun b x h1 h2 hx => (show ∀ b x, ¬ S b -> b ≠ tb -> H3 b = some x -> H4 b = some x from hfr4) b x h1 h2 ((show ∀ b x, b ≠ tb -> H2 b = some x -> H3 b = some x from hfr3) b x h2 ((show ∀ b x, ¬ S b -> b ≠ tb -> H1 b = some x -> H2 b = some x from hfr) b x h1 h2 hx))⟩
     rw [show Bx2 d R pre (i + 1) = _ from hsu, <- List.append_assoc]
     obtain ⟨p4, vt4, h6, h1, h2⟩ := hP4.vt
     refine ⟨hP4.cl, hP4.vy, hP4.vg, ⟨p4, vt4, h6, ?_, h2⟩, hP4.ny, hP4.ng, hP4.nt⟩
     rw [List.length_append, List.length_singleton] at h1
     have h3 := congrArg (List.take pre.length) h1
     rw [List.take_take, Nat.min_eq_left (by omega), List.take_append_of_le_length (Nat.le_refl _), List.take_length] at h3
     exact h3
    ·rw [if_neg hin, List.append_nil] at hsu
     replace hsu : Aqk _ := hsu
     replace hfr : Aqk _ := hfr
     (refine @unH _ (zA Avf ?_); (try clear hK K); intro K hK hc)
     refine (Axk main H2 (i : Int) d.mn d.mx).runs.mono ?_
     rintro _ _ ⟨rfl, hQ⟩
     rw [hQ, show (decide ((i : Int) < d.mn) || decide (d.mx < (i : Int))) = true by simp; omega]
     clear hQ
     (refine @unH _ (zU Avf ?_); (try clear hK K); intro K hK hc)
     exact ⟨_, by omega, _, i + 1, rfl, by omega, rfl, e0, e3, e4, e7, rfl, by rw [show Bx2 d R pre (i + 1) = Bx2 d R pre i from hsu]; exact hP2, hfr⟩
   ·obtain rfl : i = 5 := by omega
    replace hfr : Aqk _ := hfr
    (refine @unH _ (zA Avf ?_); (try clear hK K); intro K hK hc)
    (refine @unH _ ?_; refine z9 results113 ?_)
    exact ⟨trivial, hP2, fun b x h1 h2 hx => (show ∀ b x, ¬ S b -> b ≠ tb -> H1 b = some x -> H2 b = some x from hfr) b x h1 h2 (lH1 _ _ hx)⟩
theorem Cqy (main : Md) {S : Nat -> Prop} {A : List Int -> Prop} {T : Bool -> List (List Int) -> Hp -> Prop} {yf : Fn} {yi yc : Array Value} {thisb : Nat} {pl : Int} {da : Option Addr} {dc : Nat} {hv nv : Value} {ds : List Dr}
  (hC : Cvd Tryz.prog main (.func yf yi yc) S (fun H v xs => v = .agg (ints xs).toArray) A T) (hT1 : ∀ t L H, T t L H -> t = true)
  (hthis : ∀ L H, T true L H -> ∃ hb mb q q', H thisb = some (q', .cells #[.pointer (some ⟨hb, 0, none⟩)] 115 (0, 0)) /\ H hb = some (q, hsO pl (.slice da ds.length dc) hv nv mb) /\ SlD H (.slice da ds.length dc) ds)
  (hl6 : ds.length <= 6) (H : Hp) (hT : T true [] H) (hA : ∀ u ∈ Axw ds, A (pad6 u)) :
  FnX Tryz.prog main 112 #[.func yf yi yc, .pointer (some ⟨thisb, 0, none⟩)] H fun e H' => e = .returned (.tuple #[]) /\ T true ((Axw ds).map pad6) H' /\ ∀ b x, ¬ S b -> H b = some x -> H' b = some x := by
 refine Aql func112 rfl ntmps112 (by simp) ?_
 (refine @unH _ (zA (aN Bxk (aN @cells_func @Ake)) ?_); (try clear hK K); intro K hK hc)
 (intro yb hyb; generalize hG : Hp.set _ yb _ = H1; have lH1 := Aqc hG hyb; have vyb := Aqb hG; clear hG)
 have ny : ¬ S yb := fun h => hC.ex _ _ _ _ hT h hyb
 have hT0 := hC.keep _ _ _ _ hT fun b x _ hx => lH1 _ _ hx
 have l1 := lH1
 clear hyb lH1 hT
 (refine @unH _ (zU (aN Bxk (aN @cells_func @Ake)) ?_); (try clear hK K); intro K hK hc)
 (intro tb htb; generalize hG : Hp.set _ tb _ = H2; have lH2 := Aqc hG htb; have vtb := Aqb hG; clear hG)
 have nt : ¬ S tb := fun h => hC.ex _ _ _ _ hT0 h htb
 have vyb2 := lH2 _ _ vyb
 replace hT0 := hC.keep _ _ _ _ hT0 fun b x _ hx => lH2 _ _ hx
 have h0tb := Hp.le_none l1 htb
 have l2 := Hp.le_trans l1 lH2
 clear htb lH2 vyb l1
 (refine @unH _ (zU (aN Bxk (aN @cells_func @Ake)) ?_); (try clear hK K); intro K hK hc)
 (intro gb hgb; generalize hG : Hp.set _ gb _ = H3; have lH3 := Aqc hG hgb; have vgb := Aqb hG; clear hG)
 have ng : ¬ S gb := fun h => hC.ex _ _ _ _ hT0 h hgb
 have vyb3 := lH3 _ _ vyb2
 have vtb3 := lH3 _ _ vtb
 replace hT0 := hC.keep _ _ _ _ hT0 fun b x _ hx => lH3 _ _ hx
 have h0gb := Hp.le_none l2 hgb
 have l3 := Hp.le_trans l2 lH3
 clear hgb lH3 vyb2 vtb l2
 (refine @unH _ (zU (aN Bxk (aN @cells_func @Ake)) ?_); (try clear hK K); intro K hK hc)
 generalize hG : Hp.set H3 gb _ = H4
 have hk4 : ∀ b x, b ≠ gb -> H3 b = some x -> H4 b = some x := fun b x hb hx => Aqi hG hx hb
 have vg4 := Aqb hG
 have vyb4 := hk4 _ _ (Azj vyb3 vgb (by decide)) vyb3
 have vtb4 := hk4 _ _ (Azj vtb3 vgb (by decide)) vtb3
 have hT4 := hC.keep _ _ _ H4 hT0 fun b x hb hx => hk4 b x (fun e => ng (by rw [<- e]; exact hb)) hx
 have hfr4 : Aqk (∀ b x, H b = some x -> H4 b = some x) := fun b x hx => hk4 b x (fun e => by rw [e, h0gb] at hx; cases hx) (l3 _ _ hx)
 have hz : List.drop ds.length [(0 : Int), 0, 0, 0, 0, 0] = List.replicate (6 - ds.length) 0 := by
  rcases (by omega : ds.length = 0 ∨ ds.length = 1 ∨ ds.length = 2 ∨ ds.length = 3 ∨ ds.length = 4 ∨ ds.length = 5 ∨ ds.length = 6) with h | h | h | h | h | h | h <;> rw [h] <;> rfl
 have hP : Drs S T (.func yf yi yc) yb tb gb thisb ds [] [] H4 := ⟨hT4, vyb4, vg4, ⟨[0, 0, 0, 0, 0, 0], vtb4, rfl, rfl, hz⟩, ny, ng, nt⟩
 have hg := Cj9 main hC hT1 hthis hl6 ds.length 0 (by omega) [] rfl [] H4 hP (by simpa using hA)
 clear hG vgb vyb3 vtb3 hT0 hT4 hz hP hk4 vyb4 vtb4
 (refine @unH _ (zU Bxk ?_); intro _ _ hc)
 rw [Czm, Aj4]
 simp only [Array.empty_append, List.append_toArray, List.cons_append, List.nil_append]
 refine hg.runs.mono ?_
 clear hg
 rintro _ H5 ⟨rfl, hP5, hfr5⟩
 have hT5 := hP5.cl
 rw [List.nil_append, List.drop_zero] at hT5
 replace hfr5 : Aqk _ := hfr5
 replace hT5 : Aqk _ := hT5
 clear hP5 vg4
 (refine @unH _ (zU Bxk ?_); (try clear hK K); intro K hK hc)
 (refine @unH _ ?_; refine zD results112 ?_)
 refine ⟨by trivial, hT5, fun b x hb hx => (show ∀ b x, ¬ S b -> b ≠ tb -> H4 b = some x -> H5 b = some x from hfr5) b x hb (fun e => by rw [e, h0tb] at hx; cases hx) ((show ∀ b x, H b = some x -> H4 b = some x from hfr4) b x hx)⟩
theorem Cj0 (main : Md) (H : Hp) (hb : Nat) :
  FnX Tryz.prog main 98 #[.pointer (some ⟨hb, 0, none⟩)] H fun e H' => ∃ thisb, e = .returned (.func (.func 112) #[] #[.pointer (some ⟨thisb, 0, none⟩)]) /\ H' thisb = some (true, .cells #[.pointer (some ⟨hb, 0, none⟩)] 115 (0, 0)) /\ H.le H' /\ H thisb = none := by
 refine Aql func98 rfl ntmps98 (by simp) ?_
 (refine @unH _ (zA trivial ?_); (try clear hK K); intro K hK hc)
 (intro thisb hthisb; generalize hG : Hp.set _ thisb _ = H1; have lH1 := Aqc hG hthisb; have vthisb := Aqb hG; clear hG)
 (refine @unH _ (zU trivial ?_); (try clear hK K); intro K hK hc)
 (refine @unH _ ?_; refine z9 results98 ?_)
 exact ⟨thisb, rfl, vthisb, lH1, hthisb⟩
end Go.Proofs.YtnfnaehonkbknaaGreatDoor
end
section
namespace Go.X
open Go
section
variable {P : Program} {main : Md} {lp : Option Nat} {Q : Exit -> Act -> Hp -> Prop} {ops : Array Oper} {S : Hp -> Prop}
inductive PW where
 | nil
 | take (i : Nat) (p : PW)
 | free (i : Nat) (p : PW)
 | one (i : Nat) (p : PW)
 | two (i : Nat) (p : PW) (j : Nat) (q : PW)
 | three (i : Nat) (p : PW) (j : Nat) (q : PW) (k : Nat) (r : PW)
def PW.depth : PW -> Nat
 | .nil => 0
 | .take _ p => p.depth + 1
 | .free _ p => p.depth + 1
 | .one _ p => p.depth + 1
 | .two _ p _ q => max p.depth q.depth + 1
 | .three _ p _ q _ r => max p.depth (max q.depth r.depth) + 1
def Aj6 (P : Program) (main : Md) (lp : Option Nat) (ops : Array Oper) (Q : Exit -> Act -> Hp -> Prop) (S : Hp -> Prop) (ts : List Nat) : PW -> Act -> Hp -> Prop
 | .nil, a, H => Q .normal a H
 | .take i p, a, H => S H /\ ∃ o, ops[i]? = some o /\ ∃ v, Azc P main lp ops S o v a /\ Aj6 P main lp ops Q S ts p (a.put o.dst v) H
 | .free i p, a, H => ∃ o, ops[i]? = some o /\ ∃ v, Azc P main lp ops (fun _ => True) o v a /\ Aj6 P main lp ops Q S ts p (a.put o.dst v) H
 | .one i p, a, H => numX P main lp ops i Q (fun a' H' => (i ∈ ts ∨ (S H -> S H')) /\ Aj6 P main lp ops Q S ts p a' H') a H
 | .two i p j q, a, H => numX P main lp ops i Q (fun a' H' => (i ∈ ts ∨ (S H -> S H')) /\ Aj6 P main lp ops Q S ts p a' H') a H /\ numX P main lp ops j Q (fun a' H' => (j ∈ ts ∨ (S H -> S H')) /\ Aj6 P main lp ops Q S ts q a' H') a H
 | .three i p j q k r, a, H => numX P main lp ops i Q (fun a' H' => (i ∈ ts ∨ (S H -> S H')) /\ Aj6 P main lp ops Q S ts p a' H') a H /\ numX P main lp ops j Q (fun a' H' => (j ∈ ts ∨ (S H -> S H')) /\ Aj6 P main lp ops Q S ts q a' H') a H /\ numX P main lp ops k Q (fun a' H' => (k ∈ ts ∨ (S H -> S H')) /\ Aj6 P main lp ops Q S ts r a' H') a H
def Az3 (ops : Array Oper) (ts : List Nat) : PW -> Array Bool -> Bool
 | .nil, listed => (Region.ready .any ops listed).isEmpty
 | .take i p, listed => (ts.all fun t => i != t && (waitsFor ops t).getD i false) && Region.free .any ops listed i && (Region.ready .any ops listed).contains i && Az3 ops ts p (listed.setIfInBounds i true)
 | .free i p, listed => Region.free .any ops listed i && (Region.ready .any ops listed).contains i && Az3 ops ts p (listed.setIfInBounds i true)
 | .one i p, listed => (Region.ready .any ops listed == [i]) && Az3 ops ts p (listed.setIfInBounds i true)
 | .two i p j q, listed => (Region.ready .any ops listed == [i, j]) && Az3 ops ts p (listed.setIfInBounds i true) && Az3 ops ts q (listed.setIfInBounds j true)
 | .three i p j q k r, listed => (Region.ready .any ops listed == [i, j, k]) && Az3 ops ts p (listed.setIfInBounds i true) && Az3 ops ts q (listed.setIfInBounds j true) && Az3 ops ts r (listed.setIfInBounds k true)
theorem Azm {ts : List Nat} (hsel : Region.noSelect ops = true) (hQ : ∀ c a H d v, Q (.panic c) (a.put d v) H -> Q (.panic c) a H) :
  ∀ (plan : PW) (fuel : Nat) (listed : Array Bool) (a : Act) (H : Hp), plan.depth <= fuel -> Closed ops listed -> Az3 ops ts plan listed = true ->
   Aj6 P main lp ops Q S ts plan a H -> anyV P main lp ops Q S ts fuel listed a H
 | .nil, fuel, listed, a, H, _, _, hok, h => by
  have hr : Region.ready .any ops listed = [] := by simpa [Az3] using hok
  cases fuel with
  | zero => exact ⟨hr, h⟩
  | succ n => exact ⟨fun _ => h, by rw [hr]; simp⟩
 | .take i p, 0, _, _, _, hl, _, _, _ => by simp [PW.depth] at hl
 | .free i p, 0, _, _, _, hl, _, _, _ => by simp [PW.depth] at hl
 | .free i p, fuel + 1, listed, a, H, hl, hcl, hok, h => by
  simp only [Az3, Bool.and_eq_true] at hok
  obtain ⟨⟨hf, hr⟩, hok⟩ := hok
  obtain ⟨o, ho, v, hy, h⟩ := h
  have hr' : i ∈ Region.ready .any ops listed := by simpa using hr
  exact Bwq ho (Region.noSelect_spec hsel) (fun c a H => hQ c a H _ _) fuel listed a H hcl (Region.free_spec ho hf) hr' hy
   (Azm hsel hQ p fuel _ _ _ (by simp [PW.depth] at hl; omega) (hcl.set hr') hok h)
 | .one i p, 0, _, _, _, hl, _, _, _ => by simp [PW.depth] at hl
 | .two i p j q, 0, _, _, _, hl, _, _, _ => by simp [PW.depth] at hl
 | .three i p j q k r, 0, _, _, _, hl, _, _, _ => by simp [PW.depth] at hl
 | .take i p, fuel + 1, listed, a, H, hl, hcl, hok, h => by
  simp only [Az3, Bool.and_eq_true] at hok
  obtain ⟨⟨⟨hd, hf⟩, hr⟩, hok⟩ := hok
  obtain ⟨hS, o, ho, v, hy, h⟩ := h
  have hr' : i ∈ Region.ready .any ops listed := by simpa using hr
  refine Bka ho (Region.noSelect_spec hsel) (fun t ht hlt => ?_) (fun c a H => hQ c a H _ _) fuel listed a H hcl (Region.free_spec ho hf) hr' hy hS
   (Azm hsel hQ p fuel _ _ _ (by simp [PW.depth] at hl; omega) (hcl.set hr') hok h)
  have := List.all_eq_true.1 hd t ht
  simp only [Bool.and_eq_true, bne_iff_ne, ne_eq] at this
  exact (Bxz this.2).resolve_left this.1
 | .one i p, fuel + 1, listed, a, H, hl, hcl, hok, h => by
  simp only [Az3, Bool.and_eq_true, beq_iff_eq] at hok
  obtain ⟨hr, hok⟩ := hok
  refine ⟨fun h0 => (by rw [hr] at h0; cases h0), fun j hj => ?_⟩
  have hji : j = i := by rw [hr] at hj; simpa using hj
  subst hji
  exact Axx (fun a' H' h' => ⟨h'.1, Azm hsel hQ p fuel _ _ _ (by simp [PW.depth] at hl; omega) (hcl.set hj) hok h'.2⟩) h
 | .two i p j q, fuel + 1, listed, a, H, hl, hcl, hok, h => by
  simp only [Az3, Bool.and_eq_true, beq_iff_eq] at hok
  obtain ⟨⟨hr, hok1⟩, hok2⟩ := hok
  refine ⟨fun h0 => (by rw [hr] at h0; cases h0), fun k hk => ?_⟩
  have hkk : k = i ∨ k = j := by rw [hr] at hk; simpa using hk
  rcases hkk with rfl | rfl
  ·exact Axx (fun a' H' h' => ⟨h'.1, Azm hsel hQ p fuel _ _ _ (by simp [PW.depth] at hl; omega) (hcl.set hk) hok1 h'.2⟩) h.1
  ·exact Axx (fun a' H' h' => ⟨h'.1, Azm hsel hQ q fuel _ _ _ (by simp [PW.depth] at hl; omega) (hcl.set hk) hok2 h'.2⟩) h.2
 | .three i p j q k r, fuel + 1, listed, a, H, hl, hcl, hok, h => by
  simp only [Az3, Bool.and_eq_true, beq_iff_eq] at hok
  obtain ⟨⟨⟨hr, hok1⟩, hok2⟩, hok3⟩ := hok
  refine ⟨fun h0 => (by rw [hr] at h0; cases h0), fun x hk => ?_⟩
  have hkk : x = i ∨ x = j ∨ x = k := by rw [hr] at hk; simpa using hk
  rcases hkk with rfl | rfl | rfl
  ·exact Axx (fun a' H' h' => ⟨h'.1, Azm hsel hQ p fuel _ _ _ (by simp [PW.depth] at hl; omega) (hcl.set hk) hok1 h'.2⟩) h.1
  ·exact Axx (fun a' H' h' => ⟨h'.1, Azm hsel hQ q fuel _ _ _ (by simp [PW.depth] at hl; omega) (hcl.set hk) hok2 h'.2⟩) h.2.1
  ·exact Axx (fun a' H' h' => ⟨h'.1, Azm hsel hQ r fuel _ _ _ (by simp [PW.depth] at hl; omega) (hcl.set hk) hok3 h'.2⟩) h.2.2
theorem Cy6 {id : Nat} {a : Act} {H : Hp} (S : Hp -> Prop) (ts : List Nat) (plan : PW) (hm : P.follows .mixedOrders = true) (hsel : Region.noSelect ops = true) (hlen : plan.depth <= ops.size)
  (hok : Az3 ops ts plan (Array.replicate ops.size false) = true)
  (hQ : ∀ c a H d v, Q (.panic c) (a.put d v) H -> Q (.panic c) a H) (h : Aj6 P main lp ops Q S ts plan a H) : wpX P main lp (.region id ops true) Q a H :=
 Bwd (fun _ => True) hm (Awd _ _ _ _ (Azm hsel hQ plan _ _ _ _ hlen .start hok h))
theorem Cy7 {id : Nat} {ops : Array Oper} {y : Code} {a : Act} {H : Hp} (S : Hp -> Prop) (ts : List Nat) (plan : PW) (hm : P.follows .mixedOrders = true) (hsel : Region.noSelect ops = true) (hlen : plan.depth <= ops.size)
  (hok : Az3 ops ts plan (Array.replicate ops.size false) = true)
  (h : ∀ K : Act -> Hp -> Prop, (∀ a' H', wpX P main lp y Q a' H' -> K a' H') -> Aj6 P main lp ops (only K) S ts plan a H) :
  wpX P main lp (.seq (.region id ops true) y) Q a H := by
 refine Axp ?_
 refine Az7 (Q := only fun a' H' => wpX P main lp y Q a' H') (Cy6 S ts plan hm hsel hlen hok (fun c a H d v h => h) (h _ fun _ _ h => h)) fun e a H q => ?_
 cases e <;> first | exact q | exact q.elim
theorem Bkt {S : Hp -> Prop} {ts : List Nat} {a : Act} {H : Hp} {i : Nat} {ops : List Oper} {o : Oper} {p : PW} {v : Value} (ho : ops[i]? = some o) (hw : Region.wanted o (yielded ops.toArray a.tmps) = true) (hf : fine lp o = true)
  (hS : S H) (h : ∀ H', S H' -> wpS P (execOp a.eval o) H' (YN P main v H') fun _ _ => False) (hk : Aj6 P main lp ops.toArray Q S ts p (a.put o.dst v) H) : Aj6 P main lp ops.toArray Q S ts (.take i p) a H :=
 ⟨hS, o, by simpa using ho, v, .inl ⟨hw, hf, h⟩, hk⟩
theorem Axy {S : Hp -> Prop} {ts : List Nat} {a : Act} {H : Hp} {i : Nat} {ops : Array Oper} {p : PW} (h : numX P main lp ops i Q (fun a' H' => (i ∈ ts ∨ (S H -> S H')) /\ Aj6 P main lp ops Q S ts p a' H') a H) : Aj6 P main lp ops Q S ts (.one i p) a H := h
theorem Avl {S : Hp -> Prop} {ts : List Nat} {a : Act} {H : Hp} {ops : Array Oper} (h : Q .normal a H) : Aj6 P main lp ops Q S ts .nil a H := h
@[congr] theorem planW_congr {S : Hp -> Prop} {ts : List Nat} {ops : Array Oper} {p : PW} {a a' : Act} {H H' : Hp} (ha : a = a') (hH : H = H') : Aj6 P main lp ops Q S ts p a H = Aj6 P main lp ops Q S ts p a' H' := by subst ha hH; rfl
theorem Bz9 {S : Hp -> Prop} {ts : List Nat} {a : Act} {H : Hp} {i j : Nat} {ops : Array Oper} {p q : PW} (h : numX P main lp ops i Q (fun a' H' => (i ∈ ts ∨ (S H -> S H')) /\ Aj6 P main lp ops Q S ts p a' H') a H)
 (h' : numX P main lp ops j Q (fun a' H' => (j ∈ ts ∨ (S H -> S H')) /\ Aj6 P main lp ops Q S ts q a' H') a H) : Aj6 P main lp ops Q S ts (.two i p j q) a H := ⟨h, h'⟩
theorem Cxe {S : Hp -> Prop} {ts : List Nat} {a : Act} {H : Hp} {i j k : Nat} {ops : Array Oper} {p q r : PW} (h1 : numX P main lp ops i Q (fun a' H' => (i ∈ ts ∨ (S H -> S H')) /\ Aj6 P main lp ops Q S ts p a' H') a H) (h2 : numX P main lp ops j Q (fun a' H' => (j ∈ ts ∨ (S H -> S H')) /\ Aj6 P main lp ops Q S ts q a' H') a H) (h3 : numX P main lp ops k Q (fun a' H' => (k ∈ ts ∨ (S H -> S H')) /\ Aj6 P main lp ops Q S ts r a' H') a H) : Aj6 P main lp ops Q S ts (.three i p j q k r) a H := ⟨h1, h2, h3⟩
end
end Go.X
end
section
namespace Go.X
open Go
theorem Ayu {α : Type} (f : α -> List Value) (n : Nat) (hn : 0 < n) : ∀ (L : List α), (∀ x ∈ L, (f x).length = n) -> ∀ j : Nat, (L.flatMap f)[j]? = (L[j / n]?).bind fun x => (f x)[j % n]?
 | [], _, j => by simp
 | x :: L, h, j => by
  rw [List.flatMap_cons]
  have hx := h x List.mem_cons_self
  by_cases hj : j < n
  ·rw [List.getElem?_append_left (by omega), Nat.div_eq_of_lt hj, Nat.mod_eq_of_lt hj]
   rfl
  ·rw [List.getElem?_append_right (by omega), hx, Ayu f n hn L (fun y hy => h y (List.mem_cons_of_mem _ hy))]
   have h1 : j / n = (j - n) / n + 1 := by
    rw [Nat.div_eq_sub_div hn (by omega)]
   have h2 : j % n = (j - n) % n := by
    rw [Nat.mod_eq_sub_mod (by omega)]
   rw [h1, h2, List.getElem?_cons_succ]
theorem Avs {α : Type} (f : α -> List Value) (n : Nat) : ∀ (L : List α), (∀ x ∈ L, (f x).length = n) -> (L.flatMap f).length = L.length * n
 | [], _ => by simp
 | x :: L, h => by
  rw [List.flatMap_cons, List.length_append, h x List.mem_cons_self, Avs f n L (fun y hy => h y (List.mem_cons_of_mem _ hy)), List.length_cons, Nat.succ_mul, Nat.add_comm]
end Go.X
namespace Go.Proofs.YtnfnaehonkbknaaGreatDoor
open Go Go.X
def bdC (b : Bd) : List Value := [.int .i64 b.lo, .int .i64 b.hi, .bool b.some]
def Axu (x : Hint) : List Value := x.bs.flatMap bdC ++ (ints x.first ++ [.bool x.some])
def Axd (t : Trail) : List Value := .int .i64 t.ham :: t.hs.flatMap Axu
structure Axq (x : Hint) : Prop where
 b : x.bs.length = 6
 f : x.first.length = 6
structure Ax2 (t : Trail) : Prop where
 l : t.hs.length = 13
 k : ∀ x ∈ t.hs, Axq x
theorem Ax0 {x : Hint} (h : Axq x) : (Axu x).length = 25 := by
 unfold Axu
 rw [List.length_append, List.length_append, Avs bdC 3 _ (fun _ _ => rfl), Aqz, h.b, h.f]
 rfl
theorem Axt {t : Trail} (h : Ax2 t) : (Axd t).length = 326 := by
 unfold Axd
 rw [List.length_cons, Avs Axu 25 _ (fun x hx => Ax0 (h.k x hx)), h.l]
theorem Bz0 (x : Hint) : ∀ v ∈ Axu x, one v = true := by
 intro v hv
 unfold Axu at hv
 rw [List.mem_append, List.mem_append] at hv
 rcases hv with hv | hv | hv
 ·obtain ⟨b, _, hb⟩ := List.mem_flatMap.1 hv
  simp only [bdC, List.mem_cons, List.not_mem_nil, or_false] at hb
  rcases hb with rfl | rfl | rfl <;> rfl
 ·exact Bzd _ v hv
 ·simp only [List.mem_singleton] at hv
  subst hv; rfl
theorem Bxh (t : Trail) : ∀ v ∈ Axd t, one v = true := by
 intro v hv
 unfold Axd at hv
 rcases List.mem_cons.1 hv with rfl | hv
 ·rfl
 ·obtain ⟨x, _, hx⟩ := List.mem_flatMap.1 hv
  exact Bz0 x v hx
theorem Aw4 {x : Hint} (h : Axq x) : ∃ b0 b1 b2 b3 b4 b5 f0 f1 f2 f3 f4 f5 s, x = ⟨[b0, b1, b2, b3, b4, b5], [f0, f1, f2, f3, f4, f5], s⟩ := by
 obtain ⟨bs, fs, s⟩ := x
 obtain ⟨hb, hf⟩ := h
 simp only at hb hf
 match bs, hb with
 | [b0, b1, b2, b3, b4, b5], _ =>
  match fs, hf with
  | [f0, f1, f2, f3, f4, f5], _ => exact ⟨b0, b1, b2, b3, b4, b5, f0, f1, f2, f3, f4, f5, s, rfl⟩
theorem Czy {x : Hint} (h : Axq x) : (Axu x)[24]? = some (.bool x.some) := by
 obtain ⟨b0, b1, b2, b3, b4, b5, f0, f1, f2, f3, f4, f5, s, rfl⟩ := Aw4 h
 rfl
theorem Bqj {x : Hint} (h : Axq x) {p : Nat} {b : Bd} (hb : x.bs[p]? = some b) : (Axu x)[p * 3]? = some (.int .i64 b.lo) /\ (Axu x)[p * 3 + 1]? = some (.int .i64 b.hi) /\ (Axu x)[p * 3 + 2]? = some (.bool b.some) := by
 have hp : p < 6 := by have := (List.getElem?_eq_some_iff.1 hb).1; rw [h.b] at this; exact this
 obtain ⟨b0, b1, b2, b3, b4, b5, f0, f1, f2, f3, f4, f5, s, rfl⟩ := Aw4 h
 rcases (by omega : p = 0 ∨ p = 1 ∨ p = 2 ∨ p = 3 ∨ p = 4 ∨ p = 5) with rfl | rfl | rfl | rfl | rfl | rfl <;> (cases hb; exact ⟨rfl, rfl, rfl⟩)
theorem Cwu {x : Hint} (h : Axq x) {p : Nat} (hp : p < 6) (b : Bd) : Axu ⟨x.bs.set p b, x.first, x.some⟩ = (((Axu x).set (p * 3) (.int .i64 b.lo)).set (p * 3 + 1) (.int .i64 b.hi)).set (p * 3 + 2) (.bool b.some) := by
 obtain ⟨b0, b1, b2, b3, b4, b5, f0, f1, f2, f3, f4, f5, s, rfl⟩ := Aw4 h
 rcases (by omega : p = 0 ∨ p = 1 ∨ p = 2 ∨ p = 3 ∨ p = 4 ∨ p = 5) with rfl | rfl | rfl | rfl | rfl | rfl <;> rfl
theorem Cq4 {x : Hint} (h : Axq x) {d : List Int} (hd : d.length = 6) (s : Bool) (k : Nat) : (Axu ⟨x.bs, d, s⟩)[k]? = if k < 18 then (Axu x)[k]? else if k < 24 then (ints d)[k - 18]? else if k = 24 then some (.bool s) else none := by
 have hl : (x.bs.flatMap bdC).length = 18 := by rw [Avs bdC 3 _ (fun _ _ => rfl), h.b]
 unfold Axu
 simp only
 by_cases h1 : k < 18
 ·rw [if_pos h1, List.getElem?_append_left (by omega), List.getElem?_append_left (by omega)]
 ·rw [if_neg h1, List.getElem?_append_right (by omega), hl]
  by_cases h2 : k < 24
  ·rw [if_pos h2, List.getElem?_append_left (by rw [Aqz]; omega)]
  ·rw [if_neg h2, List.getElem?_append_right (by rw [Aqz]; omega), Aqz, hd]
   by_cases h3 : k = 24
   ·subst h3; rfl
   ·rw [if_neg h3, List.getElem?_eq_none (by simp; omega)]
structure HR (c c0 : Array Value) (o : Nat) (x : Hint) : Prop where
 size : c.size = c0.size
 out : ∀ i, i < o ∨ o + 25 <= i -> c[i]? = c0[i]?
 inn : ∀ k, k < 25 -> c[o + k]? = (Axu x)[k]?
theorem HR.bd {c c0 : Array Value} {o : Nat} {x : Hint} (h : HR c c0 o x) (hx : Axq x) {p : Nat} {b : Bd} (hb : x.bs[p]? = some b) : BdC c (o + p * 3) b := by
 have hp : p < 6 := by have := (List.getElem?_eq_some_iff.1 hb).1; rw [hx.b] at this; exact this
 obtain ⟨h1, h2, h3⟩ := Bqj hx hb
 refine ⟨?_, ?_, ?_⟩
 ·rw [h.inn _ (by omega), h1]
 ·rw [Nat.add_assoc, h.inn _ (by omega), h2]
 ·rw [Nat.add_assoc, h.inn _ (by omega), h3]
theorem HR.sm {c c0 : Array Value} {o : Nat} {x : Hint} (h : HR c c0 o x) (hx : Axq x) : c[o + 24]? = some (.bool x.some) := by
 rw [h.inn 24 (by omega), Czy hx]
theorem HR.add {c c0 : Array Value} {o : Nat} {x : Hint} (h : HR c c0 o x) (hx : Axq x) (hs : o + 25 <= c0.size) {p : Nat} (hp : p < 6) (b : Bd) : HR (Bjz c (o + p * 3) b) c0 o ⟨x.bs.set p b, x.first, x.some⟩ := by
 have hsz : o + p * 3 + 2 < c.size := by rw [h.size]; omega
 refine ⟨by rw [Cjq]; exact h.size, fun i hi => ?_, fun k hk => ?_⟩
 ·rw [Bqd hsz, if_neg (by omega), if_neg (by omega), if_neg (by omega)]
  exact h.out i hi
 ·have hl := Ax0 hx
  rw [Bqd hsz, Cwu hx hp, h.inn k hk]
  simp only [List.getElem?_set, List.length_set, hl]
  by_cases e2 : k = p * 3 + 2
  ·rw [if_neg (by omega), if_neg (by omega), if_pos (by omega), if_pos e2.symm, if_pos (by omega)]
  ·rw [if_neg (Ne.symm e2)]
   by_cases e1 : k = p * 3 + 1
   ·rw [if_neg (by omega), if_pos (by omega), if_pos e1.symm, if_pos (by omega)]
   ·rw [if_neg (Ne.symm e1)]
    by_cases e0 : k = p * 3
    ·rw [if_pos (by omega), if_pos e0.symm, if_pos (by omega)]
    ·rw [if_neg (by omega), if_neg (by omega), if_neg (by omega), if_neg (Ne.symm e0)]
theorem HR.set1 {c c0 : Array Value} {o : Nat} {x : Hint} (h : HR c c0 o x) (hx : Axq x) (hs : o + 25 <= c0.size) {d : List Int} (hd : d.length = 6) : HR (over (c.setIfInBounds (o + 24) (.bool true)) (o + 18) (ints d)) c0 o ⟨x.bs, d, true⟩ := by
 have hsz : (c.setIfInBounds (o + 24) (.bool true)).size = c0.size := by rw [Array.size_setIfInBounds, h.size]
 refine ⟨by rw [Azt]; exact hsz, fun i hi => ?_, fun k hk => ?_⟩
 ·by_cases hi2 : i < c0.size
  ·rw [Aj0 i (by rw [hsz]; exact hi2), if_neg (by rw [Aqz, hd]; omega), Array.getElem?_setIfInBounds, if_neg (by omega)]
   exact h.out i hi
  ·rw [Array.getElem?_eq_none (by rw [Azt, hsz]; omega), Array.getElem?_eq_none (by omega)]
 ·rw [Aj0 (o + k) (by rw [hsz]; omega), Cq4 hx hd, Aqz, hd]
  by_cases h1 : k < 18
  ·rw [if_neg (by omega), if_pos h1, Array.getElem?_setIfInBounds, if_neg (by omega), h.inn k hk]
  ·rw [if_neg h1]
   by_cases h2 : k < 24
   ·rw [if_pos (by omega), if_pos h2, show o + k - (o + 18) = k - 18 by omega]
    simp [List.getD, List.getElem?_eq_getElem (show k - 18 < (ints d).length by rw [Aqz]; omega)]
   ·obtain rfl : k = 24 := by omega
    rw [if_neg (by omega), if_neg h2, if_pos rfl, Array.getElem?_setIfInBounds, if_pos rfl, if_pos (by rw [h.size]; omega)]
theorem HR.refl {t : Trail} (ht : Ax2 t) {h : Nat} {x : Hint} (hx : t.hs[h]? = some x) : HR (Axd t).toArray (Axd t).toArray (1 + h * 25) x := by
 refine ⟨rfl, fun _ _ => rfl, fun k hk => ?_⟩
 simp only [List.getElem?_toArray]
 unfold Axd
 rw [show 1 + h * 25 + k = (h * 25 + k) + 1 by omega, List.getElem?_cons_succ, Ayu Axu 25 (by omega) _ (fun x hx => Ax0 (ht.k x hx)), show (h * 25 + k) / 25 = h by omega, show (h * 25 + k) % 25 = k by omega, hx]
 rfl
theorem HR.done {t : Trail} (ht : Ax2 t) {h : Nat} (hh : h < 13) {x : Hint} (hxo : Axq x) {c : Array Value} (hc : HR c (Axd t).toArray (1 + h * 25) x) : c = (Axd ⟨t.ham, t.hs.set h x⟩).toArray := by
 have hl := Axt ht
 have ht2 : Ax2 ⟨t.ham, t.hs.set h x⟩ := ⟨by simp [ht.l], fun y hy => by
  rcases List.mem_or_eq_of_mem_set hy with h | h
  ·exact ht.k y h
  ·subst h; exact hxo⟩
 apply Array.ext_getElem?
 intro i
 by_cases hi : 1 + h * 25 <= i /\ i < 1 + h * 25 + 25
 ·have h1 := hc.inn (i - (1 + h * 25)) (by omega)
  rw [show 1 + h * 25 + (i - (1 + h * 25)) = i by omega] at h1
  rw [h1]
  simp only [List.getElem?_toArray]
  unfold Axd
  rw [show i = (h * 25 + (i - (1 + h * 25))) + 1 by omega, List.getElem?_cons_succ, Ayu Axu 25 (by omega) _ (fun x hx => Ax0 (ht2.k x hx)), show (h * 25 + (i - (1 + h * 25))) / 25 = h by omega, show (h * 25 + (i - (1 + h * 25))) % 25 = i - (1 + h * 25) by omega]
  simp only [List.getElem?_set_self (show h < t.hs.length by rw [ht.l]; exact hh)]
  rw [show h * 25 + (i - (1 + h * 25)) + 1 - (1 + h * 25) = i - (1 + h * 25) by omega]
  rfl
 ·rw [hc.out i (by omega)]
  simp only [List.getElem?_toArray]
  unfold Axd
  cases i with
  | zero => rfl
  | succ i =>
   rw [List.getElem?_cons_succ, List.getElem?_cons_succ, Ayu Axu 25 (by omega) _ (fun x hx => Ax0 (ht.k x hx)), Ayu Axu 25 (by omega) _ (fun x hx => Ax0 (ht2.k x hx))]
   rw [List.getElem?_set_ne (by omega)]
theorem By1 {t : Trail} (h : Ax2 t) : (Axd t).toArray.extract 0 326 = (Axd t).toArray := by
 rw [List.extract_toArray, List.extract_eq_take_drop, List.drop_zero, List.take_of_length_le (by rw [Axt h]; omega)]
theorem Ay4 {H : Hp} {b : Nat} {t : Trail} {c : Array Value} {e : TypeId} {K : Hp -> Prop} (ht : Ax2 t) (hb : H b = some (true, .cells c e (0, 0))) (hs : c.size = 326) : Akw H b 0 (Axd t) K = K (H.set b (.cells (Axd t).toArray e (0, 0))) := by
 have hl := Axt ht
 rw [Akl (c := c) (e := e) (by intro h; rw [h] at hl; simp at hl) hb]
 have ho : over c 0 (Axd t) = (Axd t).toArray := by
  obtain ⟨l⟩ := c
  exact Bqp (by simp at hs; omega)
 rw [ho]
 have h3 : (Axd t).all one = true := by rw [List.all_eq_true]; exact Bxh t
 rw [h3]
 simp [hl, hs]
end Go.Proofs.YtnfnaehonkbknaaGreatDoor
end
section
namespace Go.Proofs.YtnfnaehonkbknaaGreatDoor
open Go Go.X
theorem Czx : Axq Bye := ⟨rfl, rfl⟩
theorem Bq5 {pl b : Int} {x : Hint} {tc : List Int × List Int} (h : Axq x) (ht : tc.1.length = 6) : Axq (Azd pl b x tc) := by
 refine ⟨by simp [Azd, h.b], ?_⟩
 unfold Azd
 simp only
 split
 ·exact h.f
 ·exact ht
theorem Bz1 {pl b : Int} : ∀ (L : List (List Int × List Int)) (x : Hint), Axq x -> (∀ tc ∈ L, tc.1.length = 6) -> Axq (L.foldl (Azd pl b) x)
 | [], _, h, _ => h
 | tc :: L, x, h, ht => Bz1 L _ (Bq5 h (ht tc List.mem_cons_self)) fun y hy => ht y (List.mem_cons_of_mem _ hy)
theorem Dxr {s : Sm} {L : List (List Int × List Int)} {b : Int} (h : ∀ tc ∈ L, tc.1.length = 6) : Axq (Ayh s L b) := Bz1 _ _ Czx fun tc htc => h tc (List.mem_filter.1 htc).1
theorem Cvs {s : Sm} {L : List (List Int × List Int)} (h : ∀ tc ∈ L, tc.1.length = 6) (ham : Int) : Ax2 ⟨ham, byL s L⟩ := by
 refine ⟨by simp [byL], fun x hx => ?_⟩
 simp only [byL, List.mem_map] at hx
 obtain ⟨b, _, rfl⟩ := hx
 exact Dxr h
def Az2 (pl : Int) (tc : List Int × List Int) (lo b : Int) (hs : List Hint) : List Hint := hs.mapIdx fun i x => if lo <= (i : Int) /\ (i : Int) < b then Azd pl i x tc else x
theorem Bkn (pl : Int) (tc : List Int × List Int) (lo b : Int) (hs : List Hint) : (Az2 pl tc lo b hs).length = hs.length := by simp [Az2]
theorem Bkm {pl : Int} {tc : List Int × List Int} {lo b : Int} {hs : List Hint} {i : Nat} {x : Hint} (h : hs[i]? = some x) : (Az2 pl tc lo b hs)[i]? = some (if lo <= (i : Int) /\ (i : Int) < b then Azd pl i x tc else x) := by simp [Az2, h]
theorem Ayv (pl : Int) (tc : List Int × List Int) {lo b : Int} (h : b <= lo) (hs : List Hint) : Az2 pl tc lo b hs = hs := by
 apply List.ext_getElem?
 intro i
 unfold Az2
 rw [List.getElem?_mapIdx]
 cases hs[i]? with
 | none => rfl
 | some x => rw [Option.map_some, if_neg (by omega)]
theorem Cq6 {pl : Int} {tc : List Int × List Int} {lo : Int} {b : Nat} {hs : List Hint} {x : Hint} (hx : hs[b]? = some x) (hlo : lo <= (b : Int)) : Az2 pl tc lo ((b : Int) + 1) hs = (Az2 pl tc lo b hs).set b (Azd pl b x tc) := by
 apply List.ext_getElem?
 intro i
 have hl : b < (Az2 pl tc lo b hs).length := by rw [Bkn]; exact (List.getElem?_eq_some_iff.1 hx).1
 by_cases h : i = b
 ·subst h
  rw [Bkm hx, List.getElem?_set_self hl, if_pos ⟨hlo, by omega⟩]
 ·rw [List.getElem?_set_ne (Ne.symm h)]
  unfold Az2
  rw [List.getElem?_mapIdx, List.getElem?_mapIdx]
  cases hs[i]? with
  | none => rfl
  | some y =>
   simp only [Option.map_some, Option.some.injEq]
   by_cases h1 : lo <= (i : Int) /\ (i : Int) < (b : Int)
   ·rw [if_pos h1, if_pos (by omega)]
   ·rw [if_neg h1, if_neg (by omega)]
theorem Dqo {s : Sm} {L : List (List Int × List Int)} {tc : List Int × List Int} {lo hi : Int} (h : begN s.noses tc.2 0 12 = some (lo, hi)) : byL s (L ++ [tc]) = Az2 s.places tc lo (hi + 1) (byL s L) := by
 apply List.ext_getElem?
 intro i
 unfold Az2 byL
 rw [List.getElem?_mapIdx, List.getElem?_map, List.getElem?_map]
 cases hr : (List.range 13)[i]? with
 | none => rfl
 | some b =>
  obtain rfl : b = i := by
   obtain ⟨_, h2⟩ := List.getElem?_eq_some_iff.1 hr
   rw [List.getElem_range] at h2
   exact h2.symm
  simp only [Option.map_some, Option.some.injEq]
  unfold Ayh
  rw [List.filter_append]
  have hf : fitB s.noses tc.2 (b : Int) = decide (lo <= (b : Int) /\ (b : Int) <= hi) := by unfold fitB; rw [h]
  by_cases hin : lo <= (b : Int) /\ (b : Int) < hi + 1
  ·rw [if_pos hin]
   have : [tc].filter (fun tc => fitB s.noses tc.2 (b : Int)) = [tc] := by simp [hf]; omega
   rw [this, List.foldl_append]
   rfl
  ·rw [if_neg hin]
   have : [tc].filter (fun tc => fitB s.noses tc.2 (b : Int)) = [] := by simp [hf]; omega
   rw [this, List.append_nil]
theorem Dqn {s : Sm} {L : List (List Int × List Int)} {tc : List Int × List Int} (h : begN s.noses tc.2 0 12 = none) : byL s (L ++ [tc]) = byL s L := by
 unfold byL
 congr 1
 funext b
 unfold Ayh
 rw [List.filter_append]
 have hf : fitB s.noses tc.2 (b : Int) = false := by unfold fitB; rw [h]
 have : [tc].filter (fun tc => fitB s.noses tc.2 (b : Int)) = [] := by simp [hf]
 rw [this, List.append_nil]
theorem Cwx {pl : Int} {tc : List Int × List Int} (ht : tc.1.length = 6) {lo b : Int} {hs : List Hint} {ham : Int} (h : Ax2 ⟨ham, hs⟩) : Ax2 ⟨ham, Az2 pl tc lo b hs⟩ := by
 refine ⟨by rw [Bkn]; exact h.l, fun x hx => ?_⟩
 simp only [Az2, List.mem_mapIdx] at hx
 obtain ⟨i, hi, rfl⟩ := hx
 have := h.k _ (List.getElem_mem hi)
 split
 ·exact Bq5 this ht
 ·exact this
def Ayi (pl b : Int) (x : Hint) (tc : List Int × List Int) (k : Nat) : Hint := ⟨x.bs.mapIdx fun p w => if p < k /\ (p : Int) < pl then Ax9 w (min 99 (b + gI tc.2 p)) else w, if x.some then x.first else tc.1, true⟩
theorem Bkl (pl b : Int) (x : Hint) (tc : List Int × List Int) : Ayi pl b x tc 0 = ⟨x.bs, if x.some then x.first else tc.1, true⟩ := by
 unfold Ayi
 congr 1
 apply List.ext_getElem?
 intro i
 rw [List.getElem?_mapIdx]
 cases x.bs[i]? with
 | none => rfl
 | some w => rw [Option.map_some, if_neg (by omega)]
theorem Cww {pl b : Int} {x : Hint} {tc : List Int × List Int} {k : Nat} {w : Bd} (h : x.bs[k]? = some w) : (Ayi pl b x tc k).bs[k]? = some w := by
 unfold Ayi
 simp only
 rw [List.getElem?_mapIdx, h, Option.map_some, if_neg (by omega)]
theorem Ckc {pl b : Int} {x : Hint} {tc : List Int × List Int} {k : Nat} {w : Bd} (h : x.bs[k]? = some w) (hk : (k : Int) < pl) : Ayi pl b x tc (k + 1) = ⟨(Ayi pl b x tc k).bs.set k (Ax9 w (min 99 (b + gI tc.2 k))), (Ayi pl b x tc k).first, (Ayi pl b x tc k).some⟩ := by
 have hl : k < x.bs.length := (List.getElem?_eq_some_iff.1 h).1
 unfold Ayi
 congr 1
 apply List.ext_getElem?
 intro i
 by_cases e : i = k
 ·subst e
  rw [List.getElem?_mapIdx, h, Option.map_some, if_pos ⟨by omega, hk⟩, List.getElem?_set_self (by simpa using hl)]
 ·rw [List.getElem?_set_ne (Ne.symm e), List.getElem?_mapIdx, List.getElem?_mapIdx]
  cases x.bs[i]? with
  | none => rfl
  | some y =>
   simp only [Option.map_some, Option.some.injEq]
   by_cases h1 : i < k /\ (i : Int) < pl
   ·rw [if_pos h1, if_pos (by omega)]
   ·rw [if_neg h1, if_neg (by omega)]
theorem Cwv {pl b : Int} {x : Hint} {tc : List Int × List Int} {k : Nat} (hk : pl <= (k : Int)) : Ayi pl b x tc k = Azd pl b x tc := by
 unfold Ayi Azd
 congr 1
 apply List.ext_getElem?
 intro i
 rw [List.getElem?_mapIdx, List.getElem?_mapIdx]
 cases x.bs[i]? with
 | none => rfl
 | some y =>
  simp only [Option.map_some, Option.some.injEq]
  by_cases h1 : (i : Int) < pl
  ·rw [if_pos h1, if_pos ⟨by omega, h1⟩]
  ·rw [if_neg h1, if_neg (by omega)]
theorem Czz {pl b : Int} {x : Hint} {tc : List Int × List Int} (h : Axq x) (ht : tc.1.length = 6) (k : Nat) : Axq (Ayi pl b x tc k) := by
 refine ⟨by simp [Ayi, h.b], ?_⟩
 unfold Ayi
 simp only
 split
 ·exact h.f
 ·exact ht
end Go.Proofs.YtnfnaehonkbknaaGreatDoor
end
section
namespace Go.Proofs.YtnfnaehonkbknaaGreatDoor
open Go Go.X Go.Proofs.Tryz
def Czc := aN @Eq4 @Bvh
theorem Ako (main : Md) (H : Hp) (pl : Int) (da : Option Addr) (dn dc : Nat) (ha : Option Addr) (hn kc : Nat) (na : Option Addr) (nn nc : Nat) :
  FnX Tryz.prog main 67 #[smV pl (.slice da dn dc) (.slice ha hn kc) (.slice na nn nc)] H fun e H' => ∃ hb mb, e = .returned (.pointer (some ⟨hb, 0, none⟩)) /\ H' hb = some (true, hsO pl (.slice da dn dc) (.slice ha hn kc) (.slice na nn nc) mb) /\ H' mb = some (true, .map #[] 0) /\ H hb = none /\ H mb = none /\ H.le H' := by
 refine Aql func67 rfl ntmps67 (by simp) ?_
 (refine @unH _ (zA Czc ?_); (try clear hK K); intro K hK hc)
 (intro sb hsb; generalize hG : Hp.set _ sb _ = H1; have lH1 := Aqc hG hsb; have vsb := Aqb hG; clear hG)
 (refine @unH _ (zU Czc ?_); (try clear hK K); intro K hK hc)
 intro mb hmb hb hhb
 replace hhb : (Hp.set H1 mb (.map #[] 0)) hb = none := hhb
 generalize hG : Hp.set H1 mb _ = H2 at hhb ⊢
 have lH2 := Aqc hG hmb
 have vmb := Aqb hG
 clear hG
 generalize hG : Hp.set H2 hb _ = H3
 have lH3 := Aqc hG hhb
 have vhb := Aqb hG
 clear hG
 (refine @unH _ (zU Czc ?_); (try clear hK K); intro K hK hc)
 (refine @unH _ ?_; refine z9 results67 ?_)
 exact ⟨hb, mb, rfl, vhb, lH3 _ _ vmb, Hp.le_none (Hp.le_trans lH1 lH2) hhb, Hp.le_none lH1 hmb, Hp.le_trans lH1 (Hp.le_trans lH2 lH3)⟩
def FolS (H3 : Hp) (sb ib rb : Nat) (pl : Int) (dv hv nv : Value) (t0 : Trail) (e : Nat -> Value) (H' : Hp) : Prop :=
 ∃ hb mb pb tb, e 2 = .pointer (some ⟨sb, 0, none⟩) /\ e 3 = .pointer (some ⟨ib, 0, none⟩) /\ e 4 = .pointer (some ⟨rb, 0, none⟩) /\ e 5 = .pointer (some ⟨pb, 0, none⟩) /\ e 6 = .pointer (some ⟨tb, 0, none⟩) /\ H3.le H' /\ (H3 hb = none /\ H3 mb = none /\ H3 pb = none /\ H3 tb = none) /\
  H' hb = some (true, hsO pl dv hv nv mb) /\ H' mb = some (true, .map #[] 0) /\ H' pb = some (true, .cells #[.pointer (some ⟨hb, 0, none⟩)] 115 (0, 0)) /\ H' tb = some (true, .cells (Axd t0).toArray 127 (0, 0))
theorem Cqk {H : Hp} (p : Int) (xs : List Int) (h : xs.length = 6) (K : Value -> Hp -> Prop) (E : Value -> Hp -> Prop) : wpS Tryz.prog (Instr.build 120 #[(0, .int .i64 p), (1, .agg (ints xs).toArray)]) H K E = K (.agg (.int .i64 p :: ints xs).toArray) H := by
 obtain ⟨x0, x1, x2, x3, x4, x5, rfl⟩ := Bjf xs h
 exact Akd H .i64 p .i64 x0 .i64 x1 .i64 x2 .i64 x3 .i64 x4 .i64 x5 K E
def RdS (Hb : Hp) (sb pb tb xb mb : Nat) (ds : List Dr) (c : List Int) (e : Nat -> Value) (H' : Hp) : Prop :=
 ∃ cb, e 2 = .pointer (some ⟨sb, 0, none⟩) /\ e 5 = .pointer (some ⟨pb, 0, none⟩) /\ e 6 = .pointer (some ⟨tb, 0, none⟩) /\ e 7 = .pointer (some ⟨xb, 0, none⟩) /\ e 8 = .pointer (some ⟨cb, 0, none⟩) /\
  H' cb = some (true, .cells (ints c).toArray 117 (0, 0)) /\ Ajf ds mb H' /\ ∀ b x, b ≠ mb -> Hb b = some x -> H' b = some x
theorem SmIn.mv {H H' : Hp} {dv hv nv : Value} {s : Sm} (h : SmIn H dv hv nv s) (hl : ∀ x p c t fr, (t = 66 ∨ t = 3 ∨ t = 46) -> H x = some (p, .cells c t fr) -> H' x = some (p, .cells c t fr)) : SmIn H' dv hv nv s :=
 ⟨h.dd.move fun x p c fr hx => ⟨p, hl x p c _ fr (.inl rfl) hx⟩, h.hh.move fun x p c fr hx => hl x p c _ fr (.inr (.inl rfl)) hx, h.nn.move fun x p c fr hx => ⟨p, hl x p c _ fr (.inr (.inr rfl)) hx⟩⟩
def prF (s : Sm) (p : Int) (L : List (List Int)) : List (List Int × List Int) := L.map fun t => (t, Aq4 s.doors p t)
end Go.Proofs.YtnfnaehonkbknaaGreatDoor
end
