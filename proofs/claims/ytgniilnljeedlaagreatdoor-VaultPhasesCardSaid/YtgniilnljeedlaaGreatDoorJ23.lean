/- Texts VAsk VKept1 VEval VKept LKit Leave. -/
import Derived.Test.YtgniilnljeedlaaGreatDoorJ22
import Derived.Conc.Holds
import Derived.Conc.LeavingOf
import Derived.Calls
import Derived.Below
import Derived.Carry
import Derived.ChangeSame
import Derived.ChangeVars
import Derived.ChangeSlices
import Derived.JoinedOf
import Derived.RowKit
import Derived.RowKitTokens
import Derived.LaidLaws
import Derived.LaidHandle
import Derived.Stop.Joined
import Derived.Handed
set_option linter.defProp false
set_option linter.unusedSimpArgs false
set_option linter.unusedVariables false
set_option maxRecDepth 100000
set_option maxHeartbeats 2000000
section
namespace Go.Proofs.YtgniilnljeedlaaGreatDoor
open Go Go.X
def Axh := And.intro (fun H => Aqv (H := H) Tryz.underlying25 rfl Tryz.sizeOf25) (And.intro @Bk9 (And.intro @Ckw (And.intro @Cqe (And.intro (fun H => Aq0 (H := H) (P := Tryz.prog) (h := Tryz.zeroValue120)) (And.intro (fun H => Aq3 (H := H) Tryz.sizeOf120) (And.intro (fun H => Aqg (H := H) Tryz.underlying120 (i := 1) rfl (off := 1) rfl Tryz.sizeOf3) (And.intro (fun H => Aqd (H := H) Tryz.underlying3 rfl) (And.intro (fun H => Aqg (H := H) Tryz.underlying120 (i := 0) rfl (off := 0) rfl Tryz.sizeOf3) (And.intro (fun H => Aqg (H := H) Tryz.underlying25 (i := 3) rfl (off := 3) rfl Tryz.sizeOf23) (And.intro (fun H => Aqd (H := H) Tryz.underlying23 rfl) (And.intro (fun H => Aq4 (H := H) Tryz.underlying23) (And.intro (fun H => Aqq (H := H) Tryz.underlying23 Tryz.sizeOf22) (And.intro (fun H => Aqd (H := H) Tryz.underlying22 rfl) (And.intro (fun H => Aq4 (H := H) Tryz.underlying22) (And.intro (fun H => Aqq (H := H) Tryz.underlying22 Tryz.sizeOf3) (And.intro (fun H => Aq0 (H := H) (P := Tryz.prog) (h := Tryz.zeroValue25)) (And.intro (fun H => Aq3 (H := H) Tryz.sizeOf25) (And.intro (fun H => Czd (H := H) Tryz.underlying23 Tryz.sizeOf22) (And.intro (fun H => Cze (H := H) Tryz.underlying23 Tryz.sizeOf22) (And.intro (fun H => Bku (H := H) Tryz.underlying23 Tryz.sizeOf22) (And.intro (fun H => Avf (H := H) Tryz.underlying23 Tryz.sizeOf22) (And.intro @Axq (And.intro @Bx8 (And.intro (fun H => Ajy (H := H) Tryz.sizeOf23) @Cqt))))))))))))))))))))))))
theorem Dkh {p q : Prop} (g : q) (h : Hid q -> p := by
 intro g
 repeat' (first
 | (refine Axj rfl ?_; intro Kz hKz; simp -implicitDefEqProofs (disch := first | omega | (simp only [qd] <;> omega)) only [xq, ↓xp, qc, Nat.reduceAdd, List.range, List.range.loop, fine, Nat.reduceEqDiff, ↓reduceIte, yielded, reduceCtorEq, Nat.reduceLT, Nat.reduceMul, Nat.reduceSub, one, Nat.reduceLeDiff, Aqa, Axh, aq, ↓ap, qe0, qe1, qe2, *, -g, -hKz, Avf Tryz.underlying23 Tryz.sizeOf22]; try (refine hKz _ _ ?_; clear hKz Kz))
 | (refine Axo rfl ?_; intro Kz hKz; simp -implicitDefEqProofs (disch := first | omega | (simp only [qd] <;> omega)) only [xq, ↓xp, qc, Nat.reduceAdd, List.range, List.range.loop, fine, Nat.reduceEqDiff, ↓reduceIte, yielded, reduceCtorEq, Nat.reduceLT, Nat.reduceMul, Nat.reduceSub, one, Nat.reduceLeDiff, Aqa, Axh, aq, ↓ap, qe0, qe1, qe2, *, -g, -hKz, Avf Tryz.underlying23 Tryz.sizeOf22]; try (refine hKz _ _ ?_; clear hKz Kz; (try simp only [nq, ↓reduceIte, Nat.reduceEqDiff])))
 | (refine Aqu ?_; (try simp only [nq, ↓reduceIte, Nat.reduceEqDiff]))
 | (refine Axn ?_; (try simp only [nq, ↓reduceIte, Nat.reduceEqDiff]))
 | (refine Aq7 ?_; (try simp only [nq, ↓reduceIte, Nat.reduceEqDiff]))
 | (refine Azb ?_; (try simp only [nq, ↓reduceIte, Nat.reduceEqDiff]))
 | (refine Axv (by simp only [Aqm, Aqr, Nat.reduceEqDiff, Nat.reduceLT, ↓reduceIte, *, -g]; rfl) ?_ ?_ <;> (intro hcz; first | (exfalso; simp -implicitDefEqProofs (disch := omega) only [*, -g, bq, reduceCtorEq] at hcz; done) | (simp only [dq, qe3, qe4, qe5, qe6] at hcz) | skip))
 | (refine Axl ?_)
 | (refine Aqo ?_)
 | (refine Aql ?_))
 (try (revert Kz; refine unK ?_)); (repeat (revert hcz; refine unC ?_))
 exact Hid.out g) : Hid p := ⟨h ⟨g⟩⟩
theorem Dkg {p q : Prop} (g : q) (h : Hid q -> p := by
 intro g
 simp -implicitDefEqProofs (disch := first | omega | (simp only [qd] <;> omega)) only [xq, ↓xp, qc, Nat.reduceAdd, List.range, List.range.loop, fine, Nat.reduceEqDiff, ↓reduceIte, yielded, reduceCtorEq, Nat.reduceLT, Nat.reduceMul, Nat.reduceSub, one, Nat.reduceLeDiff, Aqa, Axh, aq, ↓ap, qe0, qe1, qe2, *, -g, -hK, Avf Tryz.underlying23 Tryz.sizeOf22]
 exact Hid.out g) : Hid p := ⟨h ⟨g⟩⟩
def widF (places : Int) (start : List Int) (xss : List (List Int)) : Int := (bdT (fewF places start) (Aqz xss)).hi - (bdT (fewF places start) (Aqz xss)).lo
def Bkc (W : Int -> Int) (l : List Int) : Int := l.foldl (fun m p => if m < W p then W p else m) 0
def Aj2 (W : Int) (M : Nat -> Int) (xss : List (List Int)) : Nat -> Int × Int
 | 0 => (-1, W)
 | i + 1 => if (xss.getD i []).length < 2 then Aj2 W M xss i else if M i < (Aj2 W M xss i).2 then ((i : Int), M i) else Aj2 W M xss i
def askM (places : Int) (start : List Int) (xss : List (List Int)) (i : Nat) : Int := Bkc (fun p => widF places start (Azs xss i p)) (xss.getD i [])
def askF (places : Int) (start : List Int) (xss : List (List Int)) : Int × Int := Aj2 (widF places start xss) (askM places start xss) xss xss.length
theorem Bqj : ∀ (xss : List (List Int)) (ts : List Int), ts ∈ Aqz xss ↔ Ajd xss ts
 | [], ts => by
  simp only [Aqz, List.mem_singleton, Ajd, List.length_nil, List.length_eq_zero_iff]
  exact ⟨fun h => ⟨h, fun i t xs h1 h2 => by simp at h2⟩, fun h => h.1⟩
 | l :: r, ts => by
  simp only [Aqz, List.mem_flatMap, List.mem_map]
  constructor
  ·rintro ⟨p, hp, t, ht, rfl⟩
   have ih := (Bqj r t).1 ht
   refine ⟨by simp [ih.1], fun i x xs h1 h2 => ?_⟩
   cases i with
   | zero =>
    simp only [List.getElem?_cons_zero, Option.some.injEq] at h1 h2
    subst h1 h2
    exact hp
   | succ i =>
    simp only [List.getElem?_cons_succ] at h1 h2
    exact ih.2 i x xs h1 h2
  ·rintro ⟨h1, h2⟩
   cases ts with
   | nil => simp at h1
   | cons p t =>
    refine ⟨p, h2 0 p l rfl rfl, t, (Bqj r t).2 ⟨by simpa using h1, fun i x xs h3 h4 => h2 (i + 1) x xs h3 h4⟩, rfl⟩
theorem Cj5 {xss : List (List Int)} {places pieces : Int} {start : List Int} (h : Aje places pieces start xss) (h8 : xss.length <= 8) : (∀ t ∈ Aqz xss, TrA t) /\ Aqz xss ≠ [] := by
 refine ⟨fun t ht => ?_, Ayp xss fun l hl => (h.2.2.2.2.2.2.2 l hl).1⟩
 have ht2 := (Bqj xss t).1 ht
 exact ⟨by rw [ht2.1]; exact h8, ht2.bnd h⟩
theorem Cve {xss : List (List Int)} {places pieces : Int} {start : List Int} (h : Aje places pieces start xss) (h8 : xss.length <= 8) : 0 <= (bdT (fewF places start) (Aqz xss)).lo /\ (bdT (fewF places start) (Aqz xss)).lo <= (bdT (fewF places start) (Aqz xss)).hi /\ (bdT (fewF places start) (Aqz xss)).hi <= 8 := by
 obtain ⟨h1, h2⟩ := Cj5 h h8
 have hb := Ckk (fewF places start) _ h2
 have hp : ∀ x, (∃ t ∈ Aqz xss, fewF places start t = x) -> 0 <= x /\ x <= 8 := fun x ⟨t, ht, e⟩ => by
  subst e
  have := Bv0 t.length places h.1 t (oOf start) (Nat.le_refl _)
  have := (h1 t ht).1
  unfold fewF
  omega
 have a := hp _ hb.2.1
 have b := hp _ hb.2.2.1
 have c := hb.2.2.2 _ hb.2.1
 exact ⟨a.1, c.2, b.2⟩
theorem Cwh (H : Hp) (places pieces : Int) (sv cv : Value) (start : List Int) (xss : List (List Int)) (hv : Akv H places pieces sv cv start xss) :
  FnX Tryz.prog (.wg Tryz.prog) 51 #[.agg #[.int .i64 places, .int .i64 pieces, sv, cv]] H fun e H' => e = .returned (.tuple #[.int .i64 (if (askF places start xss).1 < 0 then 0 else (askF places start xss).1), .int .i64 (if (askF places start xss).1 < 0 then 0 else (askF places start xss).2), .int .i64 (if (askF places start xss).1 < 0 then 11 else 0)]) /\ H.le H' := by
 obtain ⟨sa, sn, sc, rfl⟩ := hv.st.isSlice
 obtain ⟨ca, cc, rfl, hcc, _⟩ := id hv.calls
 refine Aqk Tryz.func51 rfl Tryz.ntmps51 (by simp) ?_
 (refine @unH _ ?_; refine zA Axh ?_; (repeat (refine inC ?_; intro hc)); try (refine inK ?_; intro K hK))
 (intro vb hvb; generalize hG : Hp.set _ vb _ = H1; have lH1 := Aqh hG hvb; have vvb := Aqf hG; clear hG)
 have hv1 := hv.le lH1
 ((try (refine @unH _ ?_; refine zX Axh ?_)); (try (refine hK _ _ ?_; clear hK K; (try simp only [nq, ↓reduceIte, Nat.reduceEqDiff]))); refine @unH _ ?_; refine zA Axh ?_; (repeat (refine inC ?_; intro hc)); try (refine inK ?_; intro K hK))
 refine (Ayj _ H1 places pieces _ _ start xss hv1.st hv1.calls hv1.ok hv1.few).runs.mono ?_
 rintro _ H3 ⟨rfl, lH3⟩
 have hv3 := hv1.le lH3
 have vvb3 := lH3 _ _ vvb
 have l03 := Hp.le_trans lH1 lH3
 clear vvb lH3 lH1 hvb hv1
 ((try (refine @unH _ ?_; refine zX Axh ?_)); (try (refine hK _ _ ?_; clear hK K; (try simp only [nq, ↓reduceIte, Nat.reduceEqDiff]))); refine @unH _ ?_; refine zA Axh ?_; (repeat (refine inC ?_; intro hc)); try (refine inK ?_; intro K hK))
 have hov := fun HX (hX : H3.le HX) => Azo (Bq5 HX places pieces _ _ start xss _ _ (hv3.le hX).st (hv3.le hX).calls hv.ok hv.few (Awa HX places start hv.stA))
 have hfw := fun HX => Azo (Ayg (.wg Tryz.prog) HX)
 replace hov : Aqy _ := hov
 replace hfw : Aqy _ := hfw
 have hW : Aqy (widF places start xss = (bdT (fewF places start) (Aqz xss)).hi - (bdT (fewF places start) (Aqz xss)).lo) := rfl
 have hbd := Cve hv.ok hv.few
 generalize bdT (fewF places start) (Aqz xss) = B at *
 obtain ⟨blo, bhi, bsm⟩ := B
 simp only [bdV] at hov
 simp only at hbd
 refine Aj0 (fun HX => H3.le HX) [4] (.take 0 (.take 1 (.take 2 (.one 3 (.one 4 .nil))))) (by kernel_rfl) (by kernel_rfl) (by decide) (by kernel_rfl) ?_; intro K hK
 have hle0 : H3.le H3 := Hp.le_refl _
 (apply Axa rfl rfl rfl ‹_›; (focus (intro HX hHX; simp -implicitDefEqProofs (disch := first | omega | (simp only [qd] <;> omega)) only [xq, ↓xp, qc, Nat.reduceAdd, List.range, List.range.loop, fine, Nat.reduceEqDiff, ↓reduceIte, yielded, reduceCtorEq, Nat.reduceLT, Nat.reduceMul, Nat.reduceSub, one, Nat.reduceLeDiff, Aqa, Axh, aq, ↓ap, qe0, qe1, qe2, *, -hK, Aq1, hHX _ _ vvb3] <;> (first | exact rfl | exact ⟨rfl, rfl⟩ | exact ⟨rfl, trivial⟩))); simp -implicitDefEqProofs (disch := first | omega | (simp only [qd] <;> omega)) only [Aqn, Aqc])
 (apply Axa rfl rfl rfl ‹_›; (focus (intro HX hHX; simp -implicitDefEqProofs (disch := first | omega | (simp only [qd] <;> omega)) only [xq, ↓xp, qc, Nat.reduceAdd, List.range, List.range.loop, fine, Nat.reduceEqDiff, ↓reduceIte, yielded, reduceCtorEq, Nat.reduceLT, Nat.reduceMul, Nat.reduceSub, one, Nat.reduceLeDiff, Aqa, Axh, aq, ↓ap, qe0, qe1, qe2, *, -hK, Azj]; exact hfw HX)); simp -implicitDefEqProofs (disch := first | omega | (simp only [qd] <;> omega)) only [Aqn, Aqc])
 (apply Axa rfl rfl rfl ‹_›; (focus (intro HX hHX; simp -implicitDefEqProofs (disch := first | omega | (simp only [qd] <;> omega)) only [xq, ↓xp, qc, Nat.reduceAdd, List.range, List.range.loop, fine, Nat.reduceEqDiff, ↓reduceIte, yielded, reduceCtorEq, Nat.reduceLT, Nat.reduceMul, Nat.reduceSub, one, Nat.reduceLeDiff, Aqa, Axh, aq, ↓ap, qe0, qe1, qe2, *, -hK, Azj]; exact hov HX hHX)); simp -implicitDefEqProofs (disch := first | omega | (simp only [qd] <;> omega)) only [Aqn, Aqc])
 refine Axf ?_
 (refine @unH _ ?_; refine zX Axh ?_)
 intro bb hbb
 refine ⟨.inr fun _ => Hp.le_set hbb, ?_⟩
 have vbb : (H3.set bb (.cells #[.int .i64 0, .int .i64 0, .bool false] 120 (0, 0))) bb = _ := Aqw
 refine Axf ?_
 (refine @unH _ ?_; refine zX Axh ?_)
 refine ⟨.inl (by decide), ?_⟩
 clear vbb hle0
 refine Ajv (hK _ _ ?_)
 clear hK K
 (try simp only [nq, ↓reduceIte, Nat.reduceEqDiff])
 have l34 := Hp.le_set (o := .cells #[.int .i64 blo, .int .i64 bhi, .bool bsm] 120 (0, 0)) hbb
 have vbb4 : (H3.set bb (.cells #[.int .i64 blo, .int .i64 bhi, .bool bsm] 120 (0, 0))) bb = _ := Aqw
 generalize Hp.set H3 bb _ = H4 at l34 vbb4 ⊢
 have vvb4 := l34 _ _ vvb3
 have l04 := Hp.le_trans l03 l34
 clear l34 vvb3 hv3 hbb hov hfw
 refine Aql ?_
 (refine Azz 7 [(true, 0), (true, 1), (true, 2), (true, 3), (true, 4), (true, 5), (true, 6)] (by kernel_rfl) (by kernel_rfl) (by simp) (by kernel_rfl) ?_; intro K hK; (iterate 7 (refine @unH _ ?_; refine z3 Axh ?_)); refine Axx (hK _ _ ?_); clear hK K; (try simp only [nq, ↓reduceIte, Nat.reduceEqDiff]))
 (refine @unH _ ?_; refine zA Axh ?_; (repeat (refine inC ?_; intro hc)); try (refine inK ?_; intro K hK))
 have hW2 : widF places start xss = bhi - blo := hW
 have hst0 : (Aj2 (bhi - blo) (askM places start xss) xss 0) = (-1, bhi - blo) := rfl
 have hask : Aqy (askF places start xss = Aj2 (bhi - blo) (askM places start xss) xss xss.length) := by
  show askF places start xss = _
  unfold askF
  rw [hW2]
 clear hW hW2 hbd vbb4
 generalize askF places start xss = Z at *
 generalize bhi - blo = W0 at *
 refine Aq9 (fun w a' H' => ∃ e i, w = xss.length - i /\ i <= xss.length /\ a' = act 85 e [] /\ e 1 = .pointer (some ⟨vb, 0, none⟩) /\ e 2 = .int .i64 (Aj2 W0 (askM places start xss) xss i).1 /\ e 3 = .int .i64 (Aj2 W0 (askM places start xss) xss i).2 /\ e 28 = .slice ca xss.length cc /\ e 29 = .int .i64 xss.length /\ e 30 = .int .i64 (i : Nat) /\
  H' vb = some (true, .cells #[.int .i64 places, .int .i64 pieces, .slice sa sn sc, .slice ca xss.length cc] 25 (0, 0)) /\ H.le H') (n := xss.length) ?_ ?_
 ·exact ⟨_, 0, by omega, by omega, rfl, rfl, rfl, rfl, rfl, rfl, rfl, vvb4, l04⟩
 ·clear vvb4 l04 l03 H4 hst0
  rintro w a' H5 ⟨e, i, rfl, hi, rfl, e1, e2, e3, e28, e29, e30, vvb5, l05⟩
  have hv5 := hv.le l05
  have h8 := hv.few
  by_cases hlt : i < xss.length
  ·have hxi := List.getElem?_eq_getElem hlt
   have hgi : xss.getD i [] = xss[i] := by simp [List.getD, hxi]
   have hci := hv.ok.2.2.2.2.2.2.2 _ (List.getElem_mem hlt)
   have hstep : Aj2 W0 (askM places start xss) xss (i + 1) = if xss[i].length < 2 then Aj2 W0 (askM places start xss) xss i else if Bkc (fun p => widF places start (Azs xss i p)) xss[i] < (Aj2 W0 (askM places start xss) xss i).2 then ((i : Int), Bkc (fun p => widF places start (Azs xss i p)) xss[i]) else Aj2 W0 (askM places start xss) xss i := by
    simp only [Aj2, askM, hgi]
   obtain ⟨_, _, hve, _, hgx⟩ := id hv5.calls
   cases hve
   obtain ⟨cb, co, cp, cs, cf, rv, rfl, hcb, hrv, hrl⟩ := hgx i xss[i] hxi
   have hil := fun p (hp : p ∈ xss[i]) => Cve (Bjf hv.ok hxi hp).1 (by rw [(Bjf hv.ok hxi hp).2]; exact hv.few)
   have hkx := fun p (hp : p ∈ xss[i]) => Bjf hv.ok hxi hp
   clear hgx
   have hll : xss[i].length <= 6 := by
    have := By7 pieces xss[i] 0 hci.2.1 (fun x hx => by have := hci.2.2 x hx; have := hv.ok.2.2.1; omega)
    have := hv.ok.2.2.2.1
    omega
   generalize xss[i] = l at *
   obtain ⟨la, lc, rfl, hlc, hlx⟩ := id hrl
   generalize hS0 : Aj2 W0 (askM places start xss) xss i = S0 at *
   generalize hS1 : Aj2 W0 (askM places start xss) xss (i + 1) = S1 at *
   replace hstep : Aqy _ := hstep
   replace hS0 : Aqy _ := hS0
   replace hS1 : Aqy _ := hS1
   replace hxi : Aqy _ := hxi
   replace hil : Aqy _ := hil
   replace hkx : Aqy _ := hkx
   by_cases h2 : l.length < 2
   ·have hS : Aj2 W0 (askM places start xss) xss (i + 1) = S0 := by
     have h : S1 = if l.length < 2 then S0 else _ := hstep
     rw [show Aj2 W0 (askM places start xss) xss (i + 1) = S1 from hS1, h, if_pos h2]
    replace hS : Aqy _ := hS
    (refine @unH _ ?_; refine zA Axh ?_; (repeat (refine inC ?_; intro hc)); try (refine inK ?_; intro K hK))
    exact ⟨_, by omega, _, i + 1, rfl, hlt, rfl, e1, by rw [show Aj2 W0 (askM places start xss) xss (i + 1) = S0 from hS]; exact e2, by rw [show Aj2 W0 (askM places start xss) xss (i + 1) = S0 from hS]; exact e3, e28, e29, rfl, vvb5, l05⟩
   ·(refine @unH _ ?_; refine zA Axh ?_; (repeat (refine inC ?_; intro hc)); try (refine inK ?_; intro K hK))
    refine Aq9 (fun w a' H' => ∃ e k, w = l.length - k /\ k <= l.length /\ a' = act 85 e [] /\ e 1 = .pointer (some ⟨vb, 0, none⟩) /\ e 2 = .int .i64 S0.1 /\ e 3 = .int .i64 S0.2 /\ e 7 = .int .i64 (i : Nat) /\ e 9 = .int .i64 (Bkc (fun p => widF places start (Azs xss i p)) (l.take k)) /\ e 28 = .slice (some ⟨cb, co, none⟩) xss.length cc /\ e 29 = .int .i64 xss.length /\ e 30 = .int .i64 (i : Nat) /\ e 38 = .slice la l.length lc /\ e 39 = .int .i64 l.length /\ e 40 = .int .i64 (k : Nat) /\
     H' vb = some (true, .cells #[.int .i64 places, .int .i64 pieces, .slice sa sn sc, .slice (some ⟨cb, co, none⟩) xss.length cc] 25 (0, 0)) /\ H.le H' /\ H5.le H') (n := l.length) ?_ ?_
    ·exact ⟨_, 0, by omega, by omega, rfl, e1, e2, e3, rfl, rfl, e28, e29, e30, rfl, rfl, rfl, vvb5, l05, Hp.le_refl _⟩
    ·rintro w a' H6 ⟨e, k, rfl, hk, rfl, e1, e2, e3, e7, e9, e28, e29, e30, e38, e39, e40, vvb6, l06, l56⟩
     by_cases hkl : k < l.length
     ·obtain ⟨pb, po, pp, pc, pf, rfl, hpb, hpx⟩ := hlx k l[k] (List.getElem?_eq_getElem hkl)
      have hpm := List.getElem_mem hkl
      have htake : l.take (k + 1) = l.take k ++ [l[k]] := by rw [List.take_add_one, List.getElem?_eq_getElem hkl]; rfl
      have hpb6 := l56 _ _ hpb
      have hv6 := hv.le l06
      generalize l[k] = p at *
      replace htake : Aqy _ := htake
      have hil2 := (show ∀ p, p ∈ l -> _ from hil) p hpm
      have hkx2 := (show ∀ p, p ∈ l -> _ from hkx) p hpm
      replace hpm : Aqy _ := hpm
      replace hil2 : Aqy _ := hil2
      replace hkx2 : Aqy _ := hkx2
      clear hlx hcb hrv hv5 vvb5
      (refine @unH _ ?_; refine zA Axh ?_; (repeat (refine inC ?_; intro hc)); try (refine inK ?_; intro K hK))
      (intro xb hxb; generalize hG : Hp.set _ xb _ = H7; have lH7 := Aqh hG hxb; have vxb := Aqf hG; clear hG)
      have vvb7 := lH7 _ _ vvb6
      have hv7 := hv6.le lH7
      have l57 := Hp.le_trans l56 lH7
      have l07 := Hp.le_trans l06 lH7
      have hxb0 : H6 xb = none := hxb
      have nvx : vb ≠ xb := Ax8 vvb6 hxb
      obtain ⟨vs, hrows, hcells, hex⟩ := hv6.calls.vals
      have hone : ∀ u ∈ vs, one u = true := hrows.one
      clear hpb6 hv6 vvb6 hpb hil hstep hS0 hS1
      ((try (refine @unH _ ?_; refine Dkg ?_)); (try (refine hK _ _ ?_; clear hK K; (try simp only [nq, ↓reduceIte, Nat.reduceEqDiff]))); refine @unH _ ?_; refine Dkh ?_; (repeat (refine inC ?_; intro hc)); try (refine inK ?_; intro K hK))
      intro g1 hg1 g2 hg2
      replace hg2 : (Hp.set H7 g1 (.cells #[.int .i64 p] 3 (0, 0))) g2 = none := hg2
      generalize hG : Hp.set H7 g1 _ = H8 at hg2 ⊢
      have lH8 := Aqh hG hg1
      have vg1 := Aqf hG
      clear hG
      generalize hG : Hp.set H8 g2 _ = H9
      have lH9 := Aqh hG hg2
      have vg2 := Aqf hG
      clear hG
      have vg19 := lH9 _ _ vg1
      have l79 := Hp.le_trans lH8 lH9
      have l69 := Hp.le_trans lH7 l79
      have l59 := Hp.le_trans l57 l79
      have l09 := Hp.le_trans l07 l79
      have vvb9 := l79 _ _ vvb7
      have vxb9 := l79 _ _ vxb
      have hp1 : SlI H9 (.slice (some ⟨g1, 0, none⟩) 1 1) [p] := Ajq (xs := [p]) vg19 rfl
      have nvx' := nvx.symm
      clear vg1 lH7 lH8 lH9 hg1 hg2 vvb7 vxb l79 hv7 l57 l07
      refine By4 Tryz.underlying23 Tryz.sizeOf22 Tryz.zeroValue22 rfl Tryz.typeInfo22 (by decide) (by decide) (cs := vs.take i) (news := [.slice (some ⟨g1, 0, none⟩) 1 1]) (n := i) (m := 1) (by rw [List.length_take, hrows.1]; omega) (fun j u hj => Dq0 l69 (hcells j u ?_)) rfl (by omega) (fun j u hj => ?_) (by omega) _ _ _ _ (fun v2 H10 hrow10 l910 => ?_)
      ·have hji : j < i := by have := (List.getElem?_eq_some_iff.1 hj).1; simp at this; omega
       rwa [List.getElem?_take_of_lt hji] at hj
      ·rw [Nat.zero_add, cell_of vg2]
       simpa using hj
      have vxb10 := l910 _ _ vxb9
      have vvb10 := l910 _ _ vvb9
      have hp10 := hp1.le l910
      have hrow6 := hrow10.base (Lex.of l69)
      have l610 := Hp.le_trans l69 l910
      clear hrow10 hp1 vvb9 vxb9 l69 l59 l09 l910 vg2 vg19
      have hl2 : (vs.take i ++ [Value.slice (some ⟨g1, 0, none⟩) 1 1]).length = i + 1 := by rw [List.length_append, List.length_take, hrows.1, List.length_cons, List.length_nil]; omega
      obtain ⟨v2a, v2c, rfl⟩ := hrow6.len
      rw [hl2] at hrow6 ⊢
      ((try (refine @unH _ ?_; refine zX Axh ?_)); (try (refine hK _ _ ?_; clear hK K; (try simp only [nq, ↓reduceIte, Nat.reduceEqDiff]))); refine @unH _ ?_; refine zA Axh ?_; (repeat (refine inC ?_; intro hc)); try (refine inK ?_; intro K hK))
      generalize hG : Hp.set H10 xb _ = H11
      have vxb11 := Aqf hG
      have vvb11 := Aze hG vvb10 nvx
      have lex11 : Lex none H6 H11 := by rw [<- hG]; exact (Lex.of l610).own hxb0
      have hrow11 : RowX none H6 H11 (.slice v2a (i + 1) v2c) 22 (vs.take i ++ [Value.slice (some ⟨g1, 0, none⟩) 1 1]) := by rw [<- hG]; exact hrow6.own hxb0 vxb10 (by decide)
      have hp11 : SlI H11 (.slice (some ⟨g1, 0, none⟩) 1 1) [p] := by rw [<- hG]; exact hp10.set (fun p c fr e => by rw [vxb10] at e; cases e)
      clear hG hrow6 hp10 vxb10 vvb10 l610
      have hso : ∃ so : Nat, (if cc = ((i : Int) + 1).toNat then some (⟨cb, co, none⟩ : Addr) else some ⟨cb, co + ((i : Int) + 1).toNat, none⟩) = some ⟨cb, so, none⟩ /\ (0 < xss.length - ((i : Int) + 1).toNat -> so = co + (i + 1)) := by
       by_cases hc1 : cc = ((i : Int) + 1).toNat
       ·exact ⟨co, by rw [if_pos hc1], fun h => by omega⟩
       ·exact ⟨co + ((i : Int) + 1).toNat, by rw [if_neg hc1], fun _ => by omega⟩
      obtain ⟨so, hso, hso2⟩ := hso
      refine Aj0 (fun HX => HX xb = some (true, .cells #[.int .i64 places, .int .i64 pieces, .slice sa sn sc, .slice v2a (i + 1) v2c] 25 (0, 0)) /\ HX vb = some (true, .cells #[.int .i64 places, .int .i64 pieces, .slice sa sn sc, .slice (some ⟨cb, co, none⟩) xss.length cc] 25 (0, 0))) [7, 8, 9] (.take 0 (.take 1 (.take 2 (.take 3 (.take 4 (.take 5 (.take 6 (.one 7 (.one 8 (.one 9 .nil)))))))))) (by kernel_rfl) (by kernel_rfl) (by decide) (by kernel_rfl) ?_; intro K hK
      have hSx := And.intro vxb11 vvb11
      (iterate 7 (apply Axa rfl rfl rfl ‹_›; (focus (intro HX hHX; simp -implicitDefEqProofs (disch := first | omega | (simp only [qd] <;> omega)) only [xq, ↓xp, qc, Nat.reduceAdd, List.range, List.range.loop, fine, Nat.reduceEqDiff, ↓reduceIte, yielded, reduceCtorEq, Nat.reduceLT, Nat.reduceMul, Nat.reduceSub, one, Nat.reduceLeDiff, Aqa, Axh, aq, ↓ap, qe0, qe1, qe2, *, -hK, Aq1, hHX.1, hHX.2] <;> (first | exact rfl | exact ⟨rfl, rfl⟩ | exact ⟨rfl, trivial⟩))); simp -implicitDefEqProofs (disch := first | omega | (simp only [qd] <;> omega)) only [Aqn, Aqc]))
      refine Axf ?_
      (refine @unH _ ?_; refine zX Axh ?_)
      have hsx : rowB (.slice v2a (i + 1) v2c) ≠ some xb := hrow11.rowB_ne fun c fr h => by rw [vxb11] at h; cases h
      have hsv : rowB (.slice v2a (i + 1) v2c) ≠ some vb := hrow11.rowB_ne fun c fr h => by rw [vvb11] at h; cases h
      refine By6 Tryz.underlying23 Tryz.sizeOf22 Tryz.zeroValue22 rfl Tryz.typeInfo22 (by decide) (by decide) hrow11 (news := vs.drop (i + 1)) (by rw [List.length_drop, hrows.1]; omega) (fun hm => ⟨?_, ?_, fun j u hj => ?_⟩) (fun u hu => hone u (List.mem_of_mem_drop hu)) (by rw [hl2]; omega) _ _ _ _ (fun v3 H12 hrow12 hkeep => ?_)
      ·exact (hex (fun h => by rw [h] at hlt; simp at hlt)).imp fun u hu => lex11.toLe _ _ hu
      ·intro h
       obtain ⟨u, hu⟩ := hex (fun h => by rw [h] at hlt; simp at hlt)
       rw [hrow11.rowB_new h] at hu
       cases hu
      ·rw [List.getElem?_drop] at hj
       rw [hso2 hm, Nat.add_assoc]
       exact Dq0 lex11.toLe (hcells _ _ hj)
      have vxb12 := hkeep _ _ vxb11 hsx
      have vvb12 := hkeep _ _ vvb11 hsv
      have hp12 : SlI H12 (.slice (some ⟨g1, 0, none⟩) 1 1) [p] := hp11.move fun x q c fr hx => hkeep _ _ hx (hrow11.rowB_ne fun c' fr' h => by rw [hx] at h; simp only [Option.some.injEq, Prod.mk.injEq, Obj.cells.injEq] at h; exact absurd h.2.2.1 (by decide))
      have hl3 : ((vs.take i ++ [Value.slice (some ⟨g1, 0, none⟩) 1 1]) ++ vs.drop (i + 1)).length = xss.length := by rw [List.length_append, hl2, List.length_drop, hrows.1]; omega
      obtain ⟨v3a, v3c, rfl⟩ := hrow12.len
      rw [hl3] at hrow12 ⊢
      clear hkeep hsx hsv hrow11 hp11 vxb11 vvb11 lex11 hSx hl2
      (refine @unH _ ?_; refine zX Axh ?_)
      refine ⟨.inl (by decide), ?_⟩
      refine Axf ?_
      (refine @unH _ ?_; refine zX Axh ?_)
      refine ⟨.inl (by decide), ?_⟩
      refine Axf ?_
      (refine @unH _ ?_; refine zX Axh ?_)
      refine ⟨.inl (by decide), ?_⟩
      refine Ajv (hK _ _ ?_)
      clear hK K hso hso2
      (try simp only [nq, ↓reduceIte, Nat.reduceEqDiff])
      generalize hG : Hp.set H12 xb _ = H13
      have vxb13 := Aqf hG
      have vvb13 := Aze hG vvb12 nvx
      have hrow13 : RowX none H6 H13 (.slice v3a xss.length v3c) 22 ((vs.take i ++ [Value.slice (some ⟨g1, 0, none⟩) 1 1]) ++ vs.drop (i + 1)) := by rw [<- hG]; exact hrow12.own hxb0 vxb12 (by decide)
      have hp13 : SlI H13 (.slice (some ⟨g1, 0, none⟩) 1 1) [p] := by rw [<- hG]; exact hp12.set (fun p c fr e => by rw [vxb12] at e; cases e)
      clear hG hrow12 hp12 vxb12 vvb12
      have l613 := hrow13.1.toLe
      have l013 := Hp.le_trans l06 l613
      have l513 := Hp.le_trans l56 l613
      have hR13 : Rows H13 ((vs.take i ++ [Value.slice (some ⟨g1, 0, none⟩) 1 1]) ++ vs.drop (i + 1)) (Azs xss i p) := by
       have h1 := hrows.mono fun v xs h => h.le l613
       have h2 := ((h1.take i).snoc hp13).app (h1.drop (i + 1))
       rw [List.append_assoc (xss.take i)] at h2
       exact h2
      have hcs13 := hrow13.rows hR13
      have hst13 := hv.st.le l013
      clear hrow13 hR13 hp13 hrows hcells hex hone l613
      have hkx3 : Aje places pieces start (Azs xss i p) /\ (Azs xss i p).length = xss.length := hkx2
      have hov := fun HX (hX : H13.le HX) => Azo (Bq5 HX places pieces _ _ start (Azs xss i p) _ _ (hst13.le hX) (hcs13.le hX) hkx3.1 (by rw [hkx3.2]; exact h8) (Awa HX places start hv.stA))
      have hfw := fun HX => Azo (Ayg (.wg Tryz.prog) HX)
      replace hov : Aqy _ := hov
      replace hfw : Aqy _ := hfw
      have hWp : Aqy (widF places start (Azs xss i p) = (bdT (fewF places start) (Aqz (Azs xss i p))).hi - (bdT (fewF places start) (Aqz (Azs xss i p))).lo) := rfl
      have hbd : 0 <= (bdT (fewF places start) (Aqz (Azs xss i p))).lo /\ (bdT (fewF places start) (Aqz (Azs xss i p))).lo <= (bdT (fewF places start) (Aqz (Azs xss i p))).hi /\ (bdT (fewF places start) (Aqz (Azs xss i p))).hi <= 8 := hil2
      clear hkx2 hil2 hkx3 hcs13 hst13
      generalize bdT (fewF places start) (Aqz (Azs xss i p)) = B at *
      obtain ⟨plo, phi, psm⟩ := B
      simp only [bdV] at hov
      simp only at hbd
      refine Aql ?_
      refine Aj0 (fun HX => H13.le HX) [4] (.take 0 (.take 1 (.take 2 (.one 3 (.one 4 .nil))))) (by kernel_rfl) (by kernel_rfl) (by decide) (by kernel_rfl) ?_; intro K hK
      have hle0 : H13.le H13 := Hp.le_refl _
      (apply Axa rfl rfl rfl ‹_›; (focus (intro HX hHX; simp -implicitDefEqProofs (disch := first | omega | (simp only [qd] <;> omega)) only [xq, ↓xp, qc, Nat.reduceAdd, List.range, List.range.loop, fine, Nat.reduceEqDiff, ↓reduceIte, yielded, reduceCtorEq, Nat.reduceLT, Nat.reduceMul, Nat.reduceSub, one, Nat.reduceLeDiff, Aqa, Axh, aq, ↓ap, qe0, qe1, qe2, *, -hK, Aq1, hHX _ _ vxb13] <;> (first | exact rfl | exact ⟨rfl, rfl⟩ | exact ⟨rfl, trivial⟩))); simp -implicitDefEqProofs (disch := first | omega | (simp only [qd] <;> omega)) only [Aqn, Aqc])
      (apply Axa rfl rfl rfl ‹_›; (focus (intro HX hHX; simp -implicitDefEqProofs (disch := first | omega | (simp only [qd] <;> omega)) only [xq, ↓xp, qc, Nat.reduceAdd, List.range, List.range.loop, fine, Nat.reduceEqDiff, ↓reduceIte, yielded, reduceCtorEq, Nat.reduceLT, Nat.reduceMul, Nat.reduceSub, one, Nat.reduceLeDiff, Aqa, Axh, aq, ↓ap, qe0, qe1, qe2, *, -hK, Azj]; exact hfw HX)); simp -implicitDefEqProofs (disch := first | omega | (simp only [qd] <;> omega)) only [Aqn, Aqc])
      (apply Axa rfl rfl rfl ‹_›; (focus (intro HX hHX; simp -implicitDefEqProofs (disch := first | omega | (simp only [qd] <;> omega)) only [xq, ↓xp, qc, Nat.reduceAdd, List.range, List.range.loop, fine, Nat.reduceEqDiff, ↓reduceIte, yielded, reduceCtorEq, Nat.reduceLT, Nat.reduceMul, Nat.reduceSub, one, Nat.reduceLeDiff, Aqa, Axh, aq, ↓ap, qe0, qe1, qe2, *, -hK, Azj]; exact hov HX hHX)); simp -implicitDefEqProofs (disch := first | omega | (simp only [qd] <;> omega)) only [Aqn, Aqc])
      refine Axf ?_
      (refine @unH _ ?_; refine zX Axh ?_)
      intro qb hqb
      refine ⟨.inr fun _ => Hp.le_set hqb, ?_⟩
      have vqb : (H13.set qb (.cells #[.int .i64 0, .int .i64 0, .bool false] 120 (0, 0))) qb = _ := Aqw
      refine Axf ?_
      (refine @unH _ ?_; refine zX Axh ?_)
      refine ⟨.inl (by decide), ?_⟩
      clear vqb hle0
      refine Ajv (hK _ _ ?_)
      clear hK K
      (try simp only [nq, ↓reduceIte, Nat.reduceEqDiff])
      have l134 := Hp.le_set (o := .cells #[.int .i64 plo, .int .i64 phi, .bool psm] 120 (0, 0)) hqb
      have vqb4 : (H13.set qb (.cells #[.int .i64 plo, .int .i64 phi, .bool psm] 120 (0, 0))) qb = _ := Aqw
      generalize Hp.set H13 qb _ = H14 at l134 vqb4 ⊢
      have vvb14 := l134 _ _ vvb13
      have l014 := Hp.le_trans l013 l134
      have l514 := Hp.le_trans l513 l134
      clear l134 vvb13 vxb13 hqb hov hfw l013 l513
      (refine @unH _ ?_; refine zA Axh ?_; (repeat (refine inC ?_; intro hc)); try (refine inK ?_; intro K hK))
      refine ⟨l.length - (k + 1), by omega, _, k + 1, rfl, hkl, rfl, e1, e2, e3, e7, ?_, e28, e29, e30, e38, e39, rfl, vvb14, l014, l514⟩
      show Value.int .i64 (if Bkc (fun p => widF places start (Azs xss i p)) (l.take k) < phi - plo then phi - plo else Bkc (fun p => widF places start (Azs xss i p)) (l.take k)) = _
      have hW3 : widF places start (Azs xss i p) = phi - plo := hWp
      rw [show l.take (k + 1) = l.take k ++ [p] from htake]
      unfold Bkc
      rw [Cjk, hW3]
     ·obtain rfl : k = l.length := by omega
      rw [List.take_length] at e9
      have hst2 : S1 = if Bkc (fun p => widF places start (Azs xss i p)) l < S0.2 then ((i : Int), Bkc (fun p => widF places start (Azs xss i p)) l) else S0 := by
       have h : S1 = if l.length < 2 then S0 else _ := hstep
       rw [h, if_neg h2]
      clear hstep hlx
      generalize Bkc (fun p => widF places start (Azs xss i p)) l = M at *
      replace hst2 : Aqy _ := hst2
      by_cases hM : M < S0.2
      ·have hS : Aj2 W0 (askM places start xss) xss (i + 1) = ((i : Int), M) := by
        have h : S1 = if M < S0.2 then ((i : Int), M) else S0 := hst2
        rw [show Aj2 W0 (askM places start xss) xss (i + 1) = S1 from hS1, h, if_pos hM]
       replace hS : Aqy _ := hS
       clear hst2 hS1
       (refine @unH _ ?_; refine zA Axh ?_; (repeat (refine inC ?_; intro hc)); try (refine inK ?_; intro K hK))
       exact ⟨_, by omega, _, i + 1, rfl, hlt, rfl, e1, by rw [show Aj2 W0 (askM places start xss) xss (i + 1) = _ from hS]; rfl, by rw [show Aj2 W0 (askM places start xss) xss (i + 1) = _ from hS]; rfl, e28, e29, rfl, vvb6, l06⟩
      ·have hS : Aj2 W0 (askM places start xss) xss (i + 1) = S0 := by
        have h : S1 = if M < S0.2 then ((i : Int), M) else S0 := hst2
        rw [show Aj2 W0 (askM places start xss) xss (i + 1) = S1 from hS1, h, if_neg hM]
       replace hS : Aqy _ := hS
       clear hst2 hS1
       (refine @unH _ ?_; refine zA Axh ?_; (repeat (refine inC ?_; intro hc)); try (refine inK ?_; intro K hK))
       exact ⟨_, by omega, _, i + 1, rfl, hlt, rfl, e1, by rw [show Aj2 W0 (askM places start xss) xss (i + 1) = _ from hS]; exact e2, by rw [show Aj2 W0 (askM places start xss) xss (i + 1) = _ from hS]; exact e3, e28, e29, rfl, vvb6, l06⟩
  ·obtain rfl : i = xss.length := by omega
   rw [<- show Z = Aj2 W0 (askM places start xss) xss xss.length from hask] at e2 e3
   clear hask
   by_cases hz : Z.1 < 0
   ·(refine @unH _ ?_; refine zA Axh ?_; (repeat (refine inC ?_; intro hc)); try (refine inK ?_; intro K hK))
    (refine @unH _ ?_; refine zC Tryz.results51 ?_)
    rw [if_pos hz, if_pos hz, if_pos hz]
    exact ⟨rfl, l05⟩
   ·(refine @unH _ ?_; refine zA Axh ?_; (repeat (refine inC ?_; intro hc)); try (refine inK ?_; intro K hK))
    (refine @unH _ ?_; refine zC Tryz.results51 ?_)
    rw [if_neg hz, if_neg hz, if_neg hz]
    exact ⟨rfl, l05⟩
def Bxz := And.intro (fun H => Aq0 (H := H) (P := Tryz.prog) (h := Tryz.zeroValue25)) (And.intro @Ajh (And.intro @Axq (And.intro @Bq0 (And.intro @Awn (fun H => Aq3 (H := H) Tryz.sizeOf25)))))
def Cxj := @Azx
def Cxk := @Azx
def Bx0 := And.intro (fun H => Aq0 (H := H) (P := Tryz.prog) (h := Tryz.zeroValue25)) (And.intro @Axq (And.intro @Ajh (And.intro @Bkb (And.intro @Awn (fun H => Aq3 (H := H) Tryz.sizeOf25)))))
theorem Ajn : Aje 2 4 [0, 1] [[2], [0], [1, 3], [0]] := by unfold Aje Bx1; decide
theorem Az2 (main : Md) (H : Hp) : FnX Tryz.prog main 67 #[] H fun e H' => ∃ sv cv, e = .returned (.agg #[.int .i64 2, .int .i64 4, sv, cv]) /\ H.le H' /\ Akv H' 2 4 sv cv [0, 1] [[2], [0], [1, 3], [0]] := by
 refine Aqk (args := []) Tryz.func67 rfl Tryz.ntmps67 (by simp) ?_
 (refine @unH _ ?_; refine zA Bxz ?_; (repeat (refine inC ?_; intro hc)); try (refine inK ?_; intro K hK))
 (intro rb hrb; generalize hG : Hp.set _ rb _ = H0; have lH0 := Aqh hG hrb; have vrb := Aqf hG; clear hG)
 have h0rb := hrb
 ((try (refine @unH _ ?_; refine zX Bxz ?_)); (try (refine hK _ _ ?_; clear hK K; (try simp only [nq, ↓reduceIte, Nat.reduceEqDiff]))); refine @unH _ ?_; refine zA Bxz ?_; (repeat (refine inC ?_; intro hc)); try (refine inK ?_; intro K hK))
 intro b0 hb0 b1 hb1 b2 hb2 b3 hb3 b4 hb4 b5 hb5
 replace hb1 : (Hp.set H0 b0 _) b1 = none := hb1
 replace hb2 : (Hp.set (Hp.set H0 b0 _) b1 _) b2 = none := hb2
 replace hb3 : (Hp.set (Hp.set (Hp.set H0 b0 _) b1 _) b2 _) b3 = none := hb3
 replace hb4 : (Hp.set (Hp.set (Hp.set (Hp.set H0 b0 _) b1 _) b2 _) b3 _) b4 = none := hb4
 replace hb5 : (Hp.set (Hp.set (Hp.set (Hp.set (Hp.set H0 b0 _) b1 _) b2 _) b3 _) b4 _) b5 = none := hb5
 generalize hG : Hp.set H0 b0 _ = HA1 at hb1 hb2 hb3 hb4 hb5 ⊢
 have lHA1 := Aqh hG hb0
 have vb0 := Aqf hG
 clear hG
 generalize hG : Hp.set HA1 b1 _ = HA2 at hb2 hb3 hb4 hb5 ⊢
 have lHA2 := Aqh hG hb1
 have vb1 := Aqf hG
 clear hG
 generalize hG : Hp.set HA2 b2 _ = HA3 at hb3 hb4 hb5 ⊢
 have lHA3 := Aqh hG hb2
 have vb2 := Aqf hG
 clear hG
 generalize hG : Hp.set HA3 b3 _ = HA4 at hb4 hb5 ⊢
 have lHA4 := Aqh hG hb3
 have vb3 := Aqf hG
 clear hG
 generalize hG : Hp.set HA4 b4 _ = HA5 at hb5 ⊢
 have lHA5 := Aqh hG hb4
 have vb4 := Aqf hG
 clear hG
 generalize hG : Hp.set HA5 b5 _ = HA6
 have lHA6 := Aqh hG hb5
 have vb5 := Aqf hG
 clear hG
 have vr0 := vrb
 have nr0 : rb ≠ b0 := Ax8 vr0 hb0
 have vr1 := lHA1 _ _ vr0
 have nr1 : rb ≠ b1 := Ax8 vr1 hb1
 have vr2 := lHA2 _ _ vr1
 have nr2 : rb ≠ b2 := Ax8 vr2 hb2
 have vr3 := lHA3 _ _ vr2
 have nr3 : rb ≠ b3 := Ax8 vr3 hb3
 have vr4 := lHA4 _ _ vr3
 have nr4 : rb ≠ b4 := Ax8 vr4 hb4
 have vr5 := lHA5 _ _ vr4
 have nr5 : rb ≠ b5 := Ax8 vr5 hb5
 have vr6 := lHA6 _ _ vr5
 clear vr0 vr1 vr2 vr3 vr4 vr5 vr6
 have la5 := Hp.le_refl HA6
 have la4 := Hp.le_trans lHA6 la5
 have la3 := Hp.le_trans lHA5 la4
 have la2 := Hp.le_trans lHA4 la3
 have la1 := Hp.le_trans lHA3 la2
 have la0 := Hp.le_trans lHA2 la1
 have laa := Hp.le_trans lHA1 la0
 have s0 : SlI HA6 (.slice (some ⟨b0, 0, none⟩) 2 2) [0, 1] := Ajq (xs := [0, 1]) (la0 _ _ vb0) rfl
 have s1 : SlI HA6 (.slice (some ⟨b1, 0, none⟩) 1 1) [2] := Ajq (xs := [2]) (la1 _ _ vb1) rfl
 have s2 : SlI HA6 (.slice (some ⟨b2, 0, none⟩) 1 1) [0] := Ajq (xs := [0]) (la2 _ _ vb2) rfl
 have s3 : SlI HA6 (.slice (some ⟨b3, 0, none⟩) 2 2) [1, 3] := Ajq (xs := [1, 3]) (la3 _ _ vb3) rfl
 have s4 : SlI HA6 (.slice (some ⟨b4, 0, none⟩) 1 1) [0] := Ajq (xs := [0]) (la4 _ _ vb4) rfl
 have vrows := la5 _ _ vb5
 have hrows : SlR HA6 (.slice (some ⟨b5, 0, none⟩) 4 4) [[2], [0], [1, 3], [0]] := ⟨_, _, rfl, Nat.le_refl _, fun i xs hi => by
  match i, hi with
  | 0, hi => cases hi; exact ⟨b5, 0, _, _, _, _, rfl, vrows, rfl, s1⟩
  | 1, hi => cases hi; exact ⟨b5, 0, _, _, _, _, rfl, vrows, rfl, s2⟩
  | 2, hi => cases hi; exact ⟨b5, 0, _, _, _, _, rfl, vrows, rfl, s3⟩
  | 3, hi => cases hi; exact ⟨b5, 0, _, _, _, _, rfl, vrows, rfl, s4⟩
  | i + 4, hi => simp at hi⟩
 have vrb1 := laa _ _ vrb
 have lA : H.le HA6 := Hp.le_trans lH0 laa
 have n1 : HA6 rb ≠ none := by rw [vrb1]; simp
 have st : SlI HA6 (.slice (some ⟨b0, 0, none⟩) 2 2) [0, 1] := s0
 clear laa vrows la0 la1 la2 la3 la4 la5 lHA1 lHA2 lHA3 lHA4 lHA5 lHA6 vb0 vb1 vb2 vb3 vb4 vb5 s0 s1 s2 s3 s4 hb0 hb1 hb2 hb3 hb4 hb5 vrb lH0 hrb
 rw [if_neg nr5, if_neg nr4, if_neg nr3, if_neg nr2, if_neg nr1, if_neg nr0]
 ((try (refine @unH _ ?_; refine zX Bxz ?_)); (try (refine hK _ _ ?_; clear hK K; (try simp only [nq, ↓reduceIte, Nat.reduceEqDiff]))); refine @unH _ ?_; refine zA Bxz ?_; (repeat (refine inC ?_; intro hc)); try (refine inK ?_; intro K hK))
 (refine Ax7 ?_; (try simp only [nq, ↓reduceIte, Nat.reduceEqDiff]); rw [Axt, Az6 Tryz.results67 (by decide) (b := rb) (o := 0) rfl Tryz.underlying25 rfl Tryz.sizeOf25]; simp -implicitDefEqProofs (disch := first | omega | (simp only [qd] <;> omega)) only [xq, ↓xp, qc, Nat.reduceAdd, List.range, List.range.loop, fine, Nat.reduceEqDiff, ↓reduceIte, yielded, reduceCtorEq, Nat.reduceLT, Nat.reduceMul, Nat.reduceSub, one, Nat.reduceLeDiff, Aqa, Bxz, Aji])
 generalize hG : HA6.set rb _ = H9
 have hmv : ∀ x p c fr e, (e = 3 ∨ e = 22) -> HA6 x = some (p, .cells c e fr) -> H9 x = some (p, .cells c e fr) := fun x p c fr e he hx => by
  rw [<- hG, Aqp (fun h => ?_)]
  ·exact hx
  ·rw [h, vrb1] at hx
   simp only [Option.some.injEq, Prod.mk.injEq, Obj.cells.injEq] at hx
   have h9 := hx.2.2.1
   rcases he with rfl | rfl <;> exact absurd h9 (by decide)
 exact ⟨_, _, rfl, hG ▸ ((Lex.of lA : Lex none H HA6).own h0rb).toLe, st.move fun x p c fr hx => hmv x p c fr _ (.inl rfl) hx, hrows.move hmv, Ajn, by decide⟩
theorem Cwb : Aje 1 2 [0] [[0, 1], [0, 1]] := by unfold Aje Bx1; decide
theorem Bkv (main : Md) (H : Hp) : FnX Tryz.prog main 70 #[] H fun e H' => ∃ sv cv, e = .returned (.agg #[.int .i64 1, .int .i64 2, sv, cv]) /\ H.le H' /\ Akv H' 1 2 sv cv [0] [[0, 1], [0, 1]] := by
 refine Aqk (args := []) Tryz.func70 rfl Tryz.ntmps70 (by simp) ?_
 (refine @unH _ ?_; refine zA Bx0 ?_; (repeat (refine inC ?_; intro hc)); try (refine inK ?_; intro K hK))
 (intro rb hrb; generalize hG : Hp.set _ rb _ = H0; have lH0 := Aqh hG hrb; have vrb := Aqf hG; clear hG)
 have h0rb := hrb
 ((try (refine @unH _ ?_; refine zX Bx0 ?_)); (try (refine hK _ _ ?_; clear hK K; (try simp only [nq, ↓reduceIte, Nat.reduceEqDiff]))); refine @unH _ ?_; refine zA Bx0 ?_; (repeat (refine inC ?_; intro hc)); try (refine inK ?_; intro K hK))
 intro b0 hb0 b1 hb1 b2 hb2 b3 hb3
 replace hb1 : (Hp.set H0 b0 _) b1 = none := hb1
 replace hb2 : (Hp.set (Hp.set H0 b0 _) b1 _) b2 = none := hb2
 replace hb3 : (Hp.set (Hp.set (Hp.set H0 b0 _) b1 _) b2 _) b3 = none := hb3
 generalize hG : Hp.set H0 b0 _ = HA1 at hb1 hb2 hb3 ⊢
 have lHA1 := Aqh hG hb0
 have vb0 := Aqf hG
 clear hG
 generalize hG : Hp.set HA1 b1 _ = HA2 at hb2 hb3 ⊢
 have lHA2 := Aqh hG hb1
 have vb1 := Aqf hG
 clear hG
 generalize hG : Hp.set HA2 b2 _ = HA3 at hb3 ⊢
 have lHA3 := Aqh hG hb2
 have vb2 := Aqf hG
 clear hG
 generalize hG : Hp.set HA3 b3 _ = HA4
 have lHA4 := Aqh hG hb3
 have vb3 := Aqf hG
 clear hG
 have vr0 := vrb
 have nr0 : rb ≠ b0 := Ax8 vr0 hb0
 have vr1 := lHA1 _ _ vr0
 have nr1 : rb ≠ b1 := Ax8 vr1 hb1
 have vr2 := lHA2 _ _ vr1
 have nr2 : rb ≠ b2 := Ax8 vr2 hb2
 have vr3 := lHA3 _ _ vr2
 have nr3 : rb ≠ b3 := Ax8 vr3 hb3
 have vr4 := lHA4 _ _ vr3
 clear vr0 vr1 vr2 vr3 vr4
 have la3 := Hp.le_refl HA4
 have la2 := Hp.le_trans lHA4 la3
 have la1 := Hp.le_trans lHA3 la2
 have la0 := Hp.le_trans lHA2 la1
 have laa := Hp.le_trans lHA1 la0
 have s0 : SlI HA4 (.slice (some ⟨b0, 0, none⟩) 1 1) [0] := Ajq (xs := [0]) (la0 _ _ vb0) rfl
 have s1 : SlI HA4 (.slice (some ⟨b1, 0, none⟩) 2 2) [0, 1] := Ajq (xs := [0, 1]) (la1 _ _ vb1) rfl
 have s2 : SlI HA4 (.slice (some ⟨b2, 0, none⟩) 2 2) [0, 1] := Ajq (xs := [0, 1]) (la2 _ _ vb2) rfl
 have vrows := la3 _ _ vb3
 have hrows : SlR HA4 (.slice (some ⟨b3, 0, none⟩) 2 2) [[0, 1], [0, 1]] := ⟨_, _, rfl, Nat.le_refl _, fun i xs hi => by
  match i, hi with
  | 0, hi => cases hi; exact ⟨b3, 0, _, _, _, _, rfl, vrows, rfl, s1⟩
  | 1, hi => cases hi; exact ⟨b3, 0, _, _, _, _, rfl, vrows, rfl, s2⟩
  | i + 2, hi => simp at hi⟩
 have vrb1 := laa _ _ vrb
 have lA : H.le HA4 := Hp.le_trans lH0 laa
 have n1 : HA4 rb ≠ none := by rw [vrb1]; simp
 have st : SlI HA4 (.slice (some ⟨b0, 0, none⟩) 1 1) [0] := s0
 clear laa vrows la0 la1 la2 la3 lHA1 lHA2 lHA3 lHA4 vb0 vb1 vb2 vb3 s0 s1 s2 hb0 hb1 hb2 hb3 vrb lH0 hrb
 rw [if_neg nr3, if_neg nr2, if_neg nr1, if_neg nr0]
 ((try (refine @unH _ ?_; refine zX Bx0 ?_)); (try (refine hK _ _ ?_; clear hK K; (try simp only [nq, ↓reduceIte, Nat.reduceEqDiff]))); refine @unH _ ?_; refine zA Bx0 ?_; (repeat (refine inC ?_; intro hc)); try (refine inK ?_; intro K hK))
 (refine Ax7 ?_; (try simp only [nq, ↓reduceIte, Nat.reduceEqDiff]); rw [Axt, Az6 Tryz.results70 (by decide) (b := rb) (o := 0) rfl Tryz.underlying25 rfl Tryz.sizeOf25]; simp -implicitDefEqProofs (disch := first | omega | (simp only [qd] <;> omega)) only [xq, ↓xp, qc, Nat.reduceAdd, List.range, List.range.loop, fine, Nat.reduceEqDiff, ↓reduceIte, yielded, reduceCtorEq, Nat.reduceLT, Nat.reduceMul, Nat.reduceSub, one, Nat.reduceLeDiff, Aqa, Bx0, Aji])
 generalize hG : HA4.set rb _ = H9
 have hmv : ∀ x p c fr e, (e = 3 ∨ e = 22) -> HA4 x = some (p, .cells c e fr) -> H9 x = some (p, .cells c e fr) := fun x p c fr e he hx => by
  rw [<- hG, Aqp (fun h => ?_)]
  ·exact hx
  ·rw [h, vrb1] at hx
   simp only [Option.some.injEq, Prod.mk.injEq, Obj.cells.injEq] at hx
   have h9 := hx.2.2.1
   rcases he with rfl | rfl <;> exact absurd h9 (by decide)
 exact ⟨_, _, rfl, hG ▸ ((Lex.of lA : Lex none H HA4).own h0rb).toLe, st.move fun x p c fr hx => hmv x p c fr _ (.inl rfl) hx, hrows.move hmv, Cwb, by decide⟩
theorem Ak2 (main : Md) (H : Hp) : FnX Tryz.prog main 68 #[] H fun e H' => ∃ v, e = .returned v /\ H.le H' /\ SlI H' v [2, 0, 1, 0] := by
 refine Aqk (args := []) Tryz.func68 rfl Tryz.ntmps68 (by simp) ?_
 (refine @unH _ ?_; refine zA @Cxj ?_; (repeat (refine inC ?_; intro hc)); try (refine inK ?_; intro K hK))
 (intro rb hrb; generalize hG : Hp.set _ rb _ = H0; have lH0 := Aqh hG hrb; have vrb := Aqf hG; clear hG)
 ((try (refine @unH _ ?_; refine zX @Cxj ?_)); (try (refine hK _ _ ?_; clear hK K; (try simp only [nq, ↓reduceIte, Nat.reduceEqDiff]))); refine @unH _ ?_; refine zA @Cxj ?_; (repeat (refine inC ?_; intro hc)); try (refine inK ?_; intro K hK))
 (refine @unH _ ?_; refine z9 Tryz.results68 ?_)
 exact ⟨_, rfl, lH0, Ajq (xs := [2, 0, 1, 0]) vrb rfl⟩
theorem Cjg (main : Md) (H : Hp) : FnX Tryz.prog main 69 #[] H fun e H' => ∃ v, e = .returned v /\ H.le H' /\ SlI H' v [2, 0, 3, 0] := by
 refine Aqk (args := []) Tryz.func69 rfl Tryz.ntmps69 (by simp) ?_
 (refine @unH _ ?_; refine zA @Cxk ?_; (repeat (refine inC ?_; intro hc)); try (refine inK ?_; intro K hK))
 (intro rb hrb; generalize hG : Hp.set _ rb _ = H0; have lH0 := Aqh hG hrb; have vrb := Aqf hG; clear hG)
 ((try (refine @unH _ ?_; refine zX @Cxk ?_)); (try (refine hK _ _ ?_; clear hK K; (try simp only [nq, ↓reduceIte, Nat.reduceEqDiff]))); refine @unH _ ?_; refine zA @Cxk ?_; (repeat (refine inC ?_; intro hc)); try (refine inK ?_; intro K hK))
 (refine @unH _ ?_; refine z9 Tryz.results69 ?_)
 exact ⟨_, rfl, lH0, Ajq (xs := [2, 0, 3, 0]) vrb rfl⟩
theorem Ayb : Ajd [[2], [0], [1, 3], [0]] [2, 0, 1, 0] := by
 refine ⟨rfl, fun i t xs ht hx => ?_⟩
 match i, ht, hx with
 | 0, ht, hx => cases ht; cases hx; decide
 | 1, ht, hx => cases ht; cases hx; decide
 | 2, ht, hx => cases ht; cases hx; decide
 | 3, ht, hx => cases ht; cases hx; decide
 | i + 4, ht, hx => simp at ht
theorem Cy5 : Ajd [[2], [0], [1, 3], [0]] [2, 0, 3, 0] := by
 refine ⟨rfl, fun i t xs ht hx => ?_⟩
 match i, ht, hx with
 | 0, ht, hx => cases ht; cases hx; decide
 | 1, ht, hx => cases ht; cases hx; decide
 | 2, ht, hx => cases ht; cases hx; decide
 | 3, ht, hx => cases ht; cases hx; decide
 | i + 4, ht, hx => simp at ht
theorem runE : (rrun 2 0 [2, 0, 1, 0] (rs0 [0, 1]) 4).f = 4 := by kernel_rfl
theorem Dkt : (rrun 2 0 [2, 0, 1, 0] (rs0 [0, 1]) 4).cl.take 4 = [0, 1, 0, 1] := by kernel_rfl
theorem Dkj : optF 4 2 [2, 0, 1, 0] (oOf [0, 1]) = 2 := by kernel_rfl
theorem Dje : Akq 4 2 [2, 0, 1, 0] (oOf [0, 1]) = [0, 2, -1, -1] := by kernel_rfl
theorem Djm : (Axw 4 2 [2, 0, 1, 0] (oOf [0, 1])).length = 2 := by kernel_rfl
theorem Dkx : Dqs ((Axw 4 2 [2, 0, 3, 0] (oOf [0, 1])).countP fun cs => cs.getD 0 0 == 1) (Axw 4 2 [2, 0, 3, 0] (oOf [0, 1])).length = 1 := by kernel_rfl
theorem Dzq : Ax1 2 [2, 0, 1, 0] 4 0 = [0, 2] := by kernel_rfl
theorem Dzr : Ay3 [0, 1] [2, 0, 1, 0] 1 = some 3 := by kernel_rfl
theorem fewE : bdT (fewF 1 [0]) (Aqz [[0, 1], [0, 1]]) = ⟨0, 2, true⟩ := by kernel_rfl
theorem Dks : (Azy (fun r => regF 2 r [0, 1] [[2], [0], [1, 3], [0]]) 4).1 = 1 := by kernel_rfl
theorem askE : askF 1 [0] [[0, 1], [0, 1]] = (0, 1) := by kernel_rfl
end Go.Proofs.YtgniilnljeedlaaGreatDoor
end
section
namespace Go.X
open Go
theorem Bzp {P : Program} {H : Hp} {t : TypeId} (h : P.eqGuardType P.depth t = false) (op : BinOp) (x y : Operand) (p q : Array Value) (K : Unit -> Hp -> Prop) (E : Value -> Hp -> Prop) : wpS P (eqGuard op t x y (.agg p) (.agg q)) H K E = K () H := by
 unfold eqGuard
 cases op <;> first | rfl | (simp only [Aqb, Bql, h, Bool.not_false, if_true]; first | rfl | (simp [Aqb, Bql, h, Aqi]; done))
theorem Bzj {P : Program} {H : Hp} {ks : TypeId} (h : Key2 P ks .i64 .i64) (a b c d : Int) (K : Value -> Hp -> Prop) (E : Value -> Hp -> Prop) :
  wpS P (binOp .eql ks (.agg #[.int .i64 a, .int .i64 b]) (.agg #[.int .i64 c, .int .i64 d])) H K E = K (.bool (a == c && b == d)) H := by
 simp only [binOp]
 rw [Aqb, Bz8 h]
 rfl
end Go.X
namespace Go.Proofs.YtgniilnljeedlaaGreatDoor
open Go Go.X
def Aq2 := And.intro @Dx3 (And.intro @Dx4 (And.intro @Dxs (And.intro @Dxv (And.intro @Dxw (And.intro @Dx5 (And.intro @Dxx (And.intro @Dxu (And.intro @Dxy (And.intro @Dx6 (And.intro @Dx1 (And.intro (fun H => Aq0 (H := H) (P := Tryz.prog) (h := Tryz.zeroValue61)) (And.intro (fun H => Aq3 (H := H) Tryz.sizeOf61) (And.intro @Dx2 (And.intro @Dx0 (And.intro (fun H => Aqv (H := H) Tryz.underlying61 rfl Tryz.sizeOf61) (And.intro @Bx5 (And.intro @Azx (And.intro @Dxt @Ajh))))))))))))))))))
theorem Cwu {p q : Prop} (g : q) (h : Hid q -> p := by
 intro g
 repeat' (first
 | (refine Axj rfl ?_; intro Kz hKz; simp -implicitDefEqProofs (disch := first | omega | (simp only [qd] <;> omega)) only [xq, ↓xp, qc, Nat.reduceAdd, List.range, List.range.loop, fine, Nat.reduceEqDiff, ↓reduceIte, yielded, reduceCtorEq, Nat.reduceLT, Nat.reduceMul, Nat.reduceSub, one, Nat.reduceLeDiff, Aqa, Aq2, aq, ↓ap, qe0, qe1, qe2, *, -g, -hKz, Bzp Bqy, Bzj Bvo]; try (refine hKz _ _ ?_; clear hKz Kz))
 | (refine Axo rfl ?_; intro Kz hKz; simp -implicitDefEqProofs (disch := first | omega | (simp only [qd] <;> omega)) only [xq, ↓xp, qc, Nat.reduceAdd, List.range, List.range.loop, fine, Nat.reduceEqDiff, ↓reduceIte, yielded, reduceCtorEq, Nat.reduceLT, Nat.reduceMul, Nat.reduceSub, one, Nat.reduceLeDiff, Aqa, Aq2, aq, ↓ap, qe0, qe1, qe2, *, -g, -hKz, Bzp Bqy, Bzj Bvo]; try (refine hKz _ _ ?_; clear hKz Kz; (try simp only [nq, ↓reduceIte, Nat.reduceEqDiff])))
 | (refine Aqu ?_; (try simp only [nq, ↓reduceIte, Nat.reduceEqDiff]))
 | (refine Axn ?_; (try simp only [nq, ↓reduceIte, Nat.reduceEqDiff]))
 | (refine Aq7 ?_; (try simp only [nq, ↓reduceIte, Nat.reduceEqDiff]))
 | (refine Azb ?_; (try simp only [nq, ↓reduceIte, Nat.reduceEqDiff]))
 | (refine Axv (by simp only [Aqm, Aqr, Nat.reduceEqDiff, Nat.reduceLT, ↓reduceIte, *, -g]; rfl) ?_ ?_ <;> (intro hcz; first | (exfalso; simp -implicitDefEqProofs (disch := omega) only [*, -g, bq, reduceCtorEq] at hcz; done) | (simp only [dq, qe3, qe4, qe5, qe6] at hcz) | skip))
 | (refine Axl ?_)
 | (refine Aqo ?_)
 | (refine Aql ?_))
 (try (revert Kz; refine unK ?_)); (repeat (revert hcz; refine unC ?_))
 exact Hid.out g) : Hid p := ⟨h ⟨g⟩⟩
theorem Cwq {p q : Prop} (g : q) (h : Hid q -> p := by
 intro g
 simp -implicitDefEqProofs (disch := first | omega | (simp only [qd] <;> omega)) only [xq, ↓xp, qc, Nat.reduceAdd, List.range, List.range.loop, fine, Nat.reduceEqDiff, ↓reduceIte, yielded, reduceCtorEq, Nat.reduceLT, Nat.reduceMul, Nat.reduceSub, one, Nat.reduceLeDiff, Aqa, Aq2, aq, ↓ap, qe0, qe1, qe2, *, -g, -hK, Bzp Bqy, Bzj Bvo]
 exact Hid.out g) : Hid p := ⟨h ⟨g⟩⟩
theorem Bvo : Key2 Tryz.prog 61 .i64 .i64 := ⟨⟨_, _, Tryz.underlying61, by decide, by decide, rfl, rfl, ⟨_, Tryz.underlying3⟩, ⟨_, Tryz.underlying3⟩⟩, by kernel_rfl⟩
theorem Bqy : Program.eqGuardType Tryz.prog (Program.depth Tryz.prog) 61 = false := by kernel_rfl
theorem kept_spec (H : Hp) : FnX Tryz.prog (.wg Tryz.prog) 22 #[] H fun e H' => e = .returned (.bool true) /\ H.le H' := by
 refine Aqk (args := []) Tryz.func22 rfl Tryz.ntmps22 (by simp) ?_
 (refine @unH _ ?_; refine zA Aq2 ?_; (repeat (refine inC ?_; intro hc)); try (refine inK ?_; intro K hK))
 refine (Az2 _ H).runs.mono ?_
 rintro _ A1 ⟨sv1, cv1, rfl, lA1, hv1⟩
 have tA1 := lA1
 clear lA1
 ((try (refine @unH _ ?_; refine zX Aq2 ?_)); (try (refine hK _ _ ?_; clear hK K; (try simp only [nq, ↓reduceIte, Nat.reduceEqDiff]))); refine @unH _ ?_; refine zA Aq2 ?_; (repeat (refine inC ?_; intro hc)); try (refine inK ?_; intro K hK))
 refine (Ak2 _ A1).runs.mono ?_
 rintro _ B1 ⟨tv1, rfl, lB1, ht1⟩
 have hd1 : Aww B1 2 4 sv1 cv1 tv1 [0, 1] [[2], [0], [1, 3], [0]] [2, 0, 1, 0] := ⟨(hv1.le lB1).st, (hv1.le lB1).calls, ht1, Ajn, by decide, Ayb⟩
 clear hv1 ht1
 have tB1 := Hp.le_trans tA1 lB1
 clear lB1 tA1
 ((try (refine @unH _ ?_; refine zX Aq2 ?_)); (try (refine hK _ _ ?_; clear hK K; (try simp only [nq, ↓reduceIte, Nat.reduceEqDiff]))); refine @unH _ ?_; refine zA Aq2 ?_; (repeat (refine inC ?_; intro hc)); try (refine inK ?_; intro K hK))
 refine (Cwi _ _ 2 4 _ _ _ _ _ _ hd1 0 (by omega) (by omega)).runs.mono ?_
 rintro _ C1 ⟨rv, rfl, lC1, hr⟩
 simp only [List.length_cons, List.length_nil] at hr ⊢
 rw [show (rrun 2 0 [2, 0, 1, 0] (rs0 [0, 1]) (0 + 1 + 1 + 1 + 1)).cl.take (0 + 1 + 1 + 1 + 1) = [0, 1, 0, 1] from Dkt] at hr
 rw [show (rrun 2 0 [2, 0, 1, 0] (rs0 [0, 1]) (0 + 1 + 1 + 1 + 1)).f = 4 from runE, show ((4 : Nat) : Int) = 4 from rfl]
 clear hd1
 have tC1 := Hp.le_trans tB1 lC1
 clear lC1 tB1
 ((try (refine @unH _ ?_; refine zX Aq2 ?_)); (try (refine hK _ _ ?_; clear hK K; (try simp only [nq, ↓reduceIte, Nat.reduceEqDiff]))); refine @unH _ ?_; refine zA Aq2 ?_; (repeat (refine inC ?_; intro hc)); try (refine inK ?_; intro K hK))
 refine (Az2 _ C1).runs.mono ?_
 rintro _ A2 ⟨sv2, cv2, rfl, lA2, hv2⟩
 have hr_A2 := hr.le lA2
 clear hr
 have tA2 := Hp.le_trans tC1 lA2
 clear lA2 tC1
 ((try (refine @unH _ ?_; refine zX Aq2 ?_)); (try (refine hK _ _ ?_; clear hK K; (try simp only [nq, ↓reduceIte, Nat.reduceEqDiff]))); refine @unH _ ?_; refine zA Aq2 ?_; (repeat (refine inC ?_; intro hc)); try (refine inK ?_; intro K hK))
 refine (Ak2 _ A2).runs.mono ?_
 rintro _ B2 ⟨tv2, rfl, lB2, ht2⟩
 have hr_B2 := hr_A2.le lB2
 clear hr_A2
 have hd2 : Aww B2 2 4 sv2 cv2 tv2 [0, 1] [[2], [0], [1, 3], [0]] [2, 0, 1, 0] := ⟨(hv2.le lB2).st, (hv2.le lB2).calls, ht2, Ajn, by decide, Ayb⟩
 clear hv2 ht2
 have tB2 := Hp.le_trans tA2 lB2
 clear lB2 tA2
 ((try (refine @unH _ ?_; refine zX Aq2 ?_)); (try (refine hK _ _ ?_; clear hK K; (try simp only [nq, ↓reduceIte, Nat.reduceEqDiff]))); refine @unH _ ?_; refine zA Aq2 ?_; (repeat (refine inC ?_; intro hc)); try (refine inK ?_; intro K hK))
 refine (Ckl _ _ 2 4 _ _ _ _ _ _ hd2).runs.mono ?_
 rintro _ C2 ⟨bv, rfl, hb, lC2⟩
 have hr_C2 := hr_B2.le lC2
 clear hr_B2
 simp only [List.length_cons, List.length_nil] at hb ⊢
 rw [show Akq (0 + 1 + 1 + 1 + 1) 2 [2, 0, 1, 0] (oOf [0, 1]) = [0, 2, -1, -1] from Dje] at hb
 rw [show optF (0 + 1 + 1 + 1 + 1) 2 [2, 0, 1, 0] (oOf [0, 1]) = 2 from Dkj, show ((2 : Nat) : Int) = 2 from rfl]
 clear hd2
 have tC2 := Hp.le_trans tB2 lC2
 clear lC2 tB2
 ((try (refine @unH _ ?_; refine zX Aq2 ?_)); (try (refine hK _ _ ?_; clear hK K; (try simp only [nq, ↓reduceIte, Nat.reduceEqDiff]))); refine @unH _ ?_; refine zA Aq2 ?_; (repeat (refine inC ?_; intro hc)); try (refine inK ?_; intro K hK))
 refine (Az2 _ C2).runs.mono ?_
 rintro _ A3 ⟨sv3, cv3, rfl, lA3, hv3⟩
 have hr_A3 := hr_C2.le lA3
 have hb_A3 := hb.le lA3
 clear hr_C2 hb
 have tA3 := Hp.le_trans tC2 lA3
 clear lA3 tC2
 ((try (refine @unH _ ?_; refine zX Aq2 ?_)); (try (refine hK _ _ ?_; clear hK K; (try simp only [nq, ↓reduceIte, Nat.reduceEqDiff]))); refine @unH _ ?_; refine zA Aq2 ?_; (repeat (refine inC ?_; intro hc)); try (refine inK ?_; intro K hK))
 refine (Ak2 _ A3).runs.mono ?_
 rintro _ B3 ⟨tv3, rfl, lB3, ht3⟩
 have hr_B3 := hr_A3.le lB3
 have hb_B3 := hb_A3.le lB3
 clear hr_A3 hb_A3
 have hd3 : Aww B3 2 4 sv3 cv3 tv3 [0, 1] [[2], [0], [1, 3], [0]] [2, 0, 1, 0] := ⟨(hv3.le lB3).st, (hv3.le lB3).calls, ht3, Ajn, by decide, Ayb⟩
 clear hv3 ht3
 have tB3 := Hp.le_trans tA3 lB3
 clear lB3 tA3
 ((try (refine @unH _ ?_; refine zX Aq2 ?_)); (try (refine hK _ _ ?_; clear hK K; (try simp only [nq, ↓reduceIte, Nat.reduceEqDiff]))); refine @unH _ ?_; refine zA Aq2 ?_; (repeat (refine inC ?_; intro hc)); try (refine inK ?_; intro K hK))
 refine (Cqm _ _ 2 4 _ _ _ _ _ _ hd3).runs.mono ?_
 rintro _ C3 ⟨rfl, lC3⟩
 have hr_C3 := hr_B3.le lC3
 have hb_C3 := hb_B3.le lC3
 clear hr_B3 hb_B3
 rw [show (Axw ([2, 0, 1, 0] : List Int).length 2 [2, 0, 1, 0] (oOf [0, 1])).length = 2 from Djm, show ((2 : Nat) : Int) = 2 from rfl]
 clear hd3
 have tC3 := Hp.le_trans tB3 lC3
 clear lC3 tB3
 ((try (refine @unH _ ?_; refine zX Aq2 ?_)); (try (refine hK _ _ ?_; clear hK K; (try simp only [nq, ↓reduceIte, Nat.reduceEqDiff]))); refine @unH _ ?_; refine zA Aq2 ?_; (repeat (refine inC ?_; intro hc)); try (refine inK ?_; intro K hK))
 refine (Az2 _ C3).runs.mono ?_
 rintro _ A4 ⟨sv4, cv4, rfl, lA4, hv4⟩
 have hr_A4 := hr_C3.le lA4
 have hb_A4 := hb_C3.le lA4
 clear hr_C3 hb_C3
 have tA4 := Hp.le_trans tC3 lA4
 clear lA4 tC3
 ((try (refine @unH _ ?_; refine zX Aq2 ?_)); (try (refine hK _ _ ?_; clear hK K; (try simp only [nq, ↓reduceIte, Nat.reduceEqDiff]))); refine @unH _ ?_; refine zA Aq2 ?_; (repeat (refine inC ?_; intro hc)); try (refine inK ?_; intro K hK))
 refine (Cjg _ A4).runs.mono ?_
 rintro _ B4 ⟨tv4, rfl, lB4, ht4⟩
 have hr_B4 := hr_A4.le lB4
 have hb_B4 := hb_A4.le lB4
 clear hr_A4 hb_A4
 have hd4 : Aww B4 2 4 sv4 cv4 tv4 [0, 1] [[2], [0], [1, 3], [0]] [2, 0, 3, 0] := ⟨(hv4.le lB4).st, (hv4.le lB4).calls, ht4, Ajn, by decide, Cy5⟩
 clear hv4 ht4
 have tB4 := Hp.le_trans tA4 lB4
 clear lB4 tA4
 ((try (refine @unH _ ?_; refine zX Aq2 ?_)); (try (refine hK _ _ ?_; clear hK K; (try simp only [nq, ↓reduceIte, Nat.reduceEqDiff]))); refine @unH _ ?_; refine zA Aq2 ?_; (repeat (refine inC ?_; intro hc)); try (refine inK ?_; intro K hK))
 refine (Cj1 _ _ 2 4 _ _ _ _ _ _ hd4 0 1 (by omega) (by decide) (by omega) (by omega)).runs.mono ?_
 rintro _ C4 ⟨rfl, lC4⟩
 have hr_C4 := hr_B4.le lC4
 have hb_C4 := hb_B4.le lC4
 clear hr_B4 hb_B4
 rw [show Dqs ((Axw ([2, 0, 3, 0] : List Int).length 2 [2, 0, 3, 0] (oOf [0, 1])).countP fun cs => cs.getD (0 : Int).toNat 0 == 1) (Axw ([2, 0, 3, 0] : List Int).length 2 [2, 0, 3, 0] (oOf [0, 1])).length = 1 from Dkx]
 clear hd4
 have tC4 := Hp.le_trans tB4 lC4
 clear lC4 tB4
 ((try (refine @unH _ ?_; refine zX Aq2 ?_)); (try (refine hK _ _ ?_; clear hK K; (try simp only [nq, ↓reduceIte, Nat.reduceEqDiff]))); refine @unH _ ?_; refine zA Aq2 ?_; (repeat (refine inC ?_; intro hc)); try (refine inK ?_; intro K hK))
 refine (Az2 _ C4).runs.mono ?_
 rintro _ A5 ⟨sv5, cv5, rfl, lA5, hv5⟩
 have hr_A5 := hr_C4.le lA5
 have hb_A5 := hb_C4.le lA5
 clear hr_C4 hb_C4
 have tA5 := Hp.le_trans tC4 lA5
 clear lA5 tC4
 ((try (refine @unH _ ?_; refine zX Aq2 ?_)); (try (refine hK _ _ ?_; clear hK K; (try simp only [nq, ↓reduceIte, Nat.reduceEqDiff]))); refine @unH _ ?_; refine zA Aq2 ?_; (repeat (refine inC ?_; intro hc)); try (refine inK ?_; intro K hK))
 refine (Ak2 _ A5).runs.mono ?_
 rintro _ B5 ⟨tv5, rfl, lB5, ht5⟩
 have hr_B5 := hr_A5.le lB5
 have hb_B5 := hb_A5.le lB5
 clear hr_A5 hb_A5
 have hd5 : Aww B5 2 4 sv5 cv5 tv5 [0, 1] [[2], [0], [1, 3], [0]] [2, 0, 1, 0] := ⟨(hv5.le lB5).st, (hv5.le lB5).calls, ht5, Ajn, by decide, Ayb⟩
 clear hv5 ht5
 have tB5 := Hp.le_trans tA5 lB5
 clear lB5 tA5
 ((try (refine @unH _ ?_; refine zX Aq2 ?_)); (try (refine hK _ _ ?_; clear hK K; (try simp only [nq, ↓reduceIte, Nat.reduceEqDiff]))); refine @unH _ ?_; refine zA Aq2 ?_; (repeat (refine inC ?_; intro hc)); try (refine inK ?_; intro K hK))
 refine (Byu _ _ 2 4 _ _ _ _ _ _ hd5).runs.mono ?_
 rintro _ C5 ⟨pv, rfl, lC5, hp⟩
 have hr_C5 := hr_B5.le lC5
 have hb_C5 := hb_B5.le lC5
 clear hr_B5 hb_B5
 rw [show Ax1 2 [2, 0, 1, 0] ([2, 0, 1, 0] : List Int).length 0 = [0, 2] from Dzq] at hp
 clear hd5
 have tC5 := Hp.le_trans tB5 lC5
 clear lC5 tB5
 ((try (refine @unH _ ?_; refine zX Aq2 ?_)); (try (refine hK _ _ ?_; clear hK K; (try simp only [nq, ↓reduceIte, Nat.reduceEqDiff]))); refine @unH _ ?_; refine zA Aq2 ?_; (repeat (refine inC ?_; intro hc)); try (refine inK ?_; intro K hK))
 refine (Az2 _ C5).runs.mono ?_
 rintro _ A6 ⟨sv6, cv6, rfl, lA6, hv6⟩
 have hr_A6 := hr_C5.le lA6
 have hb_A6 := hb_C5.le lA6
 have hp_A6 := hp.le lA6
 clear hr_C5 hb_C5 hp
 have tA6 := Hp.le_trans tC5 lA6
 clear lA6 tC5
 ((try (refine @unH _ ?_; refine zX Aq2 ?_)); (try (refine hK _ _ ?_; clear hK K; (try simp only [nq, ↓reduceIte, Nat.reduceEqDiff]))); refine @unH _ ?_; refine zA Aq2 ?_; (repeat (refine inC ?_; intro hc)); try (refine inK ?_; intro K hK))
 refine (Ak2 _ A6).runs.mono ?_
 rintro _ B6 ⟨tv6, rfl, lB6, ht6⟩
 have hr_B6 := hr_A6.le lB6
 have hb_B6 := hb_A6.le lB6
 have hp_B6 := hp_A6.le lB6
 clear hr_A6 hb_A6 hp_A6
 have hd6 : Aww B6 2 4 sv6 cv6 tv6 [0, 1] [[2], [0], [1, 3], [0]] [2, 0, 1, 0] := ⟨(hv6.le lB6).st, (hv6.le lB6).calls, ht6, Ajn, by decide, Ayb⟩
 clear hv6 ht6
 have tB6 := Hp.le_trans tA6 lB6
 clear lB6 tA6
 ((try (refine @unH _ ?_; refine zX Aq2 ?_)); (try (refine hK _ _ ?_; clear hK K; (try simp only [nq, ↓reduceIte, Nat.reduceEqDiff]))); refine @unH _ ?_; refine zA Aq2 ?_; (repeat (refine inC ?_; intro hc)); try (refine inK ?_; intro K hK))
 refine (Byv _ _ 2 4 _ _ _ _ _ _ hd6 1 (by omega)).runs.mono ?_
 rintro _ C6 ⟨rfl, lC6⟩
 have hr_C6 := hr_B6.le lC6
 have hb_C6 := hb_B6.le lC6
 have hp_C6 := hp_B6.le lC6
 clear hr_B6 hb_B6 hp_B6
 rw [show Ay3 [0, 1] [2, 0, 1, 0] 1 = some 3 from Dzr]
 clear hd6
 simp only [Option.getD_some, Option.isSome_some, if_true]
 have tC6 := Hp.le_trans tB6 lC6
 clear lC6 tB6
 ((try (refine @unH _ ?_; refine zX Aq2 ?_)); (try (refine hK _ _ ?_; clear hK K; (try simp only [nq, ↓reduceIte, Nat.reduceEqDiff]))); refine @unH _ ?_; refine zA Aq2 ?_; (repeat (refine inC ?_; intro hc)); try (refine inK ?_; intro K hK))
 refine (Bkv _ C6).runs.mono ?_
 rintro _ A7 ⟨sv7, cv7, rfl, lA7, hv7⟩
 have hr_A7 := hr_C6.le lA7
 have hb_A7 := hb_C6.le lA7
 have hp_A7 := hp_C6.le lA7
 clear hr_C6 hb_C6 hp_C6
 have tA7 := Hp.le_trans tC6 lA7
 clear lA7 tC6
 ((try (refine @unH _ ?_; refine zX Aq2 ?_)); (try (refine hK _ _ ?_; clear hK K; (try simp only [nq, ↓reduceIte, Nat.reduceEqDiff]))); refine @unH _ ?_; refine zA Aq2 ?_; (repeat (refine inC ?_; intro hc)); try (refine inK ?_; intro K hK))
 refine (Bys _ 1 2 _ _ _ _ hv7).runs.mono ?_
 rintro _ C7 ⟨rfl, lC7⟩
 have hr_C7 := hr_A7.le lC7
 have hb_C7 := hb_A7.le lC7
 have hp_C7 := hp_A7.le lC7
 clear hr_A7 hb_A7 hp_A7
 have tC7 := Hp.le_trans tA7 lC7
 clear lC7 tA7
 rw [fewE]
 clear hv7
 ((try (refine @unH _ ?_; refine zX Aq2 ?_)); (try (refine hK _ _ ?_; clear hK K; (try simp only [nq, ↓reduceIte, Nat.reduceEqDiff]))); refine @unH _ ?_; refine zA Aq2 ?_; (repeat (refine inC ?_; intro hc)); try (refine inK ?_; intro K hK))
 (intro bb hbb; generalize hG : Hp.set _ bb _ = D7; have lD7 := Aqh hG hbb; have vbb := Aqf hG; clear hG)
 have hr_D7 := hr_C7.le lD7
 have hb_D7 := hb_C7.le lD7
 have hp_D7 := hp_C7.le lD7
 clear hr_C7 hb_C7 hp_C7
 have tD7 := Hp.le_trans tC7 lD7
 clear lD7 tC7
 clear hbb
 ((try (refine @unH _ ?_; refine zX Aq2 ?_)); (try (refine hK _ _ ?_; clear hK K; (try simp only [nq, ↓reduceIte, Nat.reduceEqDiff]))); refine @unH _ ?_; refine zA Aq2 ?_; (repeat (refine inC ?_; intro hc)); try (refine inK ?_; intro K hK))
 refine (Az2 _ D7).runs.mono ?_
 rintro _ A8 ⟨sv8, cv8, rfl, lA8, hv8⟩
 have hr_A8 := hr_D7.le lA8
 have hb_A8 := hb_D7.le lA8
 have hp_A8 := hp_D7.le lA8
 clear hr_D7 hb_D7 hp_D7
 have lA8x := lA8
 have tA8 := Hp.le_trans tD7 lA8
 clear lA8 tD7
 ((try (refine @unH _ ?_; refine zX Aq2 ?_)); (try (refine hK _ _ ?_; clear hK K; (try simp only [nq, ↓reduceIte, Nat.reduceEqDiff]))); refine @unH _ ?_; refine zA Aq2 ?_; (repeat (refine inC ?_; intro hc)); try (refine inK ?_; intro K hK))
 refine (Cj7 _ 2 4 _ _ _ _ hv8).runs.mono ?_
 rintro _ C8 ⟨rfl, lC8⟩
 have hr_C8 := hr_A8.le lC8
 have hb_C8 := hb_A8.le lC8
 have hp_C8 := hp_A8.le lC8
 clear hr_A8 hb_A8 hp_A8
 have vbb8 := lC8 _ _ (lA8x _ _ vbb)
 have tC8 := Hp.le_trans tA8 lC8
 clear lC8 tA8
 rw [Dks]
 clear hv8
 ((try (refine @unH _ ?_; refine zX Aq2 ?_)); (try (refine hK _ _ ?_; clear hK K; (try simp only [nq, ↓reduceIte, Nat.reduceEqDiff]))); refine @unH _ ?_; refine zA Aq2 ?_; (repeat (refine inC ?_; intro hc)); try (refine inK ?_; intro K hK))
 refine (Bkv _ C8).runs.mono ?_
 rintro _ A9 ⟨sv9, cv9, rfl, lA9, hv9⟩
 have hr_A9 := hr_C8.le lA9
 have hb_A9 := hb_C8.le lA9
 have hp_A9 := hp_C8.le lA9
 clear hr_C8 hb_C8 hp_C8
 have vbb9 := lA9 _ _ vbb8
 have tA9 := Hp.le_trans tC8 lA9
 clear lA9 tC8
 ((try (refine @unH _ ?_; refine zX Aq2 ?_)); (try (refine hK _ _ ?_; clear hK K; (try simp only [nq, ↓reduceIte, Nat.reduceEqDiff]))); refine @unH _ ?_; refine zA Aq2 ?_; (repeat (refine inC ?_; intro hc)); try (refine inK ?_; intro K hK))
 refine (Cwh _ 1 2 _ _ _ _ hv9).runs.mono ?_
 rintro _ C9 ⟨rfl, lC9⟩
 have hr_C9 := hr_A9.le lC9
 have hb_C9 := hb_A9.le lC9
 have hp_C9 := hp_A9.le lC9
 clear hr_A9 hb_A9 hp_A9
 have vbb10 := lC9 _ _ vbb9
 have tC9 := Hp.le_trans tA9 lC9
 clear lC9 tA9
 rw [askE]
 clear hv9 vbb vbb8 vbb9 lA8x
 simp only [Int.reduceLT, if_false]
 ((try (refine @unH _ ?_; refine zX Aq2 ?_)); (try (refine hK _ _ ?_; clear hK K; (try simp only [nq, ↓reduceIte, Nat.reduceEqDiff]))); refine @unH _ ?_; refine zA Aq2 ?_; (repeat (refine inC ?_; intro hc)); try (refine inK ?_; intro K hK))
 refine Av4 (fun e => e 1 = rv /\ e 2 = .int .i64 4 /\ e 3 = .int .i64 0 /\ e 4 = bv /\ e 5 = .int .i64 2 /\ e 6 = .int .i64 0 /\ e 7 = .int .i64 2 /\ e 8 = .int .i64 0 /\ e 9 = .int .i64 1 /\ e 10 = .int .i64 0 /\ e 11 = pv /\ e 12 = .int .i64 0 /\ e 13 = .int .i64 3 /\ e 14 = .int .i64 0 /\ e 15 = .pointer (some ⟨bb, 0, none⟩) /\ e 16 = .int .i64 0 /\ e 17 = .int .i64 1 /\ e 18 = .int .i64 0 /\ e 19 = .int .i64 0 /\ e 20 = .int .i64 1 /\ e 21 = .int .i64 0) ⟨rfl, rfl, rfl, rfl, rfl, rfl, rfl, rfl, rfl, rfl, rfl, rfl, rfl, rfl, rfl, rfl, rfl, rfl, rfl, rfl, rfl⟩ ?_
 rintro e ⟨e1, e2, e3, e4, e5, e6, e7, e8, e9, e10, e11, e12, e13, e14, e15, e16, e17, e18, e19, e20, e21⟩
 simp only [List.append]
 refine Axo rfl ?_; intro K hK
 simp -implicitDefEqProofs (disch := first | omega | (simp only [qd] <;> omega)) only [xq, ↓xp, qc, Nat.reduceAdd, List.range, List.range.loop, fine, Nat.reduceEqDiff, ↓reduceIte, yielded, reduceCtorEq, Nat.reduceLT, Nat.reduceMul, Nat.reduceSub, one, Nat.reduceLeDiff, Aqa, Aq2, aq, ↓ap, qe0, qe1, qe2, *, -hK, Bzp Bqy, Bzj Bvo]
 (intro g1 hg1; generalize hG : Hp.set _ g1 _ = E1; have lE1 := Aqh hG hg1; have vg1 := Aqf hG; clear hG)
 have hr_E1 := hr_C9.le lE1
 have hb_E1 := hb_C9.le lE1
 have hp_E1 := hp_C9.le lE1
 clear hr_C9 hb_C9 hp_C9
 have sl1 : SlI E1 (.slice (some ⟨g1, 0, none⟩) 4 4) [0, 1, 0, 1] := Ajq (xs := [0, 1, 0, 1]) vg1 rfl
 clear hg1 vg1
 have tE1 := Hp.le_trans tC9 lE1
 clear lE1 tC9
 refine (Awe _ E1 rv _ [0, 1, 0, 1] [0, 1, 0, 1] hr_E1 sl1 (by decide) (by decide)).runs.mono ?_
 rintro _ HQ ⟨rfl, hHQ⟩
 rw [hHQ]
 clear hHQ HQ
 rw [decide_eq_true rfl]
 clear sl1
 ((try (refine @unH _ ?_; refine Cwq ?_)); (try (refine hK _ _ ?_; clear hK K; (try simp only [nq, ↓reduceIte, Nat.reduceEqDiff]))); refine @unH _ ?_; refine Cwu ?_; (repeat (refine inC ?_; intro hc)); try (refine inK ?_; intro K hK))
 (intro g2 hg2; generalize hG : Hp.set _ g2 _ = E2; have lE2 := Aqh hG hg2; have vg2 := Aqf hG; clear hG)
 have hr_E2 := hr_E1.le lE2
 have hb_E2 := hb_E1.le lE2
 have hp_E2 := hp_E1.le lE2
 clear hr_E1 hb_E1 hp_E1
 have sl2 : SlI E2 (.slice (some ⟨g2, 0, none⟩) 4 4) [0, 2, -1, -1] := Ajq (xs := [0, 2, -1, -1]) vg2 rfl
 clear hg2 vg2
 have tE2 := Hp.le_trans tE1 lE2
 clear lE2 tE1
 refine (Awe _ E2 bv _ [0, 2, -1, -1] [0, 2, -1, -1] hb_E2 sl2 (by decide) (by decide)).runs.mono ?_
 rintro _ HQ ⟨rfl, hHQ⟩
 rw [hHQ]
 clear hHQ HQ
 rw [decide_eq_true rfl]
 clear sl2
 ((try (refine @unH _ ?_; refine Cwq ?_)); (try (refine hK _ _ ?_; clear hK K; (try simp only [nq, ↓reduceIte, Nat.reduceEqDiff]))); refine @unH _ ?_; refine Cwu ?_; (repeat (refine inC ?_; intro hc)); try (refine inK ?_; intro K hK))
 (intro g3 hg3; generalize hG : Hp.set _ g3 _ = E3; have lE3 := Aqh hG hg3; have vg3 := Aqf hG; clear hG)
 have hr_E3 := hr_E2.le lE3
 have hb_E3 := hb_E2.le lE3
 have hp_E3 := hp_E2.le lE3
 clear hr_E2 hb_E2 hp_E2
 have sl3 : SlI E3 (.slice (some ⟨g3, 0, none⟩) 2 2) [0, 2] := Ajq (xs := [0, 2]) vg3 rfl
 clear hg3 vg3
 have tE3 := Hp.le_trans tE2 lE3
 clear lE3 tE2
 refine (Awe _ E3 pv _ [0, 2] [0, 2] hp_E3 sl3 (by decide) (by decide)).runs.mono ?_
 rintro _ HQ ⟨rfl, hHQ⟩
 rw [hHQ]
 clear hHQ HQ
 rw [decide_eq_true rfl]
 clear sl3
 ((try (refine @unH _ ?_; refine Cwq ?_)); (try (refine hK _ _ ?_; clear hK K; (try simp only [nq, ↓reduceIte, Nat.reduceEqDiff]))); refine @unH _ ?_; refine Cwu ?_; (repeat (refine inC ?_; intro hc)); try (refine inK ?_; intro K hK))
 (refine @unH _ ?_; refine z9 Tryz.results22 ?_)
 exact ⟨by trivial, tE3⟩
end Go.Proofs.YtgniilnljeedlaaGreatDoor
end
section
namespace Go.Proofs.YtgniilnljeedlaaGreatDoor
open Go Go.X
theorem atK_spec (m : Md) (H : Hp) (v : Value) (xs : List Int) (n : Int) (hv : SlI H v xs) (hl : xs.length <= 1000000) :
  FnX Tryz.prog m 50 #[v, .int .i64 n] H fun e H' => e = .returned (.int .i64 (atF xs n)) /\ H' = H :=
 (Cwz m H v xs n hv hl).mono fun e H' ⟨hH, r, he, h⟩ => ⟨by
  rw [he]
  rcases h with ⟨rfl, hn⟩ | ⟨k, rfl, _, hk, hn⟩
  ·rw [Cki hn]
  ·rw [Dz7 hk hn], hH⟩
theorem Cjd (start ts : List Int) : ∀ i, (Avb start (ts.take i)).length <= i
 | 0 => by simp [Avb]
 | i + 1 => by
  have ih := Cjd start ts i
  by_cases hi : i < ts.length
  ·rw [Bjz hi, Bqf]
   split
   ·omega
   ·simp only [List.length_append, List.length_cons, List.length_nil]; omega
  ·rw [List.take_of_length_le (by omega)]
   rw [List.take_of_length_le (by omega)] at ih
   omega
end Go.Proofs.YtgniilnljeedlaaGreatDoor
end
section
namespace Go.X
open Go Go.RowKit
open Go.Conc (G base)
theorem Base.below {W w : World} (h : Base W w) : Below W.heap.size W { w with tape := W.tape } := ⟨h.os, rfl, h.output, h.size, h.block⟩
theorem Base.kept {W w : World} (h : Base W w) (may : MemPlace -> Prop) : W.keptBut w may := by
 have := World.keptBut_refl W may
 refine ⟨h.os, h.output, fun i hi => ?_⟩
 rw [h.block i hi]
 exact this.2.2 i hi
theorem leaving_of_change_and {H : Type} {enc : TypeId × Value -> H} {a : Assume} {C : Checked} {os : Os} {f : FuncId} {fn : Func} {s : ChangeSpec} {conds : List PathCond} {apart fresh handsOn again : Bool} {X : World -> Array Value -> Prop}
  (hX : ∀ (w w' : World) (args : Array Value), w.heap = w'.heap -> X w args -> X w' args)
  (own : ownKnob C.prog.godebug = none) (started : os.Started) (hfn : C.prog.funcs[f]? = some fn)
  (witness : ∃ (w : World) (tape : Tape) (i : Input), w.os = os /\ (w.forCall tape i).Shaped C.prog /\ i.vars = [] /\ Input.okWide C.prog (w.forCall tape i) .any w.heap.size f i /\
   ((s.pre enc C.prog fn conds apart (w.forCall tape i).memory i.args /\ X (w.forCall tape i).memory i.args) /\ sizedMet enc C.prog fn (OpenSpec.ofChange s) apart (w.forCall tape i).memory i.args) /\ a.holds C.prog (lone (Frame.enter C.prog f i.args .normal) [] (w.forCall tape i)))
  (runs : ∀ (W : World) (base : Nat) (args : Array Value) (ds gs : List (DataW H)) (before : List MemPlace),
   (∀ (j : Nat) t v, fn.params[j]? = some t -> args[j]? = some v -> Value.okWide C.prog W .any base t v) ->
   DataW.Whole enc C.prog fn.params.toList s.vars apart W args.toList ds gs before -> X W args ->
   Ends C.prog (fun v W' => s.post enc C.prog fn apart fresh handsOn again W args v W') (Conc.solo (G (Frame.enter C.prog f args .normal) []) W) #[]) :
  ReturnsInLeavingWide a C os f .any (fun w args => (s.pre enc C.prog fn conds apart w args /\ X w args) /\ sizedMet enc C.prog fn (OpenSpec.ofChange s) apart w args) (s.post enc C.prog fn apart fresh handsOn again) := by
 refine returnsInLeavingWide_of_good own started witness ?_
 intro w tape i _ _ _ hok hpre hholds
 obtain ⟨_, _, _, fn', hfn', _, _, _, _, hval⟩ := hok
 have e : fn' = fn := Option.some.inj (hfn'.symm.trans hfn)
 subst e
 obtain ⟨⟨⟨ds, gs, before, hw, hc⟩, hx⟩, hz⟩ := hpre
 have hw' := DataW.Whole.of_heap (w' := w.forCall tape i) (by rfl) hw
 obtain ⟨M, last, o, w', t', h1, h2, h3, h4⟩ := runs (w.forCall tape i) w.heap.size i.args ds gs before hval hw' (hX _ _ _ (by rfl) hx)
 exact ⟨M, last, o, w', t', h1, h2, h3, h4.mono fun v hp => ChangeSpec.post_blind hp⟩
end Go.X
end
