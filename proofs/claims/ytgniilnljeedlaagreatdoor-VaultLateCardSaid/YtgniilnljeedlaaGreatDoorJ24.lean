/- Texts FollowW Leave PBase. -/
import Derived.Test.YtgniilnljeedlaaGreatDoorJ23
import Derived.Conc.Holds
import Derived.Conc.LeavingOf
import Derived.Calls
import Derived.Below
import Derived.Carry
import Derived.ChangeSame
import Derived.ChangeVars
import Derived.ChangeSlices
import Derived.JoinedOf
import Derived.RowKit
import Derived.RowKitTokens
import Derived.LaidLaws
import Derived.LaidHandle
import Derived.Stop.Joined
import Derived.Handed
import Derived.Test.YtgniilnljeedlaaGreatDoorRows
set_option linter.defProp false
set_option linter.unusedSimpArgs false
set_option linter.unusedVariables false
set_option maxRecDepth 100000
set_option maxHeartbeats 2000000
section
namespace Go.Proofs.YtgniilnljeedlaaGreatDoor
open Go Go.X
def Aqy := And.intro (fun H => Aq5 (H := H) Tryz.underlying22) (And.intro (fun H => Aqh (H := H) Tryz.underlying25 (i := 2) rfl (off := 2) rfl Tryz.sizeOf22) (And.intro (fun H => Aqd (H := H) Tryz.underlying22 rfl) (And.intro @Cky (And.intro (fun H => Aqq (H := H) Tryz.underlying22 Tryz.sizeOf3) (And.intro (fun H => Aqd (H := H) Tryz.underlying3 rfl) (And.intro @Ckz (And.intro (fun H => Aqh (H := H) Tryz.underlying25 (i := 0) rfl (off := 0) rfl Tryz.sizeOf3) (And.intro @Axp (And.intro (fun H => Bv9 (H := H) Tryz.underlying22 Tryz.sizeOf3) (And.intro (fun H => Bwa (H := H) Tryz.underlying22 Tryz.sizeOf3) (fun H => Bx5 (H := H) Tryz.underlying22 Tryz.sizeOf3)))))))))))
theorem Ckp {o : List Int} {x : Int} {j : Nat} (h : j < (atF o x).toNat) : o[j]? ≠ some x := by
 unfold atF at h
 cases hf : o.findIdx? (· == x) with
 | none => rw [hf] at h; simp at h
 | some k =>
  rw [hf] at h
  obtain ⟨h1, h2, h3⟩ := List.findIdx?_eq_some_iff_getElem.1 hf
  have hjk : j < k := by simpa using h
  have := h3 j hjk
  intro he
  rw [List.getElem?_eq_getElem (by omega), Option.some.injEq] at he
  simp [he] at this
theorem Bwp {H₀ H : Hp} {v : Value} {xs ys : List Int} (h : RowX none H₀ H v 3 (ints xs)) {g o m cap : Nat} (hm : ys.length = m) (hgx : ∃ u, H g = some u) (hsep : rowB v ≠ some g)
  (hys : ∀ (j : Nat) (y : Int), ys[j]? = some y -> H.cell ⟨g, o + j, none⟩ = some (.int .i64 y)) (hn : xs.length + m <= 1000000) (ty : TypeId) (cb : Array Bool) (K : Next -> Hp -> Prop) (E : Value -> Hp -> Prop)
  (h' : ∀ v' H', RowX none H₀ H' v' 3 (ints (xs ++ ys)) -> (∀ x u, H x = some u -> rowB v ≠ some x -> H' x = some u) -> (∀ x, rowB v' = some x -> rowB v = some x ∨ H x = none) -> K (.value v') H') :
  wpS Tryz.prog (builtin .append #[22, 22] ty cb #[v, .slice (some ⟨g, o, none⟩) m cap]) H K E := by
 obtain ⟨hlex, hrow⟩ := h
 obtain ⟨ug, hug⟩ := hgx
 rcases hrow with ⟨rfl, hx0⟩ | ⟨b, c, cp, hb0, hb, rfl, hcs, hcap, hget⟩
 ·have : xs = [] := by simpa [ints] using hx0
  subst this
  refine Ajq (H₀ := H) (H := H) (n := 0) (xs := []) (Aj5.nil H _ 1) (Hp.le_refl _) hm id hys (by omega) ty cb K E (fun v' H1 H2 hr hl => ?_)
  have hle : H.le H2 := fun x u hx => hl _ _ (hr.le _ _ hx)
  rcases hr with ⟨rfl, hn0, he, _⟩ | ⟨b', c', cap', hb', rfl, rfl, hs', hl', hn', hg'⟩
  ·exact h' _ H2 ⟨hlex.le hle, .inl ⟨rfl, he⟩⟩ (fun x u hx _ => hle _ _ hx) fun x hx => by cases hx
  ·refine h' _ H2 ⟨hlex.le hle, ?_⟩ (fun x u hx _ => hle _ _ hx) fun x hx => by simp only [rowB, Option.some.injEq] at hx; subst hx; exact .inr hb'
   refine .inr ⟨b', c', cap', hlex.gone hb', hl _ _ (by rw [Axm, if_pos rfl]), ?_, by omega, by omega, hg'⟩
   rw [hl', Nat.mul_one]
 ·have hgb : g ≠ b := fun e => hsep (by rw [e]; rfl)
  have hD : (fun x => if x = b then none else H x : Hp) b = none := by simp
  have hH : H = Hp.set (fun x => if x = b then none else H x) b (.cells c 3 (0, 0)) := by
   funext x
   unfold Hp.set
   by_cases e : x = b
   ·subst e; simp [hb]
   ·simp [e]
  rw [Aq8] at hcap
  have hil := Aq8 xs
  refine Ajq (H₀ := fun x => if x = b then none else H x) (H := H) (n := xs.length) (xs := xs) (.inr ⟨b, c, cp, hD, hH, by rw [hil], by omega, by omega, hcap, hget⟩) (Hp.le_refl _) hm (fun h => by simp only [hgb, if_false] at h; exact h) hys (by omega) ty cb K E (fun v' H1 H2 hr hl => ?_)
  have hkeep : ∀ x u, x ≠ b -> H x = some u -> H2 x = some u := fun x u hn hx => hl _ _ (hr.le _ _ (by simp only [hn, if_false]; exact hx))
  have hlx : Lex none H₀ H2 := fun x u hx => by
   obtain ⟨u', hu', e'⟩ := hlex x u hx
   exact ⟨u', hkeep x u' (fun e => by rw [e, hb0] at hx; cases hx) hu', e'⟩
  rcases hr with ⟨rfl, hn0, he, _⟩ | ⟨b', c', cap', hb', rfl, rfl, hs', hl', hn', hg'⟩
  ·exact h' _ H2 ⟨hlx, .inl ⟨rfl, he⟩⟩ (fun x u hx ho => hkeep x _ (fun e => ho (by rw [e]; rfl)) hx) fun x hx => by cases hx
  ·have hb2 : H2 b' = some (true, .cells c' 3 (0, 0)) := hl _ _ (by rw [Axm, if_pos rfl])
   have hb'0 : H₀ b' = none := by
    by_cases e : b' = b
    ·rw [e]; exact hb0
    ·simp only [e, if_false] at hb'; exact hlex.gone hb'
   refine h' _ H2 ⟨hlx, .inr ⟨b', c', cap', hb'0, hb2, ?_, by omega, by omega, hg'⟩⟩ (fun x u hx ho => hkeep x _ (fun e => ho (by rw [e]; rfl)) hx) fun x hx => by
    simp only [rowB, Option.some.injEq] at hx
    subst hx
    by_cases e : b' = b
    ·exact .inl (by rw [e]; rfl)
    ·simp only [e, if_false] at hb'; exact .inr hb'
   rw [hl', Nat.mul_one]
theorem Bqb {H₀ H : Hp} {v w : Value} {xs ys : List Int} (h : RowX none H₀ H v 3 (ints xs)) (hw : SlI H w ys) (hsep : ys ≠ [] -> ∀ b, rowB w = some b -> rowB v ≠ some b) (hn : xs.length + ys.length <= 1000000) (ty : TypeId) (cb : Array Bool) (K : Next -> Hp -> Prop) (E : Value -> Hp -> Prop)
  (h' : ∀ v' H', RowX none H₀ H' v' 3 (ints (xs ++ ys)) -> (∀ x u, H x = some u -> rowB v ≠ some x -> H' x = some u) -> (∀ x, rowB v' = some x -> rowB v = some x ∨ H x = none) -> K (.value v') H') :
  wpS Tryz.prog (builtin .append #[22, 22] ty cb #[v, w]) H K E := by
 obtain ⟨a, cap, rfl, hcap, hx⟩ := hw
 cases ys with
 | nil =>
  have hv : ∃ va vc, v = .slice va (ints xs).length vc /\ (ints xs).length <= vc := by
   rcases h.2 with ⟨rfl, e⟩ | ⟨b, c, vc, _, _, rfl, _, hc, _⟩
   ·exact ⟨none, 0, by rw [e]; rfl, by rw [e]; exact Nat.le_refl _⟩
   ·exact ⟨_, vc, rfl, hc⟩
  obtain ⟨va, vc, rfl, hvc⟩ := hv
  exact Av7 Tryz.underlying22 Tryz.sizeOf3 _ _ _ _ _ _ _ hvc _ _ (h' _ H (by rw [List.append_nil]; exact h) (fun x u hx _ => hx) fun x hx => .inl hx)
 | cons y0 ys0 =>
  obtain ⟨b, o, p, c, fr, rfl, hb, _⟩ := hx 0 y0 rfl
  refine Bwp h rfl ⟨_, hb⟩ (hsep (by simp) b rfl) (fun j y hj => ?_) hn ty cb K E h'
  obtain ⟨b2, o2, p2, c2, fr2, e2, hb2, hc2⟩ := hx j y hj
  cases e2
  rw [cell_of hb2]
  exact hc2
theorem Bv8 {H : Hp} {b o n cap so : Nat} {xs : List Int} (h : SlI H (.slice (some ⟨b, o, none⟩) n cap) xs) {A : Int} {k : Nat} (hso : 0 < xs.length - (A + 1).toNat -> so = o + (k + 1)) (hk : (A + 1).toNat = k + 1) : SlI H (.slice (some ⟨b, so, none⟩) (xs.length - (A + 1).toNat) (cap - (A + 1).toNat)) (xs.drop (k + 1)) := by
 obtain ⟨a', c', h1, h2, h3⟩ := h
 cases h1
 rw [hk] at hso ⊢
 refine ⟨_, _, by rw [List.length_drop], by rw [List.length_drop]; omega, fun i x hi => ?_⟩
 have hlt := (List.getElem?_eq_some_iff.1 hi).1
 rw [List.length_drop] at hlt
 rw [List.getElem?_drop] at hi
 obtain ⟨b1, o1, p1, c1, fr1, e1, hb1, hc1⟩ := h3 _ x hi
 cases e1
 exact ⟨b, so, p1, c1, fr1, rfl, hb1, by rw [hso (by omega), Nat.add_assoc]; exact hc1⟩
theorem Cqy {pl : Int} {start ts cs o : List Int} {f i : Nat} (hI : Aq7 pl start ts cs = (Aq7 pl o (ts.drop i) (cs.drop i)).map (f + ·)) (h1 : i < ts.length) (h2 : i < cs.length) :
  Aq7 pl start ts cs = if ts[i] ∈ o then (if cs[i] = -1 then (Aq7 pl o (ts.drop (i + 1)) (cs.drop (i + 1))).map (f + ·) else none)
   else if (o.length : Int) < pl then (if cs[i] = -1 then (Aq7 pl (o ++ [ts[i]]) (ts.drop (i + 1)) (cs.drop (i + 1))).map (f + 1 + ·) else none)
   else if cs[i] ∈ o then (Aq7 pl (o.erase cs[i] ++ [ts[i]]) (ts.drop (i + 1)) (cs.drop (i + 1))).map (f + 1 + ·) else none := by
 rw [hI, List.drop_eq_getElem_cons h1, List.drop_eq_getElem_cons h2]
 simp only [Aq7]
 split
 ·split <;> rfl
 ·split
  ·split
   ·rw [Option.map_map]; congr 1; funext x; simp only [Function.comp]; omega
   ·rfl
  ·split
   ·rw [Option.map_map]; congr 1; funext x; simp only [Function.comp]; omega
   ·rfl
theorem Cve {o : List Int} {x : Int} (h : x ∈ o) : o.take (atF o x).toNat ++ o.drop ((atF o x).toNat + 1) = o.erase x := by
 have hm := Cqg h
 refine Cx2 o _ hm.2.2 fun hn => ?_
 obtain ⟨j, hj, he⟩ := List.getElem_of_mem hn
 have hj2 : j < (atF o x).toNat := by simp at hj; omega
 have := Ckp (o := o) (x := x) (j := j) hj2
 rw [List.getElem_take] at he
 exact this (by rw [List.getElem?_eq_getElem (by simp at hj; omega), he])
def Dzy (q : Option Nat) : Int := match q with
 | some n => n
 | none => -1
theorem follow_spec (main : Md) (H : Hp) (places pieces : Int) (sv cv tv lv : Value) (start ts cs : List Int) (hst : SlI H sv start) (hcv : one cv = true) (htv : SlI H tv ts) (hlv : SlI H lv cs) (hsl : start.length <= 1000) (htl : ts.length <= 1000) (hcl : cs.length <= 1000) :
  FnX Tryz.prog main 47 #[.agg #[.int .i64 places, .int .i64 pieces, sv, cv], tv, lv] H fun e H' => e = .returned (.int .i64 (Dzy (Aq7 places start ts cs))) /\ H.le H' := by
 obtain ⟨sa, sc, rfl, hsc, _⟩ := id hst
 obtain ⟨ta, tc, rfl, htc, _⟩ := id htv
 obtain ⟨la, lc, rfl, hlc, _⟩ := id hlv
 have hne : ts.length ≠ cs.length -> Aq7 places start ts cs = none := Bjh
 refine Aqk Tryz.func47 rfl Tryz.ntmps47 (by simp) ?_
 (refine @unH _ ?_; refine zA Aqy ?_; (repeat (refine inC ?_; intro hc)); try (refine inK ?_; intro K hK))
 (intro vb hvb; generalize hG : Hp.set _ vb _ = H1; have lH1 := Aqg hG hvb; have vvb := Aqf hG; clear hG)
 by_cases hlen : (cs.length : Int) = ts.length
 ·have hst1 := hst.le lH1
  ((try (refine @unH _ ?_; refine zX Aqy ?_)); (try (refine hK _ _ ?_; clear hK K; (try simp only [nq, ↓reduceIte, Nat.reduceEqDiff]))); refine @unH _ ?_; refine zA Aqy ?_; (repeat (refine inC ?_; intro hc)); try (refine inK ?_; intro K hK))
  refine (Bx0 _ H1 _ start hst1 (by omega)).runs.mono ?_
  rintro _ H2 ⟨ov, rfl, hrow2⟩
  have vvb2 := hrow2.1.toLe _ _ vvb
  clear hst1 hne
  ((try (refine @unH _ ?_; refine zX Aqy ?_)); (try (refine hK _ _ ?_; clear hK K; (try simp only [nq, ↓reduceIte, Nat.reduceEqDiff]))); refine @unH _ ?_; refine zA Aqy ?_; (repeat (refine inC ?_; intro hc)); try (refine inK ?_; intro K hK))
  have htv1 := htv.le lH1
  have hlv1 := hlv.le lH1
  refine Axe (fun w a' H' => ∃ e, ∃ (i f : Nat) (o : List Int) (ov : Value), w = ts.length - i /\ i <= ts.length /\ a' = act 80 e [] /\ e 1 = .slice ta ts.length tc /\ e 2 = .slice la cs.length lc /\ e 3 = .pointer (some ⟨vb, 0, none⟩) /\ e 7 = ov /\ e 8 = .int .i64 (f : Nat) /\ e 9 = .int .i64 (i : Nat) /\ f <= i /\ o.length <= start.length + i /\ RowX none H1 H' ov 3 (ints o) /\ Aq7 places start ts cs = (Aq7 places o (ts.drop i) (cs.drop i)).map (f + ·)) (n := ts.length) ?_ ?_
  ·exact ⟨_, 0, 0, start, ov, by omega, by omega, rfl, rfl, rfl, rfl, rfl, rfl, rfl, by omega, by omega, hrow2, by simp⟩
  ·clear hrow2 vvb2 H2 ov
   rintro w a' H3 ⟨e, i, f, o, ov, rfl, hi, rfl, e1, e2, e3, e7, e8, e9, hf, hol, hrow, hI⟩
   have l13 := hrow.1.toLe
   have vvb3 := l13 _ _ vvb
   by_cases hlt : i < ts.length
   ·have hlc2 : i < cs.length := by omega
    have hst2 := Cqy hI hlt hlc2
    obtain ⟨b, q, c1, p, c, fr, hve, _, hb, hx⟩ := htv1.cons (fun h => absurd (congrArg List.length h) (by simp only [List.length_nil]; omega))
    obtain ⟨b', q', c1', p', c', fr', hve', _, hb', hx'⟩ := hlv1.cons (fun h => absurd (congrArg List.length h) (by simp only [List.length_nil]; omega))
    cases hve
    cases hve'
    have hb3 := l13 _ _ hb
    have hb3' := l13 _ _ hb'
    have hxi := hx i ts[i] (List.getElem?_eq_getElem hlt)
    have hyi := hx' i cs[i] (List.getElem?_eq_getElem hlc2)
    generalize ts[i] = t at *
    generalize cs[i] = x at *
    have hos := hrow.ints
    obtain ⟨oa, oc, rfl⟩ := hrow.len
    rw [Aq8] at hrow hos e7
    have hA1 := Cko o t
    have hA2 := Cko o x
    have hB1 : 0 <= atF o t ↔ t ∈ o := Bki
    have hB2 : 0 <= atF o x ↔ x ∈ o := Bki
    have hB3 : x ∈ o -> o.take (atF o x).toNat ++ o.drop ((atF o x).toNat + 1) = o.erase x := fun h => Cve h
    have hq1 := Cxt main H3 _ o t hos (by omega)
    have hq2 := Cxt main H3 _ o x hos (by omega)
    replace hq1 : Aqs _ := hq1
    replace hq2 : Aqs _ := hq2
    generalize atF o t = A1 at *
    generalize atF o x = A2 at *
    replace hst2 : Aqs _ := hst2
    replace hB1 : Aqs _ := hB1
    replace hB2 : Aqs _ := hB2
    replace hB3 : Aqs _ := hB3
    clear hI hx hx' hb hb'
    by_cases hA : 0 <= A1
    ·by_cases hx1 : x = -1
     ·have hR : Aq7 places start ts cs = (Aq7 places o (ts.drop (i + 1)) (cs.drop (i + 1))).map (f + ·) := by
       have h : Aq7 places start ts cs = if t ∈ o then _ else _ := hst2
       rw [h, if_pos ((show 0 <= A1 ↔ t ∈ o from hB1).1 hA), if_pos hx1]
      clear hst2 hB1 hB2
      replace hR : Aqs _ := hR
      (refine @unH _ ?_; refine zA Aqy ?_; (repeat (refine inC ?_; intro hc)); try (refine inK ?_; intro K hK))
      refine (show FnX _ _ _ _ _ _ from hq1).runs.mono ?_; rintro _ HQ ⟨rfl, hHQ⟩; rw [hHQ]; clear hHQ HQ; ((try (refine @unH _ ?_; refine zX Aqy ?_)); (try (refine hK _ _ ?_; clear hK K; (try simp only [nq, ↓reduceIte, Nat.reduceEqDiff]))); refine @unH _ ?_; refine zA Aqy ?_; (repeat (refine inC ?_; intro hc)); try (refine inK ?_; intro K hK))
      exact ⟨ts.length - (i + 1), by omega, _, i + 1, f, o, _, rfl, hlt, rfl, e1, e2, e3, e7, e8, rfl, by omega, by omega, hrow, hR⟩
     ·have hR : Aq7 places start ts cs = none := by
       have h : Aq7 places start ts cs = if t ∈ o then _ else _ := hst2
       rw [h, if_pos ((show 0 <= A1 ↔ t ∈ o from hB1).1 hA), if_neg hx1]
      clear hst2 hB1 hB2 hB3
      replace hR : Aqs _ := hR
      (refine @unH _ ?_; refine zA Aqy ?_; (repeat (refine inC ?_; intro hc)); try (refine inK ?_; intro K hK))
      refine (show FnX _ _ _ _ _ _ from hq1).runs.mono ?_; rintro _ HQ ⟨rfl, hHQ⟩; rw [hHQ]; clear hHQ HQ; ((try (refine @unH _ ?_; refine zX Aqy ?_)); (try (refine hK _ _ ?_; clear hK K; (try simp only [nq, ↓reduceIte, Nat.reduceEqDiff]))); refine @unH _ ?_; refine zA Aqy ?_; (repeat (refine inC ?_; intro hc)); try (refine inK ?_; intro K hK))
      (refine @unH _ ?_; refine z9 Tryz.results47 ?_)
      rw [show Aq7 places start ts cs = none from hR]
      exact ⟨rfl, Hp.le_trans lH1 l13⟩
    ·by_cases hfull : (o.length : Int) < places
     ·by_cases hx1 : x = -1
      ·have hR : Aq7 places start ts cs = (Aq7 places (o ++ [t]) (ts.drop (i + 1)) (cs.drop (i + 1))).map (f + 1 + ·) := by
        have h : Aq7 places start ts cs = if t ∈ o then _ else _ := hst2
        rw [h, if_neg (fun h => hA ((show 0 <= A1 ↔ t ∈ o from hB1).2 h)), if_pos hfull, if_pos hx1]
       clear hst2 hB1 hB2
       replace hR : Aqs _ := hR
       (refine @unH _ ?_; refine zA Aqy ?_; (repeat (refine inC ?_; intro hc)); try (refine inK ?_; intro K hK))
       refine (show FnX _ _ _ _ _ _ from hq1).runs.mono ?_; rintro _ HQ ⟨rfl, hHQ⟩; rw [hHQ]; clear hHQ HQ; ((try (refine @unH _ ?_; refine zX Aqy ?_)); (try (refine hK _ _ ?_; clear hK K; (try simp only [nq, ↓reduceIte, Nat.reduceEqDiff]))); refine @unH _ ?_; refine zA Aqy ?_; (repeat (refine inC ?_; intro hc)); try (refine inK ?_; intro K hK))
       intro nb hnb
       generalize hG : Hp.set H3 nb _ = H5
       have lH5 := Aqg hG hnb
       have vnb := Aqf hG
       clear hG
       have hw : SlI H5 (.slice (some ⟨nb, 0, none⟩) 1 1) [t] := Azr (xs := [t]) vnb rfl
       have hsep : rowB (.slice oa o.length oc) ≠ some nb := hrow.rowB_ne fun c fr h => by rw [hnb] at h; cases h
       have hrow5 := hrow.le lH5
       refine Avp hrow5 hw (fun _ b hb => by simp only [rowB, Option.some.injEq] at hb; subst hb; exact hsep) (by simp only [List.length_cons, List.length_nil]; omega) _ _ _ _ (fun v6 H6 hrow6 hkeep => ?_)
       clear hw hsep hrow5 hkeep lH5 vnb hnb hrow hos
       ((try (refine @unH _ ?_; refine zX Aqy ?_)); (try (refine hK _ _ ?_; clear hK K; (try simp only [nq, ↓reduceIte, Nat.reduceEqDiff]))); refine @unH _ ?_; refine zA Aqy ?_; (repeat (refine inC ?_; intro hc)); try (refine inK ?_; intro K hK))
       exact ⟨ts.length - (i + 1), by omega, _, i + 1, f + 1, o ++ [t], _, rfl, hlt, rfl, e1, e2, e3, rfl, rfl, rfl, by omega, by simp only [List.length_append, List.length_cons, List.length_nil]; omega, hrow6, hR⟩
      ·have hR : Aq7 places start ts cs = none := by
        have h : Aq7 places start ts cs = if t ∈ o then _ else _ := hst2
        rw [h, if_neg (fun h => hA ((show 0 <= A1 ↔ t ∈ o from hB1).2 h)), if_pos hfull, if_neg hx1]
       clear hst2 hB1 hB2 hB3
       replace hR : Aqs _ := hR
       (refine @unH _ ?_; refine zA Aqy ?_; (repeat (refine inC ?_; intro hc)); try (refine inK ?_; intro K hK))
       refine (show FnX _ _ _ _ _ _ from hq1).runs.mono ?_; rintro _ HQ ⟨rfl, hHQ⟩; rw [hHQ]; clear hHQ HQ; ((try (refine @unH _ ?_; refine zX Aqy ?_)); (try (refine hK _ _ ?_; clear hK K; (try simp only [nq, ↓reduceIte, Nat.reduceEqDiff]))); refine @unH _ ?_; refine zA Aqy ?_; (repeat (refine inC ?_; intro hc)); try (refine inK ?_; intro K hK))
       (refine @unH _ ?_; refine z9 Tryz.results47 ?_)
       rw [show Aq7 places start ts cs = none from hR]
       exact ⟨rfl, Hp.le_trans lH1 l13⟩
     ·by_cases hA' : 0 <= A2
      ·have hxo : x ∈ o := (show 0 <= A2 ↔ x ∈ o from hB2).1 hA'
       have hB3' : o.take A2.toNat ++ o.drop (A2.toNat + 1) = o.erase x := (show x ∈ o -> _ from hB3) hxo
       replace hB3' : Aqs _ := hB3'
       have hR : Aq7 places start ts cs = (Aq7 places (o.erase x ++ [t]) (ts.drop (i + 1)) (cs.drop (i + 1))).map (f + 1 + ·) := by
        have h : Aq7 places start ts cs = if t ∈ o then _ else _ := hst2
        rw [h, if_neg (fun h => hA ((show 0 <= A1 ↔ t ∈ o from hB1).2 h)), if_neg hfull, if_pos hxo]
       clear hst2 hB1 hB2
       replace hR : Aqs _ := hR
       clear hB3
       replace hxo : Aqs _ := hxo
       obtain ⟨ob, oo, oc1, op1, occ, ofr, hoe, _, hob0, _⟩ := hos.cons (fun h => by rw [show o = [] from h] at hA2; simp at hA2; omega)
       cases hoe
       have hob : ∃ u, H3 ob = some u := ⟨_, hob0⟩
       clear hob0
       have hoc : o.length <= oc := by obtain ⟨_, _, h1, h2, _⟩ := id hos; cases h1; exact h2
       have hkl : (o.take A2.toNat).length = A2.toNat := by rw [List.length_take]; omega
       have hso : ∃ so : Nat, (if oc = (A2 + 1).toNat then some (⟨ob, oo, none⟩ : Addr) else some ⟨ob, oo + (A2 + 1).toNat, none⟩) = some ⟨ob, so, none⟩ /\ (0 < o.length - (A2 + 1).toNat -> so = oo + (A2.toNat + 1)) := by
        by_cases hc1 : oc = (A2 + 1).toNat
        ·exact ⟨oo, by rw [if_pos hc1], fun h => by omega⟩
        ·exact ⟨oo + (A2 + 1).toNat, by rw [if_neg hc1], fun _ => by omega⟩
       obtain ⟨so, hso, hso2⟩ := hso
       (refine @unH _ ?_; refine zA Aqy ?_; (repeat (refine inC ?_; intro hc)); try (refine inK ?_; intro K hK))
       refine (show FnX _ _ _ _ _ _ from hq1).runs.mono ?_; rintro _ HQ ⟨rfl, hHQ⟩; rw [hHQ]; clear hHQ HQ; ((try (refine @unH _ ?_; refine zX Aqy ?_)); (try (refine hK _ _ ?_; clear hK K; (try simp only [nq, ↓reduceIte, Nat.reduceEqDiff]))); refine @unH _ ?_; refine zA Aqy ?_; (repeat (refine inC ?_; intro hc)); try (refine inK ?_; intro K hK))
       refine (show FnX _ _ _ _ _ _ from hq2).runs.mono ?_; rintro _ HQ ⟨rfl, hHQ⟩; rw [hHQ]; clear hHQ HQ; ((try (refine @unH _ ?_; refine zX Aqy ?_)); (try (refine hK _ _ ?_; clear hK K; (try simp only [nq, ↓reduceIte, Nat.reduceEqDiff]))); refine @unH _ ?_; refine zA Aqy ?_; (repeat (refine inC ?_; intro hc)); try (refine inK ?_; intro K hK))
       refine Ajo (fun HX => HX b = some (p, .cells c 3 fr)) [14, 15] (.take 0 (.take 1 (.take 2 (.take 4 (.take 5 (.take 6 (.take 7 (.take 9 (.take 10 (.take 11 (.take 12 (.two 3 (.two 8 (.one 13 (.one 14 (.one 15 .nil))) 13 (.one 8 (.one 14 (.one 15 .nil)))) 13 (.one 3 (.one 8 (.one 14 (.one 15 .nil)))))))))))))))) (by kernel_rfl) (by kernel_rfl) (by decide) (by kernel_rfl) ?_; intro K hK
       (iterate 11 (apply Axd rfl rfl rfl ‹_›; (focus (intro HX hHX; simp -implicitDefEqProofs (disch := first | omega | (simp only [qd] <;> omega)) only [xq, ↓xp, qc, Nat.reduceAdd, List.range, List.range.loop, fine, Nat.reduceEqDiff, ↓reduceIte, yielded, reduceCtorEq, Nat.reduceLT, Nat.reduceMul, Nat.reduceSub, one, Nat.reduceLeDiff, Aqa, Aqy, aq, ↓ap, qe0, qe1, qe2, *, -hK, Aqz, hHX] <;> (first | exact rfl | exact ⟨rfl, rfl⟩ | exact ⟨rfl, trivial⟩))); simp -implicitDefEqProofs (disch := first | omega | (simp only [qd] <;> omega)) only [Aqn, Aqc]))
       clear e7 hq1 hq2 hA1
       refine ⟨?_, ?_⟩
       ·(refine @unH _ ?_; refine zX Aqy ?_)
        refine (Bx0 main H3 _ (o.take A2.toNat) (Cwo (hos.le (Hp.le_refl H3)) (by omega)) (by simp; omega)).runs.mono ?_
        rintro _ Ka ⟨kv, rfl, krow0⟩
        have krow := krow0.base (Lex.of (Hp.le_refl H3))
        have l3a := krow.1.toLe
        have lka := krow0.1.toLe
        obtain ⟨ka, kc, rfl⟩ := krow.len
        rw [Aq8, hkl] at krow krow0 ⊢
        have nkb : rowB (.slice ka A2.toNat kc) ≠ some b := fun h => by have h1 := krow.rowB_new h; rw [hb3] at h1; cases h1
        have nko : rowB (.slice ka A2.toNat kc) ≠ some ob := fun h => by have h1 := krow.rowB_new h; obtain ⟨u, hu⟩ := hob; rw [hu] at h1; cases h1
        have hbKa := lka _ _ hb3
        (refine @unH _ ?_; refine zX Aqy ?_)
        refine ⟨.inr fun _ => by first | trivial | exact hbKa, ?_⟩
        refine ⟨?_, ?_⟩
        ·(refine @unH _ ?_; refine zX Aqy ?_)
         refine Bqb krow (Bv8 (hos.le l3a) hso2 (by omega)) (fun _ b' hb' => by simp only [rowB, Option.some.injEq] at hb'; subst hb'; exact nko) (by simp; omega) _ _ _ _ (fun v2 Kb row2 keep2 new2 => ?_)
         rw [show o.take A2.toNat ++ o.drop (A2.toNat + 1) = o.erase x from hB3'] at row2
         obtain ⟨ra, rc, rfl⟩ := row2.len
         rw [Aq8] at row2 new2 ⊢
         have hb2 := keep2 _ _ hbKa nkb
         (refine @unH _ ?_; refine zX Aqy ?_)
         refine ⟨.inr fun _ => by first | trivial | exact hb2, ?_⟩
         refine Aq6 ?_
         (refine @unH _ ?_; refine zX Aqy ?_)
         intro nb hnb
         generalize hG : Hp.set Kb nb _ = Kc
         have lnb := Aqg hG hnb
         have vnb := Aqf hG
         clear hG
         refine ⟨.inr fun _ => by first | trivial | exact lnb _ _ hb2 | simp [Ax1 hb2 hnb, hb2], ?_⟩
         have hbKc := lnb _ _ hb2
         have row3 := row2.le lnb
         have sep : rowB (.slice ra (o.erase x).length rc) ≠ some nb := row2.rowB_ne fun c fr h => by rw [hnb] at h; cases h
         refine Aq6 ?_
         (refine @unH _ ?_; refine zX Aqy ?_)
         refine Avp row3 (Azr (xs := [t]) vnb rfl) (fun _ b' hb' => by simp only [rowB, Option.some.injEq] at hb'; subst hb'; exact sep) (by simp only [List.length_cons, List.length_nil]; have := List.length_erase_le (a := x) (l := o); omega) _ _ _ _ (fun v6 H6 hrow6 _ => ?_)
         obtain ⟨fa, fc, rfl⟩ := hrow6.len
         rw [Aq8] at hrow6 ⊢
         (refine @unH _ ?_; refine zX Aqy ?_)
         refine ⟨.inl (by decide), ?_⟩
         refine Aq6 ?_
         (refine @unH _ ?_; refine zX Aqy ?_)
         refine ⟨.inl (by decide), ?_⟩
         have hrow7 := hrow6.base hrow.1
         refine Azy (hK _ _ ?_)
         clear hK K hrow6
         (try simp only [nq, ↓reduceIte, Nat.reduceEqDiff])
         (refine @unH _ ?_; refine zA Aqy ?_; (repeat (refine inC ?_; intro hc)); try (refine inK ?_; intro K hK))
         exact ⟨ts.length - (i + 1), by omega, _, i + 1, f + 1, o.erase x ++ [t], _, rfl, hlt, rfl, e1, e2, e3, rfl, rfl, rfl, by omega, by simp only [List.length_append, List.length_cons, List.length_nil]; have := List.length_erase_le (a := x) (l := o); omega, hrow7, hR⟩
        ·(refine @unH _ ?_; refine zX Aqy ?_)
         intro nb hnb
         generalize hG : Hp.set Ka nb _ = Kb
         have lnb := Aqg hG hnb
         have vnb := Aqf hG
         clear hG
         refine ⟨.inr fun _ => by first | trivial | exact lnb _ _ hbKa | simp [Ax1 hbKa hnb, hbKa], ?_⟩
         have hbKb := lnb _ _ hbKa
         refine Aq6 ?_
         have krowb := krow.le lnb
         have l3b := Hp.le_trans l3a lnb
         have sep0 : rowB (.slice ka A2.toNat kc) ≠ some nb := krow.rowB_ne fun c fr h => by rw [hnb] at h; cases h
         (refine @unH _ ?_; refine zX Aqy ?_)
         refine Bqb krowb (Bv8 (hos.le l3b) hso2 (by omega)) (fun _ b' hb' => by simp only [rowB, Option.some.injEq] at hb'; subst hb'; exact nko) (by simp; omega) _ _ _ _ (fun v2 Kc row2 keep2 new2 => ?_)
         rw [show o.take A2.toNat ++ o.drop (A2.toNat + 1) = o.erase x from hB3'] at row2
         obtain ⟨ra, rc, rfl⟩ := row2.len
         rw [Aq8] at row2 new2 ⊢
         have hb2 := keep2 _ _ hbKb nkb
         (refine @unH _ ?_; refine zX Aqy ?_)
         refine ⟨.inr fun _ => by first | trivial | exact hb2, ?_⟩
         have vnb3 := keep2 _ _ vnb sep0
         have sep : rowB (.slice ra (o.erase x).length rc) ≠ some nb := fun h => (new2 _ h).elim sep0 fun h1 => by rw [vnb] at h1; cases h1
         refine Aq6 ?_
         (refine @unH _ ?_; refine zX Aqy ?_)
         refine Avp row2 (Azr (xs := [t]) vnb3 rfl) (fun _ b' hb' => by simp only [rowB, Option.some.injEq] at hb'; subst hb'; exact sep) (by simp only [List.length_cons, List.length_nil]; have := List.length_erase_le (a := x) (l := o); omega) _ _ _ _ (fun v6 H6 hrow6 _ => ?_)
         obtain ⟨fa, fc, rfl⟩ := hrow6.len
         rw [Aq8] at hrow6 ⊢
         (refine @unH _ ?_; refine zX Aqy ?_)
         refine ⟨.inl (by decide), ?_⟩
         refine Aq6 ?_
         (refine @unH _ ?_; refine zX Aqy ?_)
         refine ⟨.inl (by decide), ?_⟩
         have hrow7 := hrow6.base hrow.1
         refine Azy (hK _ _ ?_)
         clear hK K hrow6
         (try simp only [nq, ↓reduceIte, Nat.reduceEqDiff])
         (refine @unH _ ?_; refine zA Aqy ?_; (repeat (refine inC ?_; intro hc)); try (refine inK ?_; intro K hK))
         exact ⟨ts.length - (i + 1), by omega, _, i + 1, f + 1, o.erase x ++ [t], _, rfl, hlt, rfl, e1, e2, e3, rfl, rfl, rfl, by omega, by simp only [List.length_append, List.length_cons, List.length_nil]; have := List.length_erase_le (a := x) (l := o); omega, hrow7, hR⟩
       ·(refine @unH _ ?_; refine zX Aqy ?_)
        intro nb hnb
        generalize hG : Hp.set H3 nb _ = Kn
        have lnb := Aqg hG hnb
        have vnb := Aqf hG
        clear hG
        refine ⟨.inr fun _ => by first | trivial | exact lnb _ _ hb3 | simp [Ax1 hb3 hnb, hb3], ?_⟩
        have hbKn := lnb _ _ hb3
        refine Aq6 ?_
        (refine @unH _ ?_; refine zX Aqy ?_)
        refine (Bx0 main Kn _ (o.take A2.toNat) (Cwo (hos.le lnb) (by omega)) (by simp; omega)).runs.mono ?_
        rintro _ Ka ⟨kv, rfl, krow0⟩
        have krow := krow0.base (Lex.of lnb)
        have l3a := krow.1.toLe
        have lka := krow0.1.toLe
        obtain ⟨ka, kc, rfl⟩ := krow.len
        rw [Aq8, hkl] at krow krow0 ⊢
        have nkb : rowB (.slice ka A2.toNat kc) ≠ some b := fun h => by have h1 := krow.rowB_new h; rw [hb3] at h1; cases h1
        have nko : rowB (.slice ka A2.toNat kc) ≠ some ob := fun h => by have h1 := krow.rowB_new h; obtain ⟨u, hu⟩ := hob; rw [hu] at h1; cases h1
        have hbKa := lka _ _ hbKn
        (refine @unH _ ?_; refine zX Aqy ?_)
        refine ⟨.inr fun _ => by first | trivial | exact hbKa, ?_⟩
        have vnba := lka _ _ vnb
        have sep0 : rowB (.slice ka A2.toNat kc) ≠ some nb := fun h => by have h1 := krow0.rowB_new h; rw [vnb] at h1; cases h1
        refine Aq6 ?_
        (refine @unH _ ?_; refine zX Aqy ?_)
        refine Bqb krow (Bv8 (hos.le l3a) hso2 (by omega)) (fun _ b' hb' => by simp only [rowB, Option.some.injEq] at hb'; subst hb'; exact nko) (by simp; omega) _ _ _ _ (fun v2 Kc row2 keep2 new2 => ?_)
        rw [show o.take A2.toNat ++ o.drop (A2.toNat + 1) = o.erase x from hB3'] at row2
        obtain ⟨ra, rc, rfl⟩ := row2.len
        rw [Aq8] at row2 new2 ⊢
        have hb2 := keep2 _ _ hbKa nkb
        (refine @unH _ ?_; refine zX Aqy ?_)
        refine ⟨.inr fun _ => by first | trivial | exact hb2, ?_⟩
        have vnb3 := keep2 _ _ vnba sep0
        have sep : rowB (.slice ra (o.erase x).length rc) ≠ some nb := fun h => (new2 _ h).elim sep0 fun h1 => by rw [vnba] at h1; cases h1
        refine Aq6 ?_
        (refine @unH _ ?_; refine zX Aqy ?_)
        refine Avp row2 (Azr (xs := [t]) vnb3 rfl) (fun _ b' hb' => by simp only [rowB, Option.some.injEq] at hb'; subst hb'; exact sep) (by simp only [List.length_cons, List.length_nil]; have := List.length_erase_le (a := x) (l := o); omega) _ _ _ _ (fun v6 H6 hrow6 _ => ?_)
        obtain ⟨fa, fc, rfl⟩ := hrow6.len
        rw [Aq8] at hrow6 ⊢
        (refine @unH _ ?_; refine zX Aqy ?_)
        refine ⟨.inl (by decide), ?_⟩
        refine Aq6 ?_
        (refine @unH _ ?_; refine zX Aqy ?_)
        refine ⟨.inl (by decide), ?_⟩
        have hrow7 := hrow6.base hrow.1
        refine Azy (hK _ _ ?_)
        clear hK K hrow6
        (try simp only [nq, ↓reduceIte, Nat.reduceEqDiff])
        (refine @unH _ ?_; refine zA Aqy ?_; (repeat (refine inC ?_; intro hc)); try (refine inK ?_; intro K hK))
        exact ⟨ts.length - (i + 1), by omega, _, i + 1, f + 1, o.erase x ++ [t], _, rfl, hlt, rfl, e1, e2, e3, rfl, rfl, rfl, by omega, by simp only [List.length_append, List.length_cons, List.length_nil]; have := List.length_erase_le (a := x) (l := o); omega, hrow7, hR⟩
      ·have hR : Aq7 places start ts cs = none := by
        have h : Aq7 places start ts cs = if t ∈ o then _ else _ := hst2
        rw [h, if_neg (fun h => hA ((show 0 <= A1 ↔ t ∈ o from hB1).2 h)), if_neg hfull, if_neg (fun h => hA' ((show 0 <= A2 ↔ x ∈ o from hB2).2 h))]
       clear hst2 hB1 hB2 hB3
       replace hR : Aqs _ := hR
       (refine @unH _ ?_; refine zA Aqy ?_; (repeat (refine inC ?_; intro hc)); try (refine inK ?_; intro K hK))
       refine (show FnX _ _ _ _ _ _ from hq1).runs.mono ?_; rintro _ HQ ⟨rfl, hHQ⟩; rw [hHQ]; clear hHQ HQ; ((try (refine @unH _ ?_; refine zX Aqy ?_)); (try (refine hK _ _ ?_; clear hK K; (try simp only [nq, ↓reduceIte, Nat.reduceEqDiff]))); refine @unH _ ?_; refine zA Aqy ?_; (repeat (refine inC ?_; intro hc)); try (refine inK ?_; intro K hK))
       refine (show FnX _ _ _ _ _ _ from hq2).runs.mono ?_; rintro _ HQ ⟨rfl, hHQ⟩; rw [hHQ]; clear hHQ HQ; ((try (refine @unH _ ?_; refine zX Aqy ?_)); (try (refine hK _ _ ?_; clear hK K; (try simp only [nq, ↓reduceIte, Nat.reduceEqDiff]))); refine @unH _ ?_; refine zA Aqy ?_; (repeat (refine inC ?_; intro hc)); try (refine inK ?_; intro K hK))
       (refine @unH _ ?_; refine z9 Tryz.results47 ?_)
       rw [show Aq7 places start ts cs = none from hR]
       exact ⟨rfl, Hp.le_trans lH1 l13⟩
   ·obtain rfl : i = ts.length := by omega
    have hR : Aq7 places start ts cs = some f := by
     rw [hI, List.drop_length, show ts.length = cs.length by omega, List.drop_length]
     simp [Aq7]
    clear hI
    replace hR : Aqs _ := hR
    (refine @unH _ ?_; refine zA Aqy ?_; (repeat (refine inC ?_; intro hc)); try (refine inK ?_; intro K hK))
    (refine @unH _ ?_; refine z9 Tryz.results47 ?_)
    rw [show Aq7 places start ts cs = some f from hR]
    exact ⟨rfl, Hp.le_trans lH1 l13⟩
 ·have hR := hne (by omega)
  clear hne
  replace hR : Aqs _ := hR
  ((try (refine @unH _ ?_; refine zX Aqy ?_)); (try (refine hK _ _ ?_; clear hK K; (try simp only [nq, ↓reduceIte, Nat.reduceEqDiff]))); refine @unH _ ?_; refine zA Aqy ?_; (repeat (refine inC ?_; intro hc)); try (refine inK ?_; intro K hK))
  (refine @unH _ ?_; refine z9 Tryz.results47 ?_)
  rw [show Aq7 places start ts cs = none from hR]
  exact ⟨rfl, lH1⟩
end Go.Proofs.YtgniilnljeedlaaGreatDoor
end
section
namespace Go.X
open Go Go.RowKit
open Go.Conc (G base)
theorem Base.below {W w : World} (h : Base W w) : Below W.heap.size W { w with tape := W.tape } := ⟨h.os, rfl, h.output, h.size, h.block⟩
theorem Base.kept {W w : World} (h : Base W w) (may : MemPlace -> Prop) : W.keptBut w may := by
 have := World.keptBut_refl W may
 refine ⟨h.os, h.output, fun i hi => ?_⟩
 rw [h.block i hi]
 exact this.2.2 i hi
theorem leaving_of_change_and {H : Type} {enc : TypeId × Value -> H} {a : Assume} {C : Checked} {os : Os} {f : FuncId} {fn : Func} {s : ChangeSpec} {conds : List PathCond} {apart fresh handsOn again : Bool} {X : World -> Array Value -> Prop}
  (hX : ∀ (w w' : World) (args : Array Value), w.heap = w'.heap -> X w args -> X w' args)
  (own : ownKnob C.prog.godebug = none) (started : os.Started) (hfn : C.prog.funcs[f]? = some fn)
  (witness : ∃ (w : World) (tape : Tape) (i : Input), w.os = os /\ (w.forCall tape i).Shaped C.prog /\ i.vars = [] /\ Input.okWide C.prog (w.forCall tape i) .any w.heap.size f i /\
   ((s.pre enc C.prog fn conds apart (w.forCall tape i).memory i.args /\ X (w.forCall tape i).memory i.args) /\ sizedMet enc C.prog fn (OpenSpec.ofChange s) apart (w.forCall tape i).memory i.args) /\ a.holds C.prog (lone (Frame.enter C.prog f i.args .normal) [] (w.forCall tape i)))
  (runs : ∀ (W : World) (base : Nat) (args : Array Value) (ds gs : List (DataW H)) (before : List MemPlace),
   (∀ (j : Nat) t v, fn.params[j]? = some t -> args[j]? = some v -> Value.okWide C.prog W .any base t v) ->
   DataW.Whole enc C.prog fn.params.toList s.vars apart W args.toList ds gs before -> X W args ->
   Ends C.prog (fun v W' => s.post enc C.prog fn apart fresh handsOn again W args v W') (Conc.solo (G (Frame.enter C.prog f args .normal) []) W) #[]) :
  ReturnsInLeavingWide a C os f .any (fun w args => (s.pre enc C.prog fn conds apart w args /\ X w args) /\ sizedMet enc C.prog fn (OpenSpec.ofChange s) apart w args) (s.post enc C.prog fn apart fresh handsOn again) := by
 refine returnsInLeavingWide_of_good own started witness ?_
 intro w tape i _ _ _ hok hpre hholds
 obtain ⟨_, _, _, fn', hfn', _, _, _, _, hval⟩ := hok
 have e : fn' = fn := Option.some.inj (hfn'.symm.trans hfn)
 subst e
 obtain ⟨⟨⟨ds, gs, before, hw, hc⟩, hx⟩, hz⟩ := hpre
 have hw' := DataW.Whole.of_heap (w' := w.forCall tape i) (by rfl) hw
 obtain ⟨M, last, o, w', t', h1, h2, h3, h4⟩ := runs (w.forCall tape i) w.heap.size i.args ds gs before hval hw' (hX _ _ _ (by rfl) hx)
 exact ⟨M, last, o, w', t', h1, h2, h3, h4.mono fun v hp => ChangeSpec.post_blind hp⟩
end Go.X
end
section
namespace Go.Proofs.YtgniilnljeedlaaGreatDoor
open Go Go.X Go.ChangeShapes Go.WideShapes Go.RowKit
theorem ownK : ownKnob Tryz.prog.godebug = none := by kernel_rfl
theorem laidOutK : laidOutB Tryz.prog = true := by kernel_rfl
theorem cellsK : Tryz.prog.cellsOf 3 = 1 := by kernel_rfl
noncomputable def laidWorld (os : Os) : World :=
 let w0 := World.holding Tryz.prog os ⟨#[], #[], []⟩
 {w0 with heap := w0.heap.modify 0 fun
   | .cells _ t frozen => .cells #[.iface 210 (.agg #[.pointer (some ⟨1, 139, none⟩)])] t frozen
   | o => o }
theorem laidWorld_met (os : Os) (args : Array Value) : laidMetH Tryz.prog [("errors.errorType", Rows.laid_errors_errorType)] ((laidWorld os).forCall (fun _ _ => 0) ⟨#[], args, []⟩).memory :=
 laidMetH_of_parts (laidMet_nil _ _) (by kernel_rfl)
theorem results_tmp {fn : Func} {t : Tmp} (h : fn.results = #[.tmp t]) (P : Program) (tmps : Array Value) (w : World) (v : Value) (w' : World) (hr : (results fn tmps).run P w = .ok v w') : w' = w := by
 simp [results, h] at hr
 exact hr.2.symm
end Go.Proofs.YtgniilnljeedlaaGreatDoor
end
