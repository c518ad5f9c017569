/- Texts SmZ SmRe SmE SmEv PlanZ. -/
import Derived.Test.YtnfnaehonkbknaaGreatDoorJ19
set_option linter.defProp false
set_option linter.unusedSimpArgs false
set_option linter.unusedVariables false
set_option maxRecDepth 100000
set_option maxHeartbeats 2000000
section
namespace Go.X
open Go
theorem SlG.hi {e : TypeId} {sz : Nat} {H : Hp} {a : Option Addr} {n cap : Nat} {rows : List (List Value)} (h : SlG e sz H (.slice a n cap) rows) {k : Nat} (hk : k <= n) : SlG e sz H (.slice a k k) (rows.take k) := by
 obtain ⟨h1, h2⟩ := h.len
 have hl : (rows.take k).length = k := by rw [List.length_take]; omega
 refine ⟨a, k, by rw [hl], by rw [hl]; exact Nat.le_refl _, fun i r hr => ?_⟩
 have hi : i < k := by have := (List.getElem?_eq_some_iff.1 hr).1; omega
 rw [List.getElem?_take_of_lt hi] at hr
 exact h.get hr
theorem SlG.lo {e : TypeId} {sz : Nat} {H : Hp} {b o n cap : Nat} {rows : List (List Value)} (h : SlG e sz H (.slice (some ⟨b, o, none⟩) n cap) rows) {k : Nat} (hk : k <= n) : SlG e sz H (.slice (if cap = k then some ⟨b, o, none⟩ else some ⟨b, o + k * sz, none⟩) (n - k) (cap - k)) (rows.drop k) := by
 obtain ⟨h1, h2⟩ := h.len
 have hl : (rows.drop k).length = n - k := by rw [List.length_drop]; omega
 refine ⟨_, cap - k, by rw [hl], by rw [hl]; omega, fun i r hr => ?_⟩
 have hi : i < n - k := by have := (List.getElem?_eq_some_iff.1 hr).1; omega
 rw [List.getElem?_drop] at hr
 obtain ⟨b', o', p, c, fr, g1, g2, g3, g4, g5⟩ := h.get hr
 cases g1
 have e1 : o + k * sz + i * sz = o + (k + i) * sz := by rw [Nat.add_mul]; omega
 exact ⟨b, o + k * sz, p, c, fr, by rw [if_neg (by omega)], g2, by rw [e1]; exact g3, g4, by rw [e1]; exact g5⟩
end Go.X
namespace Go.Proofs.YtnfnaehonkbknaaGreatDoor
open Go Go.X Go.Proofs.Tryz
def Axu := aN @Dwj (aN @Bjx (aN @Dvq (aN @Dwb (aN @Dyf (aN @Dxy (aN @Dyg (aN @Dyb (aN @Dv9 (aN @Dw1 (aN @Dwr (aN @Dyd (aN @Dw8 (aN @Dwc (aN @Dyl (aN @Dym (aN @Dyj (aN (fun H => Bqj (H := H) underlying24 sizeOf46) (aN @Dva @Dxu))))))))))))))))))
def woN (ns : List Ns) (l : List Int) : List Ns := l.foldr (fun i L => L.take i.toNat ++ L.drop (i.toNat + 1)) ns
def woS (s : Sm) (l : List Int) : Sm := ⟨s.places, s.doors, s.hampers, woN s.noses l⟩
theorem Cql {ns : List Ns} : ∀ {l : List Int} {n : Ns}, n ∈ woN ns l -> n ∈ ns
 | [], _, h => h
 | i :: l, n, h => by
  unfold woN at h
  rw [List.foldr_cons] at h
  rcases List.mem_append.1 h with h | h
  ·exact Cql (l := l) (List.mem_of_mem_take h)
  ·exact Cql (l := l) (List.mem_of_mem_drop h)
theorem Cv1 {ns : List Ns} : ∀ (l : List Int), (woN ns l).length <= ns.length
 | [] => Nat.le_refl _
 | i :: l => by
  have := Cv1 (ns := ns) l
  unfold woN at this ⊢
  rw [List.foldr_cons, List.length_append, List.length_take, List.length_drop]
  omega
theorem Dke {s : Sm} (ok : SmOk s) (l : List Int) : SmOk (woS s l) :=
 ⟨ok.p0, ok.p1, ok.dl, ok.dk, ok.h0, ok.h1, ok.hk, ok.hd, Nat.le_trans (Cv1 l) ok.nl, fun n hn => ok.nk n (Cql hn)⟩
def Ck4 (n : Nat) : Bool := (Aye n).all fun l => decide (l.length <= n) && (List.range l.length).all fun k => decide (0 <= l.getD k 0) && decide (l.getD k 0 + ((l.length : Int) - 1 - (k : Int)) < (n : Int))
theorem Ck5 (n : Nat) (hn : n <= 4) : Ck4 n = true := by
 rcases (by omega : n = 0 ∨ n = 1 ∨ n = 2 ∨ n = 3 ∨ n = 4) with rfl | rfl | rfl | rfl | rfl <;> kernel_rfl
theorem Cys {n : Nat} (hn : n <= 4) {l : List Int} (hl : l ∈ Aye n) : l.length <= n /\ ∀ (k : Nat) (x : Int), l[k]? = some x -> 0 <= x /\ x + ((l.length : Int) - 1 - (k : Int)) < (n : Int) := by
 have h := Ck5 n hn
 unfold Ck4 at h
 rw [List.all_eq_true] at h
 have h := h l hl
 rw [Bool.and_eq_true, List.all_eq_true] at h
 refine ⟨by simpa using h.1, fun k x hx => ?_⟩
 have hk := (List.getElem?_eq_some_iff.1 hx).1
 have := h.2 k (List.mem_range.2 hk)
 simp only [Bool.and_eq_true, decide_eq_true_eq, List.getD, hx, Option.getD_some] at this
 exact this
theorem Bzz {α : Type} {p : α -> Bool} : ∀ {L : List α} {k : Nat} {l : α}, L[k]? = some l -> (∀ x ∈ L.take k, p x = false) -> p l = true -> L.find? p = some l
 | [], _, _, h, _, _ => by simp at h
 | a :: L, 0, l, h, _, hp => by
  simp only [List.getElem?_cons_zero, Option.some.injEq] at h
  subst h
  rw [List.find?_cons, hp]
 | a :: L, k + 1, l, h, hn, hp => by
  rw [List.find?_cons, hn a (by simp)]
  exact Bzz (k := k) (by simpa using h) (fun x hx => hn x (by simp [hx])) hp
def wroF (s : Sm) : List Int := ((Aye s.noses.length).find? fun l => decide (0 < Azh (woS s l))).getD []
theorem By9 (H : Hp) (s : Sm) (dv hv nv : Value) (hs : SmIn H dv hv nv s) (ok : SmOk s) :
  FnX Tryz.prog (.wg Tryz.prog) 34 #[smV s.places dv hv nv] H fun e H' => ∃ v, e = .returned (.tuple #[v, .int .i64 0]) /\ SlI H' v (wroF s) /\ H.le H' := by
 obtain ⟨da, dc, ha, kc, na, nc, rfl, rfl, rfl, l1, l2, l3⟩ := hs.forms
 have hnl := ok.nl
 refine Aql func34 rfl ntmps34 (by simp) ?_
 (refine @unH _ (zA Axu ?_); (try clear hK K); intro K hK hc)
 (intro sb hsb; generalize hG : Hp.set _ sb _ = H1; have lH1 := Aqc hG hsb; have vsb := Aqb hG; clear hG)
 have hs1 := hs.le lH1
 clear hs hsb
 (refine @unH _ (zU Axu ?_); (try clear hK K); intro K hK hc)
 refine (Ak8 _ H1 s _ _ _ hs1 ok).runs.mono ?_
 rintro _ H2 ⟨rfl, lH2⟩
 have l02 := Hp.le_trans lH1 lH2
 have vs2 := lH2 _ _ vsb
 have hs2 := hs1.le lH2
 clear lH1 lH2 vsb hs1
 (refine @unH _ (zU Axu ?_); (try clear hK K); intro K hK hc)
 refine (By5 _ H2 s.noses.length hnl).runs.mono ?_
 rintro _ H3 ⟨lv, rfl, hlv, lH3⟩
 have l03 := Hp.le_trans l02 lH3
 have vs3 := lH3 _ _ vs2
 have hs3 := hs2.le lH3
 clear l02 lH3 vs2 hs2
 have hlo := fun l (hl : l ∈ Aye s.noses.length) => Cys hnl hl
 have hwr : wroF s = ((Aye s.noses.length).find? fun l => decide (0 < Azh (woS s l))).getD [] := rfl
 have hll : (Aye s.noses.length).length <= 16 := (Cxr hnl (Nat.le_refl _)).1
 generalize Aye s.noses.length = LL at *
 replace hlo : Aqo _ := hlo
 replace hwr : Aqo _ := hwr
 obtain ⟨la, lc, rfl, hlc, _⟩ := id hlv
 (refine @unH _ (zU Axu ?_); (try clear hK K); intro K hK hc)
 refine Axh (fun w a' H' => ∃ e, ∃ k : Nat, w = LL.length - k /\ k <= LL.length /\ a' = act 52 e [] /\ e 1 = .pointer (some ⟨sb, 0, none⟩) /\ e 18 = .slice la LL.length lc /\ e 19 = .int .i64 (LL.length : Nat) /\ e 20 = .int .i64 (k : Nat) /\ H.le H' /\ H3.le H' /\ ∀ l ∈ LL.take k, decide (0 < Azh (woS s l)) = false) (n := LL.length) ?_ ?_
 ·exact ⟨_, 0, by omega, by omega, rfl, rfl, rfl, rfl, rfl, l03, Hp.le_refl _, fun l hl => by simp at hl⟩
 rintro w a' H4 ⟨e, k, rfl, hk, rfl, e1, e18, e19, e20, l04, l34, hno⟩
 have vs4 := l34 _ _ vs3
 have hs4 := hs3.le l34
 have hlv4 := hlv.le l34
 by_cases hlt : k < LL.length
 ·have hkt := List.getElem?_eq_getElem hlt
  obtain ⟨hln, hlx⟩ := (show ∀ l ∈ LL, _ from hlo) _ (List.getElem_mem hlt)
  have hst : (∀ q : Bool, decide (0 < Azh (woS s LL[k])) = q -> (q = true -> wroF s = LL[k]) /\ (q = false -> ∀ l ∈ LL.take (k + 1), decide (0 < Azh (woS s l)) = false)) := fun q hq => by
   subst hq
   refine ⟨fun ht => ?_, fun hf l hl => ?_⟩
   ·rw [show wroF s = _ from hwr, Bzz (p := fun l => decide (0 < Azh (woS s l))) hkt hno ht]
    rfl
   ·rw [List.take_add_one, hkt, Option.toList_some] at hl
    rcases List.mem_append.1 hl with h | h
    ·exact hno l h
    ·simp only [List.mem_cons, List.not_mem_nil, or_false] at h
     rw [h]; exact hf
  generalize LL[k] = l at *
  obtain ⟨b, o, p, c, fr, u, rfl, hb, hcu, hu⟩ := Bv7 hlv4 hkt
  obtain ⟨ua, uc, rfl, _, _⟩ := id hu
  replace hst : Aqo _ := hst
  replace hlx : Aqo _ := hlx
  replace hno : Aqo _ := hno
  (refine @unH _ (zA Axu ?_); (try clear hK K); intro K hK hc)
  (intro xb hxb; generalize hG : Hp.set _ xb _ = H5; have lH5 := Aqc hG hxb; have vxb := Aqb hG; clear hG)
  have hs5 := hs4.le lH5
  have hu5 := hu.le lH5
  have l05 := Hp.le_trans l04 lH5
  have l35 := Hp.le_trans l34 lH5
  have f3x : H3 xb = none := Hp.le_none l34 hxb
  have f0x : H xb = none := Hp.le_none l04 hxb
  clear lH5 l04 l34 hs4 hlv4 vs4 hb hcu hu hxb
  (refine @unH _ (zU Axu ?_); (try clear hK K); intro K hK hc)
  refine Axh (fun w a' H' => ∃ e, ∃ j : Nat, ∃ na' n' nc', j = w /\ j <= l.length /\ a' = act 52 e [] /\ e 1 = .pointer (some ⟨sb, 0, none⟩) /\ e 6 = .slice ua l.length uc /\ e 7 = .pointer (some ⟨xb, 0, none⟩) /\ e 8 = .int .i64 ((j : Int) - 1) /\ e 18 = .slice (some ⟨b, o, none⟩) LL.length lc /\ e 19 = .int .i64 (LL.length : Nat) /\ e 20 = .int .i64 (k : Nat) /\ (∀ c x, c ≠ xb -> H5 c = some x -> H' c = some x) /\ H' xb = some (true, smO s.places (.slice da s.doors.length dc) (.slice ha s.hampers.length kc) (.slice na' n' nc')) /\ SlN H' (.slice na' n' nc') (woN s.noses (l.drop j)) /\ n' + (l.length - j) = s.noses.length) (n := l.length) ?_ ?_
  ·exact ⟨_, l.length, na, _, nc, by omega, Nat.le_refl _, rfl, e1, rfl, rfl, rfl, e18, e19, e20, fun _ _ _ hx => hx, vxb, by rw [List.drop_length]; exact hs5.nn, by omega⟩
  clear e1 e18 e19 e20
  rintro w a' H6 ⟨e, j, na', n', nc', rfl, hj, rfl, e1, e6, e7, e8, e18, e19, e20, hf6, vx6, hn6, hlen⟩
  have hu6 : SlI H6 (.slice ua l.length uc) l := hu5.move fun x p c fr hx => hf6 _ _ (fun e => by rw [e, vxb] at hx; simp at hx) hx
  by_cases hj0 : j = 0
  ·subst hj0
   (refine @unH _ (zA Axu ?_); (try clear hK K); intro K hK hc)
   have hsw : SmIn H6 (.slice da s.doors.length dc) (.slice ha s.hampers.length kc) (.slice na' n' nc') (woS s l) := ⟨hs5.dd.move fun x p c fr hx => ⟨p, hf6 _ _ (fun e => by rw [e, vxb] at hx; simp at hx) hx⟩, hs5.hh.move fun x p c fr hx => hf6 _ _ (fun e => by rw [e, vxb] at hx; simp at hx) hx, hn6⟩
   refine (Cvl H6 (woS s l) _ _ _ hsw (Dke ok l)).runs.mono ?_
   have l06 : H.le H6 := fun c x hx => hf6 c x (fun e => by rw [e, f0x] at hx; cases hx) (l05 _ _ hx)
   have l36 : H3.le H6 := fun c x hx => hf6 c x (fun e => by rw [e, f3x] at hx; cases hx) (l35 _ _ hx)
   rintro _ H7 ⟨rfl, lH7⟩
   have l07 := Hp.le_trans l06 lH7
   have l37 := Hp.le_trans l36 lH7
   have hu7 := hu6.le lH7
   obtain ⟨ht1, ht2⟩ := (show ∀ q : Bool, decide (0 < Azh (woS s l)) = q -> (q = true -> wroF s = l) /\ (q = false -> ∀ l ∈ LL.take (k + 1), decide (0 < Azh (woS s l)) = false) from hst) _ rfl
   generalize decide (0 < Azh (woS s l)) = q at *
   clear hst l06 l36 lH7 hsw hu6 hu5 hs5 l05 l35 hf6 vx6 hn6
   cases q with
   | true =>
    replace ht1 := ht1 rfl
    replace ht1 : Aqo _ := ht1
    clear ht2
    (refine @unH _ (zU Axu ?_); (try clear hK K); intro K hK hc)
    (refine @unH _ ?_; refine zB results34 ?_)
    exact ⟨_, rfl, by rw [show wroF s = _ from ht1]; exact hu7, l07⟩
   | false =>
    replace ht2 := ht2 rfl
    replace ht2 : Aqo _ := ht2
    clear ht1
    (refine @unH _ (zU Axu ?_); (try clear hK K); intro K hK hc)
    exact ⟨_, by omega, _, k + 1, rfl, hlt, rfl, e1, e18, e19, rfl, l07, l37, ht2⟩
  ·obtain ⟨i, rfl⟩ : ∃ i, j = i + 1 := ⟨j - 1, by omega⟩
   have hil : i < l.length := by omega
   have hli := List.getElem?_eq_getElem hil
   obtain ⟨y0, y1⟩ := (show ∀ (k : Nat) (x : Int), l[k]? = some x -> _ from hlx) i _ hli
   have hwo : woN s.noses (l.drop i) = (woN s.noses (l.drop (i + 1))).take l[i].toNat ++ (woN s.noses (l.drop (i + 1))).drop (l[i].toNat + 1) := by
    rw [List.drop_eq_getElem_cons hil]
    rfl
   generalize l[i] = y at *
   obtain ⟨ub, uo, up, uca, ufr, rfl, hub, hux⟩ := hu6.get hli
   replace hwo : Aqo _ := hwo
   have hi1 : (((i + 1 : Nat) : Int) - 1) = (i : Nat) := by omega
   rw [hi1] at e8
   (refine @unH _ (zA Axu ?_); (try clear hK K); intro K hK hc)
   have hyn : y < n' := by omega
   obtain ⟨m, rfl⟩ : ∃ m : Nat, y = (m : Int) := ⟨y.toNat, by omega⟩
   have hmn : m + 1 <= n' := by omega
   obtain ⟨nb, no, rfl⟩ : ∃ nb no, na' = some ⟨nb, no, none⟩ := by
    have hl6 := hn6.len.1
    cases hw : (woN s.noses (l.drop (i + 1))).map Ck9 with
    | nil =>
     rw [List.map_eq_nil_iff] at hw
     rw [hw] at hl6
     simp only [List.length_nil] at hl6
     omega
    | cons r L =>
     obtain ⟨b, o, _, _, _, hh, _⟩ := SlG.get hn6 (i := 0) (r := r) (by rw [hw]; rfl)
     exact ⟨b, o, hh⟩
   have hcapn : m <= nc' /\ m + 1 <= nc' := by have := hn6.len; omega
   obtain ⟨hcp1, hcp2⟩ := hcapn
   have hA := fun HX (hX : H6.le HX) => (hn6.le hX).hi (k := m) (by omega)
   have hB := fun HX (hX : H6.le HX) => (hn6.le hX).lo (k := ((m : Int) + 1).toNat) (by omega)
   replace hA : Aqo _ := hA
   replace hB : Aqo _ := hB
   refine Azl (fun HX => H6.le HX) [12] (.free 0 (.take 1 (.free 2 (.free 3 (.free 4 (.free 5 (.take 6 (.free 7 (.free 8 (.free 9 (.one 10 (.free 11 (.one 12 .nil))))))))))))) (by kernel_rfl) (by kernel_rfl) (by decide) (by kernel_rfl) ?_; intro K hK
   have hS0 : H6.le H6 := Hp.le_refl _
   (refine @unH _ ?_; refine zI Axu ?_)
   (apply Aq5 rfl rfl rfl ‹_›; (focus (intro HX hHX; simp -implicitDefEqProofs (disch := first | omega | (simp only [qd] <;> omega)) only [xq, ↓xp, qc, Nat.reduceAdd, List.range, List.range.loop, fine, Nat.reduceEqDiff, ↓reduceIte, yielded, reduceCtorEq, Nat.reduceLT, Nat.reduceMul, Nat.reduceSub, one, Nat.reduceLeDiff, Aqj, Axu, aq, ↓ap, qe0, qe1, qe2, *, -hK, Aq3, hHX _ _ vx6] <;> (first | exact rfl | exact ⟨rfl, rfl⟩ | exact ⟨rfl, trivial⟩))); simp -implicitDefEqProofs (disch := first | omega | (simp only [qd] <;> omega)) only [Aq0, Aqp])
   (refine @unH _ ?_; refine zI Axu ?_)
   (refine @unH _ ?_; refine zI Axu ?_)
   (refine @unH _ ?_; refine zI Axu ?_)
   (refine @unH _ ?_; refine zI Axu ?_)
   (apply Aq5 rfl rfl rfl ‹_›; (focus (intro HX hHX; simp -implicitDefEqProofs (disch := first | omega | (simp only [qd] <;> omega)) only [xq, ↓xp, qc, Nat.reduceAdd, List.range, List.range.loop, fine, Nat.reduceEqDiff, ↓reduceIte, yielded, reduceCtorEq, Nat.reduceLT, Nat.reduceMul, Nat.reduceSub, one, Nat.reduceLeDiff, Aqj, Axu, aq, ↓ap, qe0, qe1, qe2, *, -hK, Aq3, hHX _ _ vx6] <;> (first | exact rfl | exact ⟨rfl, rfl⟩ | exact ⟨rfl, trivial⟩))); simp -implicitDefEqProofs (disch := first | omega | (simp only [qd] <;> omega)) only [Aq0, Aqp])
   (refine @unH _ ?_; refine zI Axu ?_)
   (refine @unH _ ?_; refine zI Axu ?_)
   (refine @unH _ ?_; refine zI Axu ?_)
   refine Aqt ?_
   (refine @unH _ ?_; refine zX Axu ?_)
   refine Bk6 (by decide) underlying24 sizeOf46 zeroValue46 rfl typeInfo46 (by decide) (by decide) ((show ∀ HX, H6.le HX -> _ from hA) H6 hS0) ((show ∀ HX, H6.le HX -> _ from hB) H6 hS0) (by omega) _ _ _ _ (fun v7 H7 hv7 l67 => ?_)
   obtain ⟨va, vn, vc, rfl⟩ := hv7.isSlice
   have hvl : Aqo _ := hv7.len.1
   have vx7 := l67 _ _ vx6
   (refine @unH _ ?_; refine zX Axu ?_)
   refine ⟨.inr fun _ => (by first | trivial | exact l67), ?_⟩
   (refine @unH _ ?_; refine zI Axu ?_)
   refine Aqt ?_
   (refine @unH _ ?_; refine zX Axu ?_)
   refine ⟨.inl (by decide), Axk (hK _ _ ?_)⟩
   clear hK K
   have hwm : SlN H7 (.slice va vn vc) (woN s.noses (l.drop i)) := by
    have h : woN s.noses (l.drop i) = _ := hwo
    unfold SlN
    rw [h, List.map_append, List.map_take, List.map_drop]
    exact hv7
   have hvn : vn + 1 = n' := by
    have h := (show vn = _ from hvl)
    rw [List.length_append, List.length_take, List.length_drop, List.length_map] at h
    have := hn6.len
    omega
   clear hvl hwo hv7 hA hB
   generalize hG : Hp.set H7 xb _ = H8
   have vx8 := Aqb hG
   have hf8 : ∀ c x, c ≠ xb -> H5 c = some x -> H8 c = some x := fun c x hc hx => Aqf hG (l67 _ _ (hf6 c x hc hx)) hc
   have hw8 : SlN H8 (.slice va vn vc) (woN s.noses (l.drop i)) := hwm.move fun x p c fr hx => ⟨p, Aqf hG hx (fun e => by rw [e, vx7] at hx; simp at hx)⟩
   clear hG hwm vx7 l67 vx6 hn6
   show wpX _ _ _ _ _ _ _
   (refine @unH _ (zA Axu ?_); (try clear hK K); intro K hK hc)
   exact ⟨_, Nat.lt_succ_self i, _, i, va, vn, vc, rfl, by omega, rfl, e1, e6, e7, rfl, e18, e19, e20, hf8, vx8, hw8, by omega⟩
 ·obtain rfl : k = LL.length := by omega
  rw [List.take_length] at hno
  have hr0 : wroF s = [] := by
   rw [show wroF s = _ from hwr, List.find?_eq_none.2 (fun l hl => by rw [hno l hl]; simp)]
   rfl
  replace hr0 : Aqo _ := hr0
  replace hno : Aqo _ := hno
  (refine @unH _ (zA Axu ?_); (try clear hK K); intro K hK hc)
  (refine @unH _ ?_; refine zB results34 ?_)
  exact ⟨_, rfl, by rw [show wroF s = _ from hr0]; exact nilS _, l04⟩
end Go.Proofs.YtnfnaehonkbknaaGreatDoor
end
section
namespace Go.Proofs.YtnfnaehonkbknaaGreatDoor
open Go Go.X Go.Proofs.Tryz
def Aqu := aN @Dw3 (aN @Dwj (aN @Bjx (aN @Bxh (aN @Dws (aN @Dvn (aN @Dwc (aN @Awm (aN @Dw7 (aN @Dvo (aN @Dwa (aN @Dye (aN @Dw9 (aN @Dwm (aN @Dw5 (aN @Dwu (aN @Dvx (aN @Dvr (aN @Dvs (aN @Dvg (aN @Dyi (aN @Bw7 (aN @Dwn (aN @Aj0 (aN @Bw8 (aN (fun H => Czr (H := H) underlying117 underlying3 rfl sizeOf3) (aN @Ajq @Dwk))))))))))))))))))))))))))
def reaE (s : Sm) (a b : Int) : Int × Int × Int :=
 if (a < 0 ∨ s.places - 1 < a) ∨ (b < 0 ∨ s.places - 1 < b) then (0, 0, 3)
 else if 99 <= gI (Axf s.doors a (pad6 (s.doors.map Dr.mx))) b then (0, 0, 11)
 else (gI (Axf s.doors a (pad6 (s.doors.map Dr.mn))) b, gI (Axf s.doors a (pad6 (s.doors.map Dr.mx))) b, 0)
theorem Bvw {L : List Int} (h : L.length < 6) (x : Int) : pad6 (L ++ [x]) = (pad6 L).set L.length x := by
 unfold pad6
 rw [List.length_append, List.length_singleton]
 obtain ⟨n, hn⟩ : ∃ n, 6 - L.length = n + 1 := ⟨5 - L.length, by omega⟩
 rw [hn, List.replicate_succ, List.set_append_right _ _ (Nat.le_refl _), Nat.sub_self, List.set_cons_zero, List.append_assoc, show 6 - (L.length + 1) = n by omega]
 rfl
theorem Dzn {pl : Int} {ds : List Dr} (hd : Bxd pl ds) : ds.map Dr.mn ∈ Ax9 ds := (Awf hd).2 ⟨by simp, fun i d n h1 h2 => by
 rw [List.getElem?_map, h1] at h2
 simp only [Option.map_some, Option.some.injEq] at h2
 have := hd d (List.mem_of_getElem? h1)
 exact ⟨by omega, by have := this.m1; omega⟩⟩
theorem Dzo {pl : Int} {ds : List Dr} (hd : Bxd pl ds) : ds.map Dr.mx ∈ Ax9 ds := (Awf hd).2 ⟨by simp, fun i d n h1 h2 => by
 rw [List.getElem?_map, h1] at h2
 simp only [Option.map_some, Option.some.injEq] at h2
 have := hd d (List.mem_of_getElem? h1)
 exact ⟨by have := this.m1; omega, by omega⟩⟩
theorem Bq6 {L : List Int} (h : L.length <= 6) : (pad6 L).length = 6 := by
 unfold pad6
 rw [List.length_append, List.length_replicate]
 omega
theorem Cxj {L : List Int} {k : Nat} {x : Int} : (ints L).toArray.setIfInBounds k (.int .i64 x) = (ints (L.set k x)).toArray := by
 simp [ints, List.map_set]
theorem By6 (H : Hp) (s : Sm) (dv hv nv : Value) (hs : SmIn H dv hv nv s) (ok : SmOk s) (a b : Int) (main : Md) :
  FnX Tryz.prog main 32 #[smV s.places dv hv nv, .int .i64 a, .int .i64 b] H fun e H' => e = .returned (.tuple #[.agg #[.int .i64 (reaE s a b).1, .int .i64 (reaE s a b).2.1], .int .i64 (reaE s a b).2.2]) /\ H.le H' := by
 obtain ⟨da, dc, ha, kc, na, nc, rfl, rfl, rfl, l1, l2, l3⟩ := hs.forms
 have hr : reaE s a b = if (a < 0 ∨ s.places - 1 < a) ∨ (b < 0 ∨ s.places - 1 < b) then (0, 0, 3)
  else if 99 <= gI (Axf s.doors a (pad6 (s.doors.map Dr.mx))) b then (0, 0, 11)
  else (gI (Axf s.doors a (pad6 (s.doors.map Dr.mn))) b, gI (Axf s.doors a (pad6 (s.doors.map Dr.mx))) b, 0) := rfl
 generalize reaE s a b = r at *
 have q0 := ok.p0
 have q6 := ok.p1
 have hdl := ok.dl
 by_cases hab : (a < 0 ∨ s.places - 1 < a) ∨ (b < 0 ∨ s.places - 1 < b)
 ·rw [if_pos hab] at hr
  replace hr : Aqo _ := hr
  have hdc : (decide (a < 0) || decide (s.places - 1 < a)) = true ∨ ((decide (a < 0) || decide (s.places - 1 < a)) = false /\ (decide (b < 0) || decide (s.places - 1 < b)) = true) := by
   simp only [Bool.or_eq_true, Bool.or_eq_false_iff, decide_eq_true_eq, decide_eq_false_iff_not]
   omega
  clear hab
  rcases hdc with hda | ⟨hda, hdb⟩
  ·replace hda : Aqo _ := hda
   refine Aql func32 rfl ntmps32 (by simp) ?_
   (refine @unH _ (zA Aqu ?_); (try clear hK K); intro K hK hc)
   (intro sb hsb rb hrb; replace hrb : (Hp.set _ sb _) rb = none := hrb; generalize hG : Hp.set _ sb _ = H1 at hrb ⊢; have lH1 := Aqc hG hsb; have wsb := Aqb hG; clear hG; generalize hG : Hp.set _ rb _ = H2; have lH2 := Aqc hG hrb; have vrb := Aqb hG; have vsb := lH2 _ _ wsb; have nsbrb := Aqq wsb hrb; clear hG wsb)
   have l02 := Hp.le_trans lH1 lH2
   have hs2 := hs.le l02
   have h0rb := Hp.le_none lH1 hrb
   clear lH1 lH2 hsb hrb hs
   (refine @unH _ (zU Aqu ?_); (try clear hK K); intro K hK hc)
   refine (Ak8 _ H2 s _ _ _ hs2 ok).runs.mono ?_
   rintro _ H3 ⟨rfl, lH3⟩
   have l03 := Hp.le_trans l02 lH3
   have vr3 := lH3 _ _ vrb
   have vs3 := lH3 _ _ vsb
   have hs3 := hs2.le lH3
   clear l02 lH3 vrb vsb hs2
   (refine @unH _ (zU Aqu ?_); (try clear hK K); intro K hK hc)
   refine (Axc _ H3 a 0 _).runs.mono ?_
   rintro _ _ ⟨rfl, hQ⟩
   rw [hQ, show (decide (a < 0) || decide (s.places - 1 < a)) = true from hda]; clear hQ hda
   (refine @unH _ (zU Aqu ?_); (try clear hK K); intro K hK hc)
   (refine Axt ?_; (try simp only [nq, ↓reduceIte, Nat.reduceEqDiff]); rw [Aq7, results_cell_tmp results32 (by decide) (by decide) (b := rb) (o := 0) rfl underlying34 rfl sizeOf34]; simp -implicitDefEqProofs (disch := first | omega | (simp only [qd] <;> omega)) only [xq, ↓xp, qc, Nat.reduceAdd, List.range, List.range.loop, fine, Nat.reduceEqDiff, ↓reduceIte, yielded, reduceCtorEq, Nat.reduceLT, Nat.reduceMul, Nat.reduceSub, one, Nat.reduceLeDiff, Aqj, Aqu, Axj, List.extract_toArray])
   exact ⟨by rw [show r = _ from hr], Azx l03 h0rb⟩
  ·replace hda : Aqo _ := hda
   replace hdb : Aqo _ := hdb
   refine Aql func32 rfl ntmps32 (by simp) ?_
   (refine @unH _ (zA Aqu ?_); (try clear hK K); intro K hK hc)
   (intro sb hsb rb hrb; replace hrb : (Hp.set _ sb _) rb = none := hrb; generalize hG : Hp.set _ sb _ = H1 at hrb ⊢; have lH1 := Aqc hG hsb; have wsb := Aqb hG; clear hG; generalize hG : Hp.set _ rb _ = H2; have lH2 := Aqc hG hrb; have vrb := Aqb hG; have vsb := lH2 _ _ wsb; have nsbrb := Aqq wsb hrb; clear hG wsb)
   have l02 := Hp.le_trans lH1 lH2
   have hs2 := hs.le l02
   have h0rb := Hp.le_none lH1 hrb
   clear lH1 lH2 hsb hrb hs
   (refine @unH _ (zU Aqu ?_); (try clear hK K); intro K hK hc)
   refine (Ak8 _ H2 s _ _ _ hs2 ok).runs.mono ?_
   rintro _ H3 ⟨rfl, lH3⟩
   have l03 := Hp.le_trans l02 lH3
   have vr3 := lH3 _ _ vrb
   have vs3 := lH3 _ _ vsb
   have hs3 := hs2.le lH3
   clear l02 lH3 vrb vsb hs2
   (refine @unH _ (zU Aqu ?_); (try clear hK K); intro K hK hc)
   refine (Axc _ H3 a 0 _).runs.mono ?_
   rintro _ _ ⟨rfl, hQ⟩
   rw [hQ, show (decide (a < 0) || decide (s.places - 1 < a)) = false from hda]; clear hQ hda
   (refine @unH _ (zU Aqu ?_); intro _ _ hc)
   refine (Axc _ H3 b 0 _).runs.mono ?_
   rintro _ _ ⟨rfl, hQ⟩
   rw [hQ, show (decide (b < 0) || decide (s.places - 1 < b)) = true from hdb]; clear hQ hdb
   (refine @unH _ (zU Aqu ?_); (try clear hK K); intro K hK hc)
   (refine Axt ?_; (try simp only [nq, ↓reduceIte, Nat.reduceEqDiff]); rw [Aq7, results_cell_tmp results32 (by decide) (by decide) (b := rb) (o := 0) rfl underlying34 rfl sizeOf34]; simp -implicitDefEqProofs (disch := first | omega | (simp only [qd] <;> omega)) only [xq, ↓xp, qc, Nat.reduceAdd, List.range, List.range.loop, fine, Nat.reduceEqDiff, ↓reduceIte, yielded, reduceCtorEq, Nat.reduceLT, Nat.reduceMul, Nat.reduceSub, one, Nat.reduceLeDiff, Aqj, Aqu, Axj, List.extract_toArray])
   exact ⟨by rw [show r = _ from hr], Azx l03 h0rb⟩
 ·rw [if_neg hab] at hr
  replace hr : Aqo _ := hr
  have hda : (decide (a < 0) || decide (s.places - 1 < a)) = false := by simp; omega
  have hdb : (decide (b < 0) || decide (s.places - 1 < b)) = false := by simp; omega
  replace hda : Aqo _ := hda
  replace hdb : Aqo _ := hdb
  have ha0 : 0 <= a := by omega
  have ha1 : a < s.places := by omega
  have hb0 : 0 <= b := by omega
  have hb1 : b < s.places := by omega
  clear hab
  refine Aql func32 rfl ntmps32 (by simp) ?_
  (refine @unH _ (zA Aqu ?_); (try clear hK K); intro K hK hc)
  (intro sb hsb rb hrb; replace hrb : (Hp.set _ sb _) rb = none := hrb; generalize hG : Hp.set _ sb _ = H1 at hrb ⊢; have lH1 := Aqc hG hsb; have wsb := Aqb hG; clear hG; generalize hG : Hp.set _ rb _ = H2; have lH2 := Aqc hG hrb; have vrb := Aqb hG; have vsb := lH2 _ _ wsb; have nsbrb := Aqq wsb hrb; clear hG wsb)
  have l02 := Hp.le_trans lH1 lH2
  have hs2 := hs.le l02
  have h0rb := Hp.le_none lH1 hrb
  clear lH1 lH2 hsb hrb hs
  (refine @unH _ (zU Aqu ?_); (try clear hK K); intro K hK hc)
  refine (Ak8 _ H2 s _ _ _ hs2 ok).runs.mono ?_
  rintro _ H3 ⟨rfl, lH3⟩
  have l03 := Hp.le_trans l02 lH3
  have vr3 := lH3 _ _ vrb
  have vs3 := lH3 _ _ vsb
  have hs3 := hs2.le lH3
  clear l02 lH3 vrb vsb hs2
  (refine @unH _ (zU Aqu ?_); (try clear hK K); intro K hK hc)
  refine (Axc _ H3 a 0 _).runs.mono ?_
  rintro _ _ ⟨rfl, hQ⟩
  rw [hQ, show (decide (a < 0) || decide (s.places - 1 < a)) = false from hda]; clear hQ hda
  (refine @unH _ (zU Aqu ?_); intro _ _ hc)
  refine (Axc _ H3 b 0 _).runs.mono ?_
  rintro _ _ ⟨rfl, hQ⟩
  rw [hQ, show (decide (b < 0) || decide (s.places - 1 < b)) = false from hdb]; clear hQ hdb
  (refine @unH _ (zU Aqu ?_); (try clear hK K); intro K hK hc)
  (intro ab hab cb hcb; replace hcb : (Hp.set _ ab _) cb = none := hcb; generalize hG : Hp.set _ ab _ = H4 at hcb ⊢; have lH4 := Aqc hG hab; have wab := Aqb hG; clear hG; generalize hG : Hp.set _ cb _ = H5; have lH5 := Aqc hG hcb; have vcb := Aqb hG; have vab := lH5 _ _ wab; have nabcb := Aqq wab hcb; clear hG wab)
  have l35 := Hp.le_trans lH4 lH5
  have l05 := Hp.le_trans l03 l35
  have vr5 := l35 _ _ vr3
  have vs5 := l35 _ _ vs3
  have hs5 := hs3.le l35
  have f0a := Hp.le_none l03 hab
  have f0c := Hp.le_none (Hp.le_trans l03 lH4) hcb
  have nra := Aqq vr3 hab
  have nrc := Aqq (lH4 _ _ vr3) hcb
  have nsa := Aqq vs3 hab
  have nsc := Aqq (lH4 _ _ vs3) hcb
  have va5 : H5 ab = some (true, .cells (ints (pad6 ((s.doors.take 0).map Dr.mn))).toArray 91 (0, 0)) := by rw [vab]; rfl
  have vc5 : H5 cb = some (true, .cells (ints (pad6 ((s.doors.take 0).map Dr.mx))).toArray 91 (0, 0)) := by rw [vcb]; rfl
  clear l03 vr3 vs3 hs3 hab hcb lH4 lH5 l35 vab vcb
  (refine @unH _ (zU Aqu ?_); (try clear hK K); intro K hK hc)
  refine Axh (fun w a' H' => ∃ e, ∃ k : Nat, w = s.doors.length - k /\ k <= s.doors.length /\ a' = act 75 e [] /\ e 1 = .int .i64 a /\ e 2 = .int .i64 b /\ e 3 = .pointer (some ⟨sb, 0, none⟩) /\ e 6 = .pointer (some ⟨rb, 0, none⟩) /\ e 9 = .pointer (some ⟨ab, 0, none⟩) /\ e 10 = .pointer (some ⟨cb, 0, none⟩) /\ e 35 = .slice da s.doors.length dc /\ e 36 = .int .i64 (s.doors.length : Nat) /\ e 37 = .int .i64 (k : Nat) /\ (∀ c x, c ≠ ab -> c ≠ cb -> H5 c = some x -> H' c = some x) /\ H' ab = some (true, .cells (ints (pad6 ((s.doors.take k).map Dr.mn))).toArray 91 (0, 0)) /\ H' cb = some (true, .cells (ints (pad6 ((s.doors.take k).map Dr.mx))).toArray 91 (0, 0))) (n := s.doors.length) ?_ ?_
  ·exact ⟨_, 0, by omega, by omega, rfl, rfl, rfl, rfl, rfl, rfl, rfl, rfl, rfl, rfl, fun _ _ _ _ hx => hx, va5, vc5⟩
  rintro w a' H6 ⟨e, k, rfl, hk, rfl, e1, e2, e3, e6, e9, e10, e35, e36, e37, hf6, va6, vc6⟩
  have hcell : ∀ {x : Nat} {p : Bool} {c : Array Value} {t : TypeId} {fr : Nat × Nat}, t ≠ 91 -> H5 x = some (p, .cells c t fr) -> H6 x = some (p, .cells c t fr) := fun ht hx => hf6 _ _ (fun e => by rw [e, va5] at hx; simp only [Option.some.injEq, Prod.mk.injEq, Obj.cells.injEq] at hx; exact ht hx.2.2.1.symm) (fun e => by rw [e, vc5] at hx; simp only [Option.some.injEq, Prod.mk.injEq, Obj.cells.injEq] at hx; exact ht hx.2.2.1.symm) hx
  have hs6 : SmIn H6 (.slice da s.doors.length dc) (.slice ha s.hampers.length kc) (.slice na s.noses.length nc) s := ⟨hs5.dd.move fun x p c fr hx => ⟨p, hcell (by decide) hx⟩, hs5.hh.move fun x p c fr hx => hcell (by decide) hx, hs5.nn.move fun x p c fr hx => ⟨p, hcell (by decide) hx⟩⟩
  have vr6 := hcell (by decide) vr5
  have vs6 := hcell (by decide) vs5
  replace hf6 : Aqo _ := hf6
  clear hcell
  by_cases hlt : k < s.doors.length
  ·have hkd := List.getElem?_eq_getElem hlt
   have hmn : pad6 ((s.doors.take (k + 1)).map Dr.mn) = (pad6 ((s.doors.take k).map Dr.mn)).set k s.doors[k].mn := by
    rw [List.take_add_one, hkd, Option.toList_some, List.map_append]
    have hl : ((s.doors.take k).map Dr.mn).length = k := by rw [List.length_map, List.length_take]; omega
    have := Bvw (L := (s.doors.take k).map Dr.mn) (by omega) s.doors[k].mn
    rw [hl] at this
    exact this
   have hmx : pad6 ((s.doors.take (k + 1)).map Dr.mx) = (pad6 ((s.doors.take k).map Dr.mx)).set k s.doors[k].mx := by
    rw [List.take_add_one, hkd, Option.toList_some, List.map_append]
    have hl : ((s.doors.take k).map Dr.mx).length = k := by rw [List.length_map, List.length_take]; omega
    have := Bvw (L := (s.doors.take k).map Dr.mx) (by omega) s.doors[k].mx
    rw [hl] at this
    exact this
   have hla : (pad6 ((s.doors.take k).map Dr.mn)).length = 6 := Bq6 (by rw [List.length_map, List.length_take]; omega)
   have hlc : (pad6 ((s.doors.take k).map Dr.mx)).length = 6 := Bq6 (by rw [List.length_map, List.length_take]; omega)
   obtain ⟨db, dof, dp, dcl, dfr, rfl, hdb2, hdsz, hdrl, hdext⟩ := SlG.get hs6.dd (i := k) (r := Ckc s.doors[k]) (by rw [List.getElem?_map, hkd]; rfl)
   generalize s.doors[k] = d at *
   generalize pad6 ((s.doors.take k).map Dr.mn) = A6 at *
   generalize pad6 ((s.doors.take k).map Dr.mx) = C6 at *
   unfold Ckc at hdext
   replace hmn : Aqo _ := hmn
   replace hmx : Aqo _ := hmx
   clear hdrl vr6 vs6
   (refine @unH _ (zA Aqu ?_); (try clear hK K); intro K hK hc)
   (intro tb htb; generalize hG : Hp.set _ tb _ = H7; have lH7 := Aqc hG htb; have vtb := Aqb hG; clear hG)
   have va7 := lH7 _ _ va6
   have vc7 := lH7 _ _ vc6
   have nat_ := Aqq va6 htb
   have nct := Aqq vc6 htb
   have nta := Ne.symm nat_
   have ntc := Ne.symm nct
   have ncab := Ne.symm nabcb
   have hf7 : Aqo (∀ c x, c ≠ ab -> c ≠ cb -> H5 c = some x -> H7 c = some x) := fun c x h1 h2 hx => lH7 _ _ ((show ∀ c x, c ≠ ab -> c ≠ cb -> H5 c = some x -> H6 c = some x from hf6) c x h1 h2 hx)
   clear lH7 va6 vc6 htb hs6 hdb2 hdsz hdext hf6
   have hia : (ints A6).toArray.size = 6 := by rw [List.size_toArray, Aq1, hla]
   have hic : (ints C6).toArray.size = 6 := by rw [List.size_toArray, Aq1, hlc]
   have hpa : (ints A6).toArray.setIfInBounds k (.int .i64 d.mn) = (ints (A6.set k d.mn)).toArray := Cxj
   have hpc : (ints C6).toArray.setIfInBounds k (.int .i64 d.mx) = (ints (C6.set k d.mx)).toArray := Cxj
   generalize (ints A6).toArray = AA at *
   generalize (ints C6).toArray = CC at *
   refine hK _ _ ?_
   clear hK K
   (try refine @unH _ (zQ ?_))
   refine Azl (fun HX => HX tb = some (true, .cells #[.int .i64 d.a, .int .i64 d.b, .int .i64 d.mn, .int .i64 d.mx] 66 (0, 0))) [11] (.free 0 (.free 1 (.free 2 (.free 3 (.take 4 (.free 5 (.free 6 (.take 7 (.free 8 (.one 9 (.free 10 (.one 11 .nil)))))))))))) (by kernel_rfl) (by kernel_rfl) (by decide) (by kernel_rfl) ?_; intro K hK
   (iterate 4 (refine @unH _ ?_; refine zI Aqu ?_))
   (refine @unH _ ?_; refine zJ Aqu ?_)
   (iterate 2 (refine @unH _ ?_; refine zI Aqu ?_))
   (refine @unH _ ?_; refine zJ Aqu ?_)
   (refine @unH _ ?_; refine zI Aqu ?_)
   refine Aqt ?_
   (refine @unH _ ?_; refine zX Aqu ?_)
   refine ⟨.inr fun _ => trivial, ?_⟩
   (refine @unH _ ?_; refine zI Aqu ?_)
   refine Aqt ?_
   (refine @unH _ ?_; refine zX Aqu ?_)
   refine ⟨.inl (by decide), Axk (hK _ _ ?_)⟩
   clear hK K
   generalize hG : Hp.set (Hp.set H7 ab _) cb _ = H8
   have va8 : H8 ab = some (true, .cells (ints (A6.set k d.mn)).toArray 91 (0, 0)) := by rw [<- hG]; simp [Hp.set, nabcb]
   have vc8 : H8 cb = some (true, .cells (ints (C6.set k d.mx)).toArray 91 (0, 0)) := by rw [<- hG]; simp [Hp.set]
   have hf8 : ∀ c x, c ≠ ab -> c ≠ cb -> H5 c = some x -> H8 c = some x := fun c x h1 h2 hx => by
    rw [<- hG, Aqv h2, Aqv h1]
    exact (show ∀ c x, c ≠ ab -> c ≠ cb -> H5 c = some x -> H7 c = some x from hf7) c x h1 h2 hx
   clear hG va7 vc7 hf7 hpa hpc hia hic
   show wpX _ _ _ _ _ _ _
   (refine @unH _ (zA Aqu ?_); (try clear hK K); intro K hK hc)
   exact ⟨_, by omega, _, k + 1, rfl, hlt, rfl, e1, e2, e3, e6, e9, e10, e35, e36, rfl, hf8, by rw [show pad6 _ = _ from hmn]; exact va8, by rw [show pad6 _ = _ from hmx]; exact vc8⟩
  ·obtain rfl : k = s.doors.length := by omega
   rw [List.take_length] at va6 vc6
   have l06 : H.le H6 := fun c x hx => (show ∀ c x, c ≠ ab -> c ≠ cb -> H5 c = some x -> H6 c = some x from hf6) c x (fun e => by rw [e, f0a] at hx; cases hx) (fun e => by rw [e, f0c] at hx; cases hx) (l05 _ _ hx)
   have hta : TsOk s.doors (pad6 (s.doors.map Dr.mn)) := Ayq ok.dk (Dzn ok.dk)
   have htc : TsOk s.doors (pad6 (s.doors.map Dr.mx)) := Ayq ok.dk (Dzo ok.dk)
   have hla : (pad6 (s.doors.map Dr.mn)).length = 6 := Bq6 (by rw [List.length_map]; exact hdl)
   have hlc : (pad6 (s.doors.map Dr.mx)).length = 6 := Bq6 (by rw [List.length_map]; exact hdl)
   clear hf6 vr5 vs5 hs5 va5 vc5 l05
   generalize pad6 (s.doors.map Dr.mn) = A6 at *
   generalize pad6 (s.doors.map Dr.mx) = C6 at *
   (refine @unH _ (zA Aqu ?_); (try clear hK K); intro K hK hc)
   refine (Aj8 _ H6 s.places _ _ _ _ _ _ _ _ _).runs.mono ?_
   rintro _ H7 ⟨hb, mb, rfl, vh7, vm7, h6h, h6m, lH7⟩
   have l07 := Hp.le_trans l06 lH7
   have va7 := lH7 _ _ va6
   have vc7 := lH7 _ _ vc6
   have vr7 := lH7 _ _ vr6
   have hs7 := hs6.le lH7
   have kn7 : Az5 s.doors mb H7 := ⟨_, _, vm7, by simp [MapG]⟩
   have nha := Aqq va6 h6h
   have nma := Aqq va6 h6m
   have nhc := Aqq vc6 h6h
   have nmc := Aqq vc6 h6m
   have nmr := Aqq vr6 h6m
   have f0m := Hp.le_none l06 h6m
   have nhm : hb ≠ mb := fun e => by rw [e, vm7] at vh7; simp at vh7
   clear l06 lH7 va6 vc6 vr6 vs6 hs6 vm7 h6h h6m
   (refine @unH _ (zU Aqu ?_); (try clear hK K); intro K hK hc)
   have hsp := fun (HX : Hp) (c6 : List Int) (hl : c6.length = 6) (ht : TsOk s.doors c6) vh kn dd => Bx5 main HX hb mb true s.places da dc (.slice ha s.hampers.length kc) (.slice na s.noses.length nc) a c6 s.doors vh kn dd ok.p1 ha0 ha1 ok.dk ok.dl hl ht
   have hla2 : (Axf s.doors a A6).length = 6 := Avd _ _ _
   have hlc2 : (Axf s.doors a C6).length = 6 := Avd _ _ _
   have hga := Avq hla2 hb0 (show b < 6 by omega)
   have hgc := Avq hlc2 hb0 (show b < 6 by omega)
   have hsA := fun HX vh kn dd => hsp HX A6 hla hta vh kn dd
   have hsC := fun HX vh kn dd => hsp HX C6 hlc htc vh kn dd
   clear hsp hta htc
   generalize Axf s.doors a A6 = SA at *
   generalize Axf s.doors a C6 = SC at *
   generalize gI SA b = ga at *
   generalize gI SC b = gc at *
   replace hsA : Aqo _ := hsA
   replace hsC : Aqo _ := hsC
   have hiA : 6 <= (ints A6).length := by rw [Aq1, hla]; exact Nat.le_refl _
   have hiC : 6 <= (ints C6).length := by rw [Aq1, hlc]; exact Nat.le_refl _
   have hexA := Aja hla
   have hexC := Aja hlc
   have hGA : ∃ G : Hp -> Prop, (∀ HX, G HX -> FnX Tryz.prog main 68 #[.pointer (some ⟨hb, 0, none⟩), .agg (.int .i64 a :: ints A6).toArray] HX fun e H' => e = .returned (.agg (ints SA).toArray) /\ G H' /\ ∀ b x, b ≠ mb -> HX b = some x -> H' b = some x) /\
     (∀ HX, G HX -> FnX Tryz.prog main 68 #[.pointer (some ⟨hb, 0, none⟩), .agg (.int .i64 a :: ints C6).toArray] HX fun e H' => e = .returned (.agg (ints SC).toArray) /\ G H' /\ ∀ b x, b ≠ mb -> HX b = some x -> H' b = some x) /\
     (∀ HX HY, G HX -> HX.le HY -> G HY) /\ (∀ HX, G HX -> HX mb ≠ none) /\ (∀ HX, G HX -> HX ab = some (true, .cells (ints A6).toArray 91 (0, 0)) /\ HX cb = some (true, .cells (ints C6).toArray 91 (0, 0)) /\ HX rb = some (true, .cells #[.int .i64 0, .int .i64 0] 34 (0, 0)) /\ H.le HX) /\ G H7 := by
    have key : ∀ (HX H' : Hp), (HX ab = some (true, .cells (ints A6).toArray 91 (0, 0)) /\ HX cb = some (true, .cells (ints C6).toArray 91 (0, 0)) /\ HX rb = some (true, .cells #[.int .i64 0, .int .i64 0] 34 (0, 0)) /\ H.le HX /\ HX hb = some (true, hsO s.places (.slice da s.doors.length dc) (.slice ha s.hampers.length kc) (.slice na s.noses.length nc) mb) /\ Az5 s.doors mb HX /\ SlD HX (.slice da s.doors.length dc) s.doors) -> (∀ b x, b ≠ mb -> HX b = some x -> H' b = some x) -> Az5 s.doors mb H' -> (H' ab = some (true, .cells (ints A6).toArray 91 (0, 0)) /\ H' cb = some (true, .cells (ints C6).toArray 91 (0, 0)) /\ H' rb = some (true, .cells #[.int .i64 0, .int .i64 0] 34 (0, 0)) /\ H.le H' /\ H' hb = some (true, hsO s.places (.slice da s.doors.length dc) (.slice ha s.hampers.length kc) (.slice na s.noses.length nc) mb) /\ Az5 s.doors mb H' /\ SlD H' (.slice da s.doors.length dc) s.doors) := by
     rintro HX H' ⟨g1, g2, g3, g4, g5, ⟨es, cl, g6, _⟩, g7⟩ hf kn
     refine ⟨hf _ _ nma g1, hf _ _ nmc g2, hf _ _ nmr g3, fun c x hx => hf _ _ (fun e => by rw [e, f0m] at hx; cases hx) (g4 _ _ hx), hf _ _ nhm g5, kn, g7.move fun x p c fr hx => ⟨p, hf _ _ (fun e => by rw [e, g6] at hx; simp at hx) hx⟩⟩
    refine ⟨fun HX => HX ab = some (true, .cells (ints A6).toArray 91 (0, 0)) /\ HX cb = some (true, .cells (ints C6).toArray 91 (0, 0)) /\ HX rb = some (true, .cells #[.int .i64 0, .int .i64 0] 34 (0, 0)) /\ H.le HX /\ HX hb = some (true, hsO s.places (.slice da s.doors.length dc) (.slice ha s.hampers.length kc) (.slice na s.noses.length nc) mb) /\ Az5 s.doors mb HX /\ SlD HX (.slice da s.doors.length dc) s.doors, ?_, ?_, ?_, ?_, ?_, ?_⟩
    ·intro HX g
     refine ((show ∀ HX _ _ _, FnX _ _ _ _ _ _ from hsA) HX g.2.2.2.2.1 g.2.2.2.2.2.1 g.2.2.2.2.2.2).mono ?_
     rintro _ H' ⟨rfl, h1, h2⟩
     exact ⟨rfl, key HX H' g h1 h2, h1⟩
    ·intro HX g
     refine ((show ∀ HX _ _ _, FnX _ _ _ _ _ _ from hsC) HX g.2.2.2.2.1 g.2.2.2.2.2.1 g.2.2.2.2.2.2).mono ?_
     rintro _ H' ⟨rfl, h1, h2⟩
     exact ⟨rfl, key HX H' g h1 h2, h1⟩
    ·rintro HX HY ⟨g1, g2, g3, g4, g5, g6, g7⟩ hl
     exact ⟨hl _ _ g1, hl _ _ g2, hl _ _ g3, Hp.le_trans g4 hl, hl _ _ g5, g6.le hl, g7.le hl⟩
    ·rintro HX ⟨g1, g2, g3, g4, g5, ⟨es, cl, g6, _⟩, g7⟩
     rw [g6]; simp
    ·rintro HX ⟨g1, g2, g3, g4, _⟩
     exact ⟨g1, g2, g3, g4⟩
    ·exact ⟨va7, vc7, vr7, l07, vh7, kn7, hs7.dd⟩
   obtain ⟨G, gA, gC, gL, gM, gF, g7⟩ := hGA
   replace gA : Aqo _ := gA
   replace gC : Aqo _ := gC
   replace gL : Aqo _ := gL
   replace gM : Aqo _ := gM
   replace gF : Aqo _ := gF
   clear hsA hsC
   refine Az1 (Q := only fun a' H' => ∃ e' ob, a' = act 75 e' [] /\ e' 6 = .pointer (some ⟨rb, 0, none⟩) /\ e' 14 = .pointer (some ⟨ob, 0, none⟩) /\ H' ob = some (true, .cells #[.int .i64 ga, .int .i64 gc] 34 (0, 0)) /\ H' rb = some (true, .cells #[.int .i64 0, .int .i64 0] 34 (0, 0)) /\ rb ≠ ob /\ H.le H') ?_ ?_
   ·refine Azl (fun HX => HX ab = some (true, .cells (ints A6).toArray 91 (0, 0)) /\ HX cb = some (true, .cells (ints C6).toArray 91 (0, 0))) [16] (.free 0 (.free 1 (.take 2 (.free 3 (.free 5 (.free 7 (.free 8 (.take 9 (.free 10 (.free 12 (.two 4 (.free 6 (.two 11 (.free 13 (.free 14 (.one 15 (.one 16 .nil)))) 15 (.one 11 (.free 13 (.free 14 (.one 16 .nil)))))) 15 (.one 4 (.free 6 (.one 11 (.free 13 (.free 14 (.one 16 .nil))))))))))))))))) (by kernel_rfl) (by kernel_rfl) (by decide) (by kernel_rfl) ?_; intro K hK
    have hS0 : (fun HX : Hp => HX ab = some (true, .cells (ints A6).toArray 91 (0, 0)) /\ HX cb = some (true, .cells (ints C6).toArray 91 (0, 0))) H7 := ⟨va7, vc7⟩
    (iterate 2 (refine @unH _ ?_; refine zI Aqu ?_))
    (apply Aq5 rfl rfl rfl ‹_›; (focus (intro HX hHX; simp -implicitDefEqProofs (disch := first | omega | (simp only [qd] <;> omega)) only [xq, ↓xp, qc, Nat.reduceAdd, List.range, List.range.loop, fine, Nat.reduceEqDiff, ↓reduceIte, yielded, reduceCtorEq, Nat.reduceLT, Nat.reduceMul, Nat.reduceSub, one, Nat.reduceLeDiff, Aqj, Aqu, aq, ↓ap, qe0, qe1, qe2, *, -hK, Aq3, hHX.1] <;> (first | exact rfl | exact ⟨rfl, rfl⟩ | exact ⟨rfl, trivial⟩))); simp -implicitDefEqProofs (disch := first | omega | (simp only [qd] <;> omega)) only [Aq0, Aqp])
    (iterate 4 (refine @unH _ ?_; refine zI (aN Aqu @Bw0) ?_))
    (apply Aq5 rfl rfl rfl ‹_›; (focus (intro HX hHX; simp -implicitDefEqProofs (disch := first | omega | (simp only [qd] <;> omega)) only [xq, ↓xp, qc, Nat.reduceAdd, List.range, List.range.loop, fine, Nat.reduceEqDiff, ↓reduceIte, yielded, reduceCtorEq, Nat.reduceLT, Nat.reduceMul, Nat.reduceSub, one, Nat.reduceLeDiff, Aqj, Aqu, aq, ↓ap, qe0, qe1, qe2, *, -hK, Aq3, hHX.2] <;> (first | exact rfl | exact ⟨rfl, rfl⟩ | exact ⟨rfl, trivial⟩))); simp -implicitDefEqProofs (disch := first | omega | (simp only [qd] <;> omega)) only [Aq0, Aqp])
    (iterate 2 (refine @unH _ ?_; refine zI (aN Aqu @Bw0) ?_))
    refine Ak1 ?_ ?_
    ·(refine @unH _ ?_; refine zX Aqu ?_)
     refine ((show ∀ HX, G HX -> FnX _ _ _ _ _ _ from gA) H7 g7).runs.mono ?_
     rintro _ H8 ⟨rfl, g8, f8⟩
     obtain ⟨w1, w2, w3, w4⟩ := (show ∀ HX, G HX -> _ /\ _ /\ _ /\ _ from gF) H8 g8
     (refine @unH _ ?_; refine zX Aqu ?_)
     refine ⟨.inr fun _ => (by first | trivial | exact ⟨w1, w2⟩), ?_⟩
     (refine @unH _ ?_; refine zI Aqu ?_)
     refine Ak1 ?_ ?_
     ·(refine @unH _ ?_; refine zX Aqu ?_)
      refine ((show ∀ HX, G HX -> FnX _ _ _ _ _ _ from gC) H8 g8).runs.mono ?_
      rintro _ H9 ⟨rfl, g9, f9⟩
      obtain ⟨w1, w2, w3, w4⟩ := (show ∀ HX, G HX -> _ /\ _ /\ _ /\ _ from gF) H9 g9
      (refine @unH _ ?_; refine zX Aqu ?_)
      refine ⟨.inr fun _ => (by first | trivial | exact ⟨w1, w2⟩), ?_⟩
      (refine @unH _ ?_; refine zI Aqu ?_)
      (refine @unH _ ?_; refine zI Aqu ?_)
      refine Aqt ?_
      (refine @unH _ ?_; refine zX Aqu ?_)
      intro ob hob
      obtain ⟨x1, x2, x3, x4⟩ := (show ∀ HX, G HX -> _ /\ _ /\ _ /\ _ from gF) H9 g9
      have y1 := Aqq x1 hob
      have y2 := Aqq x2 hob
      have nro := Aqq x3 hob
      have nmo : ob ≠ mb := fun e => (show ∀ HX, G HX -> HX mb ≠ none from gM) H9 g9 (by rw [<- e]; exact hob)
      have f0o := Hp.le_none x4 hob
      refine ⟨.inr fun _ => (by first | trivial | (simp only [y1, y2, if_false, and_self])), ?_⟩
      generalize hG : Hp.set H9 ob _ = H10
      have g10 := (show ∀ HX HY, G HX -> HX.le HY -> G HY from gL) H9 H10 g9 (Aqc hG hob)
      have vo := Aqb hG
      obtain ⟨w1, w2, w3, w4⟩ := (show ∀ HX, G HX -> _ /\ _ /\ _ /\ _ from gF) H10 g10
      clear hG hob x1 x2 x3 x4
      refine Aqt ?_
      (refine @unH _ ?_; refine zX Aqu ?_)
      refine ⟨.inl (by decide), Axk (hK _ _ ?_)⟩
      exact ⟨_, ob, rfl, e6, rfl, Axp, by rw [Aqv nro]; exact w3, nro, fun c x hx => by rw [Aqv (fun e => by rw [e, f0o] at hx; cases hx)]; exact w4 _ _ hx⟩
     ·(refine @unH _ ?_; refine zX Aqu ?_)
      intro ob hob
      obtain ⟨x1, x2, x3, x4⟩ := (show ∀ HX, G HX -> _ /\ _ /\ _ /\ _ from gF) H8 g8
      have y1 := Aqq x1 hob
      have y2 := Aqq x2 hob
      have nro := Aqq x3 hob
      have nmo : ob ≠ mb := fun e => (show ∀ HX, G HX -> HX mb ≠ none from gM) H8 g8 (by rw [<- e]; exact hob)
      have f0o := Hp.le_none x4 hob
      refine ⟨.inr fun _ => (by first | trivial | (simp only [y1, y2, if_false, and_self])), ?_⟩
      generalize hG : Hp.set H8 ob _ = H9
      have g9 := (show ∀ HX HY, G HX -> HX.le HY -> G HY from gL) H8 H9 g8 (Aqc hG hob)
      have vo := Aqb hG
      obtain ⟨w1, w2, w3, w4⟩ := (show ∀ HX, G HX -> _ /\ _ /\ _ /\ _ from gF) H9 g9
      clear hG hob x1 x2 x3 x4
      refine Aqt ?_
      (refine @unH _ ?_; refine zX Aqu ?_)
      refine ((show ∀ HX, G HX -> FnX _ _ _ _ _ _ from gC) H9 g9).runs.mono ?_
      rintro _ H10 ⟨rfl, g10, f10⟩
      obtain ⟨w1, w2, w3, w4⟩ := (show ∀ HX, G HX -> _ /\ _ /\ _ /\ _ from gF) H10 g10
      (refine @unH _ ?_; refine zX Aqu ?_)
      refine ⟨.inr fun _ => (by first | trivial | exact ⟨w1, w2⟩), ?_⟩
      have vo2 := f10 _ _ nmo vo
      (refine @unH _ ?_; refine zI Aqu ?_)
      (refine @unH _ ?_; refine zI Aqu ?_)
      refine Aqt ?_
      (refine @unH _ ?_; refine zX Aqu ?_)
      refine ⟨.inl (by decide), Axk (hK _ _ ?_)⟩
      exact ⟨_, ob, rfl, e6, rfl, Axp, by rw [Aqv nro]; exact w3, nro, fun c x hx => by rw [Aqv (fun e => by rw [e, f0o] at hx; cases hx)]; exact w4 _ _ hx⟩
    ·(refine @unH _ ?_; refine zX Aqu ?_)
     intro ob hob
     obtain ⟨x1, x2, x3, x4⟩ := (show ∀ HX, G HX -> _ /\ _ /\ _ /\ _ from gF) H7 g7
     have y1 := Aqq x1 hob
     have y2 := Aqq x2 hob
     have nro := Aqq x3 hob
     have nmo : ob ≠ mb := fun e => (show ∀ HX, G HX -> HX mb ≠ none from gM) H7 g7 (by rw [<- e]; exact hob)
     have f0o := Hp.le_none x4 hob
     refine ⟨.inr fun _ => (by first | trivial | (simp only [y1, y2, if_false, and_self])), ?_⟩
     generalize hG : Hp.set H7 ob _ = H8
     have g8 := (show ∀ HX HY, G HX -> HX.le HY -> G HY from gL) H7 H8 g7 (Aqc hG hob)
     have vo := Aqb hG
     obtain ⟨w1, w2, w3, w4⟩ := (show ∀ HX, G HX -> _ /\ _ /\ _ /\ _ from gF) H8 g8
     clear hG hob x1 x2 x3 x4
     refine Aqt ?_
     (refine @unH _ ?_; refine zX Aqu ?_)
     refine ((show ∀ HX, G HX -> FnX _ _ _ _ _ _ from gA) H8 g8).runs.mono ?_
     rintro _ H9 ⟨rfl, g9, f9⟩
     obtain ⟨w1, w2, w3, w4⟩ := (show ∀ HX, G HX -> _ /\ _ /\ _ /\ _ from gF) H9 g9
     (refine @unH _ ?_; refine zX Aqu ?_)
     refine ⟨.inr fun _ => (by first | trivial | exact ⟨w1, w2⟩), ?_⟩
     have vo2 := f9 _ _ nmo vo
     (refine @unH _ ?_; refine zI Aqu ?_)
     refine Aqt ?_
     (refine @unH _ ?_; refine zX Aqu ?_)
     refine ((show ∀ HX, G HX -> FnX _ _ _ _ _ _ from gC) H9 g9).runs.mono ?_
     rintro _ H10 ⟨rfl, g10, f10⟩
     obtain ⟨w1, w2, w3, w4⟩ := (show ∀ HX, G HX -> _ /\ _ /\ _ /\ _ from gF) H10 g10
     (refine @unH _ ?_; refine zX Aqu ?_)
     refine ⟨.inr fun _ => (by first | trivial | exact ⟨w1, w2⟩), ?_⟩
     have vo3 := f10 _ _ nmo vo2
     (refine @unH _ ?_; refine zI Aqu ?_)
     (refine @unH _ ?_; refine zI Aqu ?_)
     refine Aqt ?_
     (refine @unH _ ?_; refine zX Aqu ?_)
     refine ⟨.inl (by decide), Axk (hK _ _ ?_)⟩
     exact ⟨_, ob, rfl, e6, rfl, Axp, by rw [Aqv nro]; exact w3, nro, fun c x hx => by rw [Aqv (fun e => by rw [e, f0o] at hx; cases hx)]; exact w4 _ _ hx⟩
   ·intro e a' H' q
    cases e with
    | normal =>
     obtain ⟨e', ob, rfl, e6, e14, vo8, vr8, nro, l08⟩ := q
     clear gA gC gL gM gF g7 va7 vc7 vr7 vh7 hs7 kn7 l07 hexA hexC hga hgc
     by_cases hg : 99 <= gc
     ·replace hr : Aqo (r = (0, 0, 11)) := Eq.trans (show r = _ from hr) (if_pos hg)
      show wpX _ _ _ _ _ _ _
      (refine @unH _ (zA Aqu ?_); (try clear hK K); intro K hK hc)
      (refine Axt ?_; (try simp only [nq, ↓reduceIte, Nat.reduceEqDiff]); rw [Aq7, results_cell_tmp results32 (by decide) (by decide) (b := rb) (o := 0) ?hcell underlying34 rfl sizeOf34]; (case hcell => exact e6); simp -implicitDefEqProofs (disch := first | omega | (simp only [qd] <;> omega)) only [xq, ↓xp, qc, Nat.reduceAdd, List.range, List.range.loop, fine, Nat.reduceEqDiff, ↓reduceIte, yielded, reduceCtorEq, Nat.reduceLT, Nat.reduceMul, Nat.reduceSub, one, Nat.reduceLeDiff, Aqj, Aqu, Axj, List.extract_toArray])
      exact ⟨by rw [show r = _ from hr], Azx l08 h0rb⟩
     ·replace hr : Aqo (r = (ga, gc, 0)) := Eq.trans (show r = _ from hr) (if_neg hg)
      show wpX _ _ _ _ _ _ _
      (refine @unH _ (zA Aqu ?_); (try clear hK K); intro K hK hc)
      (refine Axt ?_; (try simp only [nq, ↓reduceIte, Nat.reduceEqDiff]); rw [Aq7, results_cell_tmp results32 (by decide) (by decide) (b := rb) (o := 0) ?hcell underlying34 rfl sizeOf34]; (case hcell => exact e6); simp -implicitDefEqProofs (disch := first | omega | (simp only [qd] <;> omega)) only [xq, ↓xp, qc, Nat.reduceAdd, List.range, List.range.loop, fine, Nat.reduceEqDiff, ↓reduceIte, yielded, reduceCtorEq, Nat.reduceLT, Nat.reduceMul, Nat.reduceSub, one, Nat.reduceLeDiff, Aqj, Aqu, Axj, List.extract_toArray])
      exact ⟨by rw [show r = _ from hr], Azx l08 h0rb⟩
    | _ => exact q.elim
def Cqp := aN @Dw4 (aN @Bzl @Dwt)
def Cqq := aN @Dw3 (aN @Ajq @Dws)
def Akj := aN @Dw1 (aN @Dxk (aN @Bzo (aN @Cjz (aN @Bqr @Dwr))))
def Cqr := aN @Dw5 (aN @Ajq (aN @Bzm @Dwu))
def Avz := aN @Dw1 (aN @Cj0 (aN @Dwr (aN @Cjz (aN @Dvq (aN @Dva @Dwj)))))
theorem Ay2 (m : Md) (H : Hp) (a b x y : Int) :
  FnX Tryz.prog m 30 #[.int .i64 a, .int .i64 b, .int .i64 x, .int .i64 y] H fun e H' => e = .returned (.agg #[.int .i64 a, .int .i64 b, .int .i64 x, .int .i64 y]) /\ H.le H' := by
 refine Aql func30 rfl ntmps30 (by simp) ?_
 (refine @unH _ (zA Cqr ?_); (try clear hK K); intro K hK hc)
 (intro rb hrb; generalize hG : Hp.set _ rb _ = H1; have lH1 := Aqc hG hrb; have vrb := Aqb hG; clear hG)
 (refine @unH _ (zU Cqr ?_); (try clear hK K); intro K hK hc)
 (refine Axt ?_; (try simp only [nq, ↓reduceIte, Nat.reduceEqDiff]); rw [Aq7, Ax2 results30 (by decide) (b := rb) (o := 0) rfl underlying66 rfl sizeOf66]; simp -implicitDefEqProofs (disch := first | omega | (simp only [qd] <;> omega)) only [xq, ↓xp, qc, Nat.reduceAdd, List.range, List.range.loop, fine, Nat.reduceEqDiff, ↓reduceIte, yielded, reduceCtorEq, Nat.reduceLT, Nat.reduceMul, Nat.reduceSub, one, Nat.reduceLeDiff, Aqj, Cqr, Axj, List.extract_toArray])
 exact Azx lH1 hrb
theorem Awd (m : Md) (H : Hp) (p h : Int) (s : Bool) :
  FnX Tryz.prog m 14 #[.int .i64 p, .int .i64 h, .bool s] H fun e H' => e = .returned (.agg #[.int .i64 p, .int .i64 h, .bool s]) /\ H.le H' := by
 refine Aql func14 rfl ntmps14 (by simp) ?_
 (refine @unH _ (zA Cqp ?_); (try clear hK K); intro K hK hc)
 (intro rb hrb; generalize hG : Hp.set _ rb _ = H1; have lH1 := Aqc hG hrb; have vrb := Aqb hG; clear hG)
 (refine @unH _ (zU Cqp ?_); (try clear hK K); intro K hK hc)
 (refine Axt ?_; (try simp only [nq, ↓reduceIte, Nat.reduceEqDiff]); rw [Aq7, Ax2 results14 (by decide) (b := rb) (o := 0) rfl underlying46 rfl sizeOf46]; simp -implicitDefEqProofs (disch := first | omega | (simp only [qd] <;> omega)) only [xq, ↓xp, qc, Nat.reduceAdd, List.range, List.range.loop, fine, Nat.reduceEqDiff, ↓reduceIte, yielded, reduceCtorEq, Nat.reduceLT, Nat.reduceMul, Nat.reduceSub, one, Nat.reduceLeDiff, Aqj, Cqp, Axj, List.extract_toArray])
 exact Azx lH1 hrb
theorem Ay1 (m : Md) (H : Hp) (a b : Int) :
  FnX Tryz.prog m 24 #[.int .i64 a, .int .i64 b] H fun e H' => e = .returned (.agg #[.int .i64 a, .int .i64 b]) /\ H.le H' := by
 refine Aql func24 rfl ntmps24 (by simp) ?_
 (refine @unH _ (zA Cqq ?_); (try clear hK K); intro K hK hc)
 (intro rb hrb; generalize hG : Hp.set _ rb _ = H1; have lH1 := Aqc hG hrb; have vrb := Aqb hG; clear hG)
 (refine @unH _ (zU Cqq ?_); (try clear hK K); intro K hK hc)
 (refine Axt ?_; (try simp only [nq, ↓reduceIte, Nat.reduceEqDiff]); rw [Aq7, Ax2 results24 (by decide) (b := rb) (o := 0) rfl underlying34 rfl sizeOf34]; simp -implicitDefEqProofs (disch := first | omega | (simp only [qd] <;> omega)) only [xq, ↓xp, qc, Nat.reduceAdd, List.range, List.range.loop, fine, Nat.reduceEqDiff, ↓reduceIte, yielded, reduceCtorEq, Nat.reduceLT, Nat.reduceMul, Nat.reduceSub, one, Nat.reduceLeDiff, Aqj, Cqq, Axj, List.extract_toArray])
 exact Azx lH1 hrb
theorem Djq (a b c d a' b' c' d' a2 b2 c2 d2 : Int) : Instr.fill (fun i => some (i * 4, 4)) ((Array.range (3 * 4)).map fun x => (Value.agg #[.int .i64 0, .int .i64 0, .int .i64 0, .int .i64 0]).cells[x % (Value.agg #[.int .i64 0, .int .i64 0, .int .i64 0, .int .i64 0]).cells.size]!) [(0, .agg #[.int .i64 a, .int .i64 b, .int .i64 c, .int .i64 d]), (1, .agg #[.int .i64 a', .int .i64 b', .int .i64 c', .int .i64 d']), (2, .agg #[.int .i64 a2, .int .i64 b2, .int .i64 c2, .int .i64 d2])] = some #[.int .i64 a, .int .i64 b, .int .i64 c, .int .i64 d, .int .i64 a', .int .i64 b', .int .i64 c', .int .i64 d', .int .i64 a2, .int .i64 b2, .int .i64 c2, .int .i64 d2] := by
 kernel_rfl
theorem Djr (a b a' b' : Int) (c c' : Bool) : Instr.fill (fun i => some (i * 3, 3)) ((Array.range (2 * 3)).map fun x => (Value.agg #[.int .i64 0, .int .i64 0, .bool false]).cells[x % (Value.agg #[.int .i64 0, .int .i64 0, .bool false]).cells.size]!) [(0, .agg #[.int .i64 a, .int .i64 b, .bool c]), (1, .agg #[.int .i64 a', .int .i64 b', .bool c'])] = some #[.int .i64 a, .int .i64 b, .bool c, .int .i64 a', .int .i64 b', .bool c'] := by
 kernel_rfl
theorem Dxc {H : Hp} (a b c d a' b' c' d' a2 b2 c2 d2 : Int) (K : Value -> Hp -> Prop) (E : Value -> Hp -> Prop) :
  wpS Tryz.prog (Instr.buildSlice 23 3 #[(0, .agg #[.int .i64 a, .int .i64 b, .int .i64 c, .int .i64 d]), (1, .agg #[.int .i64 a', .int .i64 b', .int .i64 c', .int .i64 d']), (2, .agg #[.int .i64 a2, .int .i64 b2, .int .i64 c2, .int .i64 d2])]) H K E = ∀ nb, H nb = none -> K (.slice (some ⟨nb, 0, none⟩) 3 3) (H.set nb (.cells #[.int .i64 a, .int .i64 b, .int .i64 c, .int .i64 d, .int .i64 a', .int .i64 b', .int .i64 c', .int .i64 d', .int .i64 a2, .int .i64 b2, .int .i64 c2, .int .i64 d2] 66 (0, 0))) := by
 unfold Instr.buildSlice
 have hn1 : ¬ 3 * 4 > 2 ^ 24 := by decide
 have hn2 : ¬ 3 * 4 = 0 := by decide
 simp only [Aqa, Aqh underlying23, Aqw sizeOf66, hn1, hn2, if_false, Aq8 zeroValue66, Aqd]
 rw [Djq]
 simp only [newRow, newObj, Aqa, wpS, Aqd]
theorem Cjw {H : Hp} (a b a' b' : Int) (c c' : Bool) (K : Value -> Hp -> Prop) (E : Value -> Hp -> Prop) :
  wpS Tryz.prog (Instr.buildSlice 24 2 #[(0, .agg #[.int .i64 a, .int .i64 b, .bool c]), (1, .agg #[.int .i64 a', .int .i64 b', .bool c'])]) H K E = ∀ nb, H nb = none -> K (.slice (some ⟨nb, 0, none⟩) 2 2) (H.set nb (.cells #[.int .i64 a, .int .i64 b, .bool c, .int .i64 a', .int .i64 b', .bool c'] 46 (0, 0))) := by
 unfold Instr.buildSlice
 have hn1 : ¬ 2 * 3 > 2 ^ 24 := by decide
 have hn2 : ¬ 2 * 3 = 0 := by decide
 simp only [Aqa, Aqh underlying24, Aqw sizeOf46, hn1, hn2, if_false, Aq8 zeroValue46, Aqd]
 rw [Djr]
 simp only [newRow, newObj, Aqa, wpS, Aqd]
def Aje : Sm := ⟨4, [⟨0, 1, 2, 3⟩, ⟨1, 2, 1, 1⟩, ⟨0, 3, 1, 2⟩], [0, 2], [⟨1, 4, true⟩, ⟨3, 3, false⟩]⟩
def oddS : Sm := ⟨4, [⟨0, 1, 2, 3⟩, ⟨1, 2, 1, 1⟩, ⟨0, 3, 1, 2⟩], [0, 2], [⟨2, 0, true⟩, ⟨2, 1, false⟩]⟩
theorem Bxl : ∀ d ∈ Aje.doors, DrOk 4 d := fun d hd => by
 simp only [Aje, List.mem_cons, List.not_mem_nil, or_false] at hd
 rcases hd with rfl | rfl | rfl <;> exact ⟨by decide, by decide, by decide, by decide, by decide, by decide, by decide, by decide⟩
theorem Ava : SmOk Aje := ⟨by decide, by decide, by decide, Bxl, by decide, by decide, by decide, by decide, by decide, fun n hn => by
 simp only [Aje, List.mem_cons, List.not_mem_nil, or_false] at hn
 rcases hn with rfl | rfl <;> exact ⟨by decide, by decide, by decide, by decide⟩⟩
theorem Dzp : SmOk oddS := ⟨by decide, by decide, by decide, Bxl, by decide, by decide, by decide, by decide, by decide, fun n hn => by
 simp only [oddS, List.mem_cons, List.not_mem_nil, or_false] at hn
 rcases hn with rfl | rfl <;> exact ⟨by decide, by decide, by decide, by decide⟩⟩
theorem Ajr (m : Md) (H : Hp) :
  FnX Tryz.prog m 29 #[] H fun e H' => ∃ dv hv nv, e = .returned (smV 4 dv hv nv) /\ SmIn H' dv hv nv Aje /\ H.le H' := by
 refine Aql func29 rfl ntmps29 (by simp) ?_
 (refine @unH _ (zA Akj ?_); (try clear hK K); intro K hK hc)
 (intro rb hrb; generalize hG : Hp.set _ rb _ = H1; have lH1 := Aqc hG hrb; have vrb := Aqb hG; clear hG)
 (refine @unH _ (zU Akj ?_); (try clear hK K); intro K hK hc)
 refine (Ay2 m H1 0 1 2 3).runs.mono ?_
 rintro _ H2 ⟨rfl, l12⟩
 have l02 := Hp.le_trans lH1 l12
 have vr2 := l12 _ _ vrb
 clear l12
 (refine @unH _ (zU Akj ?_); intro _ _ hc)
 refine (Ay2 m H2 1 2 1 1).runs.mono ?_
 rintro _ H3 ⟨rfl, l23⟩
 have l03 := Hp.le_trans l02 l23
 have vr3 := l23 _ _ vr2
 clear l23 l02 vr2 vrb
 (refine @unH _ (zU Akj ?_); intro _ _ hc)
 refine (Ay2 m H3 0 3 1 2).runs.mono ?_
 rintro _ H4 ⟨rfl, l34⟩
 have l04 := Hp.le_trans l03 l34
 have vr4 := l34 _ _ vr3
 clear l34 l03 vr3
 (refine @unH _ (zU (aN Akj @Dxc) ?_); intro _ _ hc)
 (intro db hdb ib hib; replace hib : (Hp.set _ db _) ib = none := hib; generalize hG : Hp.set _ db _ = H5 at hib ⊢; have lH5 := Aqc hG hdb; have wdb := Aqb hG; clear hG; generalize hG : Hp.set _ ib _ = H6; have lH6 := Aqc hG hib; have vib := Aqb hG; have vdb := lH6 _ _ wdb; have ndbib := Aqq wdb hib; clear hG wdb)
 have l06 := Hp.le_trans l04 (Hp.le_trans lH5 lH6)
 have vr6 := lH6 _ _ (lH5 _ _ vr4)
 clear l04 vr4 hdb hib lH5 lH6
 (refine @unH _ (zU Akj ?_); intro _ _ hc)
 refine (Awd m H6 1 4 true).runs.mono ?_
 rintro _ H7 ⟨rfl, l67⟩
 have l07 := Hp.le_trans l06 l67
 have vr7 := l67 _ _ vr6
 have vd7 := l67 _ _ vdb
 have vi7 := l67 _ _ vib
 clear l06 l67 vr6 vdb vib
 (refine @unH _ (zU Akj ?_); intro _ _ hc)
 refine (Awd m H7 3 3 false).runs.mono ?_
 rintro _ H8 ⟨rfl, l78⟩
 have l08 := Hp.le_trans l07 l78
 have vr8 := l78 _ _ vr7
 have vd8 := l78 _ _ vd7
 have vi8 := l78 _ _ vi7
 clear l07 l78 vr7 vd7 vi7
 (refine @unH _ (zU (aN Akj @Cjw) ?_); intro _ _ hc)
 intro nb hnb
 have nrn := Aqq vr8 hnb
 (refine @unH _ (zU Akj ?_); (try clear hK K); intro K hK hc)
 generalize hG : Hp.set H8 nb _ = H9
 have l89 := Aqc hG hnb
 have vn9 := Aqb hG
 have vr9 := l89 _ _ vr8
 have vd9 := l89 _ _ vd8
 have vi9 := l89 _ _ vi8
 have l09 := Hp.le_trans l08 l89
 clear hG l89 hnb l08 vr8 vd8 vi8
 have nrd : db ≠ rb := fun e => by rw [e, vr9] at vd9; simp at vd9
 have nri : ib ≠ rb := fun e => by rw [e, vr9] at vi9; simp at vi9
 (refine @unH _ (zU Akj ?_); (try clear hK K); intro K hK hc)
 (refine Axt ?_; (try simp only [nq, ↓reduceIte, Nat.reduceEqDiff]); rw [Aq7, Ax2 results29 (by decide) (b := rb) (o := 0) rfl underlying26 rfl sizeOf26]; simp -implicitDefEqProofs (disch := first | omega | (simp only [qd] <;> omega)) only [xq, ↓xp, qc, Nat.reduceAdd, List.range, List.range.loop, fine, Nat.reduceEqDiff, ↓reduceIte, yielded, reduceCtorEq, Nat.reduceLT, Nat.reduceMul, Nat.reduceSub, one, Nat.reduceLeDiff, Aqj, Akj, Axj, List.extract_toArray])
 have hD : SlD H9 (.slice (some ⟨db, 0, none⟩) 3 3) Aje.doors := SlG.of (by decide) (rows := Aje.doors.map Ckc) (N := 3) vd9 (fun r hr => by
  obtain ⟨d, _, rfl⟩ := List.mem_map.1 hr
  rfl) (fun j u h => by simp only [List.getElem?_toArray]; exact h) (by decide)
 have hN : SlN H9 (.slice (some ⟨nb, 0, none⟩) 2 2) Aje.noses := SlG.of (by decide) (rows := Aje.noses.map Ck9) (N := 2) vn9 (fun r hr => by
  obtain ⟨d, _, rfl⟩ := List.mem_map.1 hr
  rfl) (fun j u h => by simp only [List.getElem?_toArray]; exact h) (by decide)
 have hI : SlI H9 (.slice (some ⟨ib, 0, none⟩) 2 2) Aje.hampers := ⟨_, 2, rfl, Nat.le_refl _, fun i x hx => ⟨ib, 0, true, _, _, rfl, vi9, by
  rcases i with _ | _ | i
  ·simp only [Aje, List.getElem?_cons_zero, Option.some.injEq] at hx; subst hx; rfl
  ·simp only [Aje, List.getElem?_cons_succ, List.getElem?_cons_zero, Option.some.injEq] at hx; subst hx; rfl
  ·simp [Aje] at hx⟩⟩
 refine ⟨_, _, _, rfl, ⟨hD.move fun x p c fr hx => ⟨p, ?_⟩, hI.move fun x p c fr hx => ?_, hN.move fun x p c fr hx => ⟨p, ?_⟩⟩, Azx l09 hrb⟩
 ·rw [Aqv (fun e => by rw [e, vr9] at hx; simp at hx)]; exact hx
 ·rw [Aqv (fun e => by rw [e, vr9] at hx; simp at hx)]; exact hx
 ·rw [Aqv (fun e => by rw [e, vr9] at hx; simp at hx)]; exact hx
theorem Cyy (m : Md) (H : Hp) :
  FnX Tryz.prog m 33 #[] H fun e H' => ∃ dv hv nv, e = .returned (smV 4 dv hv nv) /\ SmIn H' dv hv nv oddS /\ H.le H' := by
 refine Aql func33 rfl ntmps33 (by simp) ?_
 (refine @unH _ (zA Avz ?_); (try clear hK K); intro K hK hc)
 (intro rb hrb; generalize hG : Hp.set _ rb _ = H1; have lH1 := Aqc hG hrb; have vrb := Aqb hG; clear hG)
 (refine @unH _ (zU Avz ?_); (try clear hK K); intro K hK hc)
 refine (Ajr m H1).runs.mono ?_
 rintro _ H2 ⟨dv, hv, nv, rfl, hs2, l12⟩
 obtain ⟨da, dc, ha, kc, na, nc, rfl, rfl, rfl, l1, l2, l3⟩ := hs2.forms
 have l02 := Hp.le_trans lH1 l12
 have vr2 := l12 _ _ vrb
 clear l12
 (refine @unH _ (zU Avz ?_); intro _ _ hc)
 (intro ob hob; generalize hG : Hp.set _ ob _ = H3; have lH3 := Aqc hG hob; have vob := Aqb hG; clear hG)
 have nro := Aqq vr2 hob
 have hs3 := hs2.le lH3
 have l03 := Hp.le_trans l02 lH3
 have f0o := Hp.le_none l02 hob
 have vr3 := lH3 _ _ vr2
 clear l02 lH3 vr2 hs2 hob vrb lH1
 (refine @unH _ (zU Avz ?_); (try clear hK K); intro K hK hc)
 refine (Awd m H3 2 0 true).runs.mono ?_
 rintro _ H4 ⟨rfl, l34⟩
 have l04 := Hp.le_trans l03 l34
 have vr4 := l34 _ _ vr3
 have vo4 := l34 _ _ vob
 have hs4 := hs3.le l34
 clear l03 l34 vr3 vob hs3
 (refine @unH _ (zU Avz ?_); intro _ _ hc)
 refine (Awd m H4 2 1 false).runs.mono ?_
 rintro _ H5 ⟨rfl, l45⟩
 have l05 := Hp.le_trans l04 l45
 have vr5 := l45 _ _ vr4
 have vo5 := l45 _ _ vo4
 have hs5 := hs4.le l45
 clear l04 l45 vr4 vo4 hs4
 (refine @unH _ (zU (aN Avz @Cjw) ?_); intro _ _ hc)
 intro nb hnb
 have nrn := Aqq vr5 hnb
 have non := Aqq vo5 hnb
 (refine @unH _ (zU Avz ?_); (try clear hK K); intro K hK hc)
 generalize hG : Hp.set H5 nb _ = H6
 have l56 := Aqc hG hnb
 have vn6 := Aqb hG
 have vr6 := l56 _ _ vr5
 have vo6 := l56 _ _ vo5
 have hs6 := hs5.le l56
 have l06 := Hp.le_trans l05 l56
 clear hG l56 hnb l05 vr5 vo5 hs5
 (refine Axt ?_; (try simp only [nq, ↓reduceIte, Nat.reduceEqDiff]); rw [Aq7, Ax2 results33 (by decide) (b := rb) (o := 0) rfl underlying26 rfl sizeOf26]; simp -implicitDefEqProofs (disch := first | omega | (simp only [qd] <;> omega)) only [xq, ↓xp, qc, Nat.reduceAdd, List.range, List.range.loop, fine, Nat.reduceEqDiff, ↓reduceIte, yielded, reduceCtorEq, Nat.reduceLT, Nat.reduceMul, Nat.reduceSub, one, Nat.reduceLeDiff, Aqj, Avz, Axj, List.extract_toArray])
 have hN : SlN H6 (.slice (some ⟨nb, 0, none⟩) 2 2) oddS.noses := SlG.of (by decide) (rows := oddS.noses.map Ck9) (N := 2) vn6 (fun r hr => by
  obtain ⟨d, _, rfl⟩ := List.mem_map.1 hr
  rfl) (fun j u h => by simp only [List.getElem?_toArray]; exact h) (by decide)
 refine ⟨_, _, _, rfl, ⟨hs6.dd.move fun x p c fr hx => ⟨p, ?_⟩, hs6.hh.move fun x p c fr hx => ?_, hN.move fun x p c fr hx => ⟨p, ?_⟩⟩, Azx (Azx l06 f0o) hrb⟩
 ·rw [Aqv (fun e => by rw [e, vr6] at hx; simp at hx), Aqv (fun e => by rw [e, vo6] at hx; simp at hx)]; exact hx
 ·rw [Aqv (fun e => by rw [e, vr6] at hx; simp at hx), Aqv (fun e => by rw [e, vo6] at hx; simp at hx)]; exact hx
 ·rw [Aqv (fun e => by rw [e, vr6] at hx; simp at hx), Aqv (fun e => by rw [e, vo6] at hx; simp at hx)]; exact hx
end Go.Proofs.YtnfnaehonkbknaaGreatDoor
end
section
namespace Go.Proofs.YtnfnaehonkbknaaGreatDoor
open Go Go.X
theorem Cwt : reaE Aje 2 3 = (4, 6, 0) := by kernel_rfl
theorem Cwr : Azh Aje = 5 := by kernel_rfl
theorem Cwu : sinE Aje 1 = (0, 3, 0) := by kernel_rfl
theorem Djj : begE Aje [0] 3 = 0 := by kernel_rfl
theorem Dzb : Cv0 Aje 0 3 = 3 := by kernel_rfl
theorem Cwq : comE Aje 3 = (4, 9, 0) := by kernel_rfl
theorem Cww : wroF oddS = [0] := by kernel_rfl
theorem Cwv : snE Aje 2 = (1, 3, 0) := by kernel_rfl
theorem Cws : fstE Aje = (0, 2, [2, 1, 2], 0) := by kernel_rfl
end Go.Proofs.YtnfnaehonkbknaaGreatDoor
end
section
namespace Go.X
open Go
section
variable {P : Program} {main : Md} {lp : Option Nat} {Q : Exit -> Act -> Hp -> Prop} {S : Hp -> Prop} {ts : List Nat} {p : PV} {a : Act} {H : Hp} {l ops : List Oper} {i : Nat}
 {d : Option Tmp} {op : Op} {ty : TypeId} {pos : String} {af : Array Edge} {v : Value} {j : Nat} {b : Bool} {t : Tmp}
structure Aw2 (l ops : List Oper) : Prop where
 nth : ∀ i : Nat, ops[i]? = l[i]?
theorem Byy (h : ∀ ops, Aw2 l ops -> Azd P main lp ops.toArray Q S ts p a H) : Azd P main lp l.toArray Q S ts p a H := h l ⟨fun _ => rfl⟩
theorem Aw2.guard (hO : Aw2 l ops) {o oj : Oper} (hg : o.guard = some (j, b)) (hj : l[j]? = some oj) (hd : oj.dst = some t) (hv : a.tmps[t]? = some (.bool b)) : Region.wanted o (yielded ops.toArray a.tmps) = true := by
 unfold Region.wanted
 rw [hg]
 simp only [Bqq, hO.nth, hj, Option.bind_some, hd, hv, Bkz, beq_self_eq_true]
theorem Cz1 (hO : Aw2 l ops) (ho : l[i]? = some ⟨d, op, ty, pos, af, none⟩) (hf : fine lp ⟨d, op, ty, pos, af, none⟩ = true)
  (h : ∀ H' : Hp, wpS P (execOp a.eval ⟨d, op, ty, pos, af, none⟩) H' (YN P main v H') fun _ _ => False) (hk : Azd P main lp ops.toArray Q S ts p (a.put d v) H) : Azd P main lp ops.toArray Q S ts (.free i p) a H :=
 Ayz ((hO.nth i).trans ho) rfl hf h hk
theorem Byx {oj : Oper} (hO : Aw2 l ops) (ho : l[i]? = some ⟨d, op, ty, pos, af, some (j, b)⟩) (hf : fine lp ⟨d, op, ty, pos, af, some (j, b)⟩ = true) (hj : l[j]? = some oj) (hd : oj.dst = some t) (hv : a.tmps[t]? = some (.bool b))
  (h : ∀ H' : Hp, wpS P (execOp a.eval ⟨d, op, ty, pos, af, some (j, b)⟩) H' (YN P main v H') fun _ _ => False) (hk : Azd P main lp ops.toArray Q S ts p (a.put d v) H) : Azd P main lp ops.toArray Q S ts (.free i p) a H :=
 Ayz ((hO.nth i).trans ho) (hO.guard rfl hj hd hv) hf h hk
theorem Awu {oj : Oper} (hO : Aw2 l ops) (ho : l[i]? = some ⟨d, op, ty, pos, af, some (j, b)⟩) (hf : fine lp ⟨d, op, ty, pos, af, some (j, b)⟩ = true) (hj : l[j]? = some oj) (hd : oj.dst = some t) (hv : a.tmps[t]? = some (.bool b))
  (hS : S H) (h : ∀ H' : Hp, S H' -> wpS P (execOp a.eval ⟨d, op, ty, pos, af, some (j, b)⟩) H' (YN P main v H') fun _ _ => False) (hk : Azd P main lp ops.toArray Q S ts p (a.put d v) H) : Azd P main lp ops.toArray Q S ts (.take i p) a H :=
 Aq5 ((hO.nth i).trans ho) (hO.guard rfl hj hd hv) hf hS h hk
theorem Cz2 {oj : Oper} (hO : Aw2 l ops) (ho : l[i]? = some ⟨d, op, ty, pos, af, some (j, b)⟩) (hf : fine lp ⟨d, op, ty, pos, af, some (j, b)⟩ = true) (hj : l[j]? = some oj) (hd : oj.dst = some t) (hv : a.tmps[t]? = some (.bool b))
  (h : opX P main lp ⟨d, op, ty, pos, af, some (j, b)⟩ a H (fun a' H' => (i ∈ ts ∨ (S H -> S H')) /\ Azd P main lp ops.toArray Q S ts p a' H') Q) : Azd P main lp ops.toArray Q S ts (.one i p) a H := by
 refine Aqt ?_
 rw [Avr]
 simp only [List.getElem?_toArray, hO.nth, ho, hO.guard (o := ⟨d, op, ty, pos, af, some (j, b)⟩) rfl hj hd hv, if_true]
 exact ⟨hf, h⟩
theorem Bjc (hO : Aw2 l ops) (ho : l[i]? = some ⟨d, op, ty, pos, af, none⟩) (hf : fine lp ⟨d, op, ty, pos, af, none⟩ = true)
  (hS : S H) (h : ∀ H' : Hp, S H' -> wpS P (execOp a.eval ⟨d, op, ty, pos, af, none⟩) H' (YN P main v H') fun _ _ => False) (hk : Azd P main lp ops.toArray Q S ts p (a.put d v) H) : Azd P main lp ops.toArray Q S ts (.take i p) a H :=
 Aq5 ((hO.nth i).trans ho) rfl hf hS h hk
theorem Cvi (hO : Aw2 l ops) (ho : l[i]? = some ⟨d, op, ty, pos, af, none⟩) (hf : fine lp ⟨d, op, ty, pos, af, none⟩ = true)
  (h : opX P main lp ⟨d, op, ty, pos, af, none⟩ a H (fun a' H' => (i ∈ ts ∨ (S H -> S H')) /\ Azd P main lp ops.toArray Q S ts p a' H') Q) : Azd P main lp ops.toArray Q S ts (.one i p) a H := by
 refine Aqt ?_
 rw [Avr]
 simp only [List.getElem?_toArray, hO.nth, ho, Region.wanted, if_true]
 exact ⟨hf, h⟩
theorem planZ_two {pq : PV} {d' : Option Tmp} {op' : Op} {ty' : TypeId} {pos' : String} {af' : Array Edge} (hO : Aw2 l ops) (ho : l[i]? = some ⟨d, op, ty, pos, af, none⟩) (hf : fine lp ⟨d, op, ty, pos, af, none⟩ = true) (ho' : l[j]? = some ⟨d', op', ty', pos', af', none⟩) (hf' : fine lp ⟨d', op', ty', pos', af', none⟩ = true)
  (h : opX P main lp ⟨d, op, ty, pos, af, none⟩ a H (fun a' H' => (i ∈ ts ∨ (S H -> S H')) /\ Azd P main lp ops.toArray Q S ts p a' H') Q)
  (h' : opX P main lp ⟨d', op', ty', pos', af', none⟩ a H (fun a' H' => (j ∈ ts ∨ (S H -> S H')) /\ Azd P main lp ops.toArray Q S ts pq a' H') Q) : Azd P main lp ops.toArray Q S ts (.two i p j pq) a H := by
 refine Ak1 ?_ ?_
 ·rw [Avr]
  simp only [List.getElem?_toArray, hO.nth, ho, Region.wanted, if_true]
  exact ⟨hf, h⟩
 ·rw [Avr]
  simp only [List.getElem?_toArray, hO.nth, ho', Region.wanted, if_true]
  exact ⟨hf', h'⟩
theorem planZ_nil (h : Q .normal a H) : Azd P main lp ops.toArray Q S ts .nil a H := h
end
end Go.X
end
