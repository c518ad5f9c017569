/- Texts SmKs SmSb SmTk SmEl SmAl. -/
import Derived.Test.YtnfnaehonkbknaaGreatDoorJ23
set_option linter.defProp false
set_option linter.unusedSimpArgs false
set_option linter.unusedVariables false
set_option maxRecDepth 100000
set_option maxHeartbeats 2000000
section
namespace Go.Proofs.YtnfnaehonkbknaaGreatDoor
open Go Go.X
theorem rowX_G {H0 H : Hp} {v : Value} {xs : List Int} (h : RowX none H0 H v 3 (ints xs)) : RowG 3 1 H v (int1 xs) /\ ∀ x, rowB v = some x -> H0 x = none := by
 have hf : (int1 xs).flatMap id = ints xs := by
  unfold int1 ints
  clear h
  induction xs with
  | nil => rfl
  | cons x xs ih => simp_all [List.flatMap_cons]
 have hl : (int1 xs).length = xs.length := by simp [int1]
 have hr : ∀ r ∈ int1 xs, r.length = 1 := fun r hr => by
  obtain ⟨x, _, rfl⟩ := List.mem_map.1 hr
  rfl
 rcases h.2 with ⟨rfl, h0⟩ | ⟨b, c, cap, h0, hb, rfl, h1, h2, h3⟩
 ·have : xs = [] := by cases xs with | nil => rfl | cons x l => simp [ints] at h0
  subst this
  exact ⟨RowG.nil, fun x hx => by cases hx⟩
 ·have hi : (ints xs).length = xs.length := Aqz xs
  rw [hi] at h2 ⊢
  refine ⟨⟨⟨(fun _ _ h => by cases h), .inr ⟨b, c, cap, rfl, hb, by rw [hl], by omega, by omega, by rw [hf, hi, hl, Nat.mul_one], by rw [hf]; exact h3⟩⟩, hr⟩, fun x hx => ?_⟩
  simp only [rowB, Option.some.injEq] at hx
  rw [<- hx]
  exact h0
theorem RowG.le {e : TypeId} {sz : Nat} {H H' : Hp} {v : Value} {rows : List (List Value)} (h : RowG e sz H v rows) (hl : H.le H') : RowG e sz H' v rows := h.keep fun x u _ hu => hl _ _ hu
theorem SmIn.lexT {H H' : Hp} {dv hv nv : Value} {s : Sm} (h : SmIn H dv hv nv s) {b k : Nat} (hT : TinI H b k) (hl : Lex (some b) H H') : SmIn H' dv hv nv s := ⟨SlG.lexT h.dd hT (by decide) hl, h.hh.lex hl hT, SlG.lexT h.nn hT (by decide) hl⟩
theorem Rows.one' {H : Hp} {w : Value} {xs : List Int} (h : SlI H w xs) : Rows H [w] [xs] := ⟨rfl, fun i y hi => by
 cases i with
 | zero => simp only [List.getElem?_cons_zero, Option.some.injEq] at hi; subst hi; exact ⟨w, rfl, h⟩
 | succ i => simp at hi⟩
theorem Rows.app' {H : Hp} {vs ws : List Value} {xss yss : List (List Int)} (h : Rows H vs xss) (h' : Rows H ws yss) : Rows H (vs ++ ws) (xss ++ yss) := ⟨by rw [List.length_append, List.length_append, h.1, h'.1], fun i xs hi => by
 by_cases hl : i < xss.length
 ·rw [List.getElem?_append_left hl] at hi
  obtain ⟨w, h1, h2⟩ := h.2 i xs hi
  exact ⟨w, by rw [List.getElem?_append_left (by rw [h.1]; exact hl)]; exact h1, h2⟩
 ·rw [List.getElem?_append_right (by omega)] at hi
  obtain ⟨w, h1, h2⟩ := h'.2 _ xs hi
  exact ⟨w, by rw [List.getElem?_append_right (by rw [h.1]; omega), h.1]; exact h1, h2⟩⟩
def row1 (vs : List Value) : List (List Value) := vs.map fun w => [w]
theorem RowG.at1 {H : Hp} {v : Value} {vs : List Value} (h : RowG 22 1 H v (row1 vs)) {i : Nat} {w : Value} (hi : vs[i]? = some w) : ∃ b c cap, v = .slice (some ⟨b, 0, none⟩) vs.length cap /\ H b = some (true, .cells c 22 (0, 0)) /\ c[i]? = some w := by
 rcases h.1.2 with ⟨_, h0, _⟩ | ⟨b, c, cap, _, hb, hv, h1, h2, h3, h4⟩
 ·have := (List.getElem?_eq_some_iff.1 hi).1
  rw [show (row1 vs).length = vs.length by simp [row1]] at h0
  omega
 ·refine ⟨b, c, cap, by rw [hv]; simp [row1], hb, h4 i w ?_⟩
  have : (row1 vs).flatMap id = vs := by
   unfold row1
   clear h hi hv h1 h2 h3 h4 hb
   induction vs with
   | nil => rfl
   | cons x l ih => simp_all [List.flatMap_cons]
  rw [this]
  exact hi
theorem row1_snoc (vs : List Value) (w : Value) : row1 vs ++ [[w]] = row1 (vs ++ [w]) := by simp [row1]
theorem SlI.otR {e : TypeId} {sz : Nat} {H H' : Hp} {v v' : Value} {rows : List (List Value)} {xs : List Int} (h : RowG e sz H v rows) (h' : SlI H v' xs) (he : e ≠ 3) (hk : ∀ x u, H x = some u -> rowB v ≠ some x -> H' x = some u) : SlI H' v' xs := h'.move fun x p c fr hx => hk x _ hx fun hv => by
 obtain ⟨c', hc⟩ := h.cell hv
 rw [hx] at hc
 simp only [Option.some.injEq, Prod.mk.injEq, Obj.cells.injEq] at hc
 exact he hc.2.2.1.symm
end Go.Proofs.YtnfnaehonkbknaaGreatDoor
end
section
namespace Go.Proofs.YtnfnaehonkbknaaGreatDoor
open Go Go.X Go.Proofs.Tryz
def y42_162 := aN @Byg (aN @Dy7 (aN @Eqw (aN @Dyw (aN @Dyz (aN @Exi (aN @Eqj (aN @Eqa (aN @Eqy (aN @Eqb (aN @Exl (aN @Eqv (aN @Dj0 @Aza))))))))))))
def nxT (d : Dr) (L : List (List Int)) : List (List Int) := L.flatMap fun t => (hrsF d).map fun n => t ++ [n]
theorem takesN_snoc (d : Dr) : ∀ ds : List Dr, Axw (ds ++ [d]) = nxT d (Axw ds)
 | [] => by
  simp only [List.nil_append, Axw, nxT, List.map_cons, List.map_nil, List.flatMap_cons, List.flatMap_nil, List.append_nil, List.map_eq_flatMap]
 | d' :: ds => by
  rw [List.cons_append]
  simp only [Axw, takesN_snoc d ds, nxT, List.map_flatMap, List.flatMap_assoc, List.flatMap_map, List.map_map]
  rfl
theorem hrsF_rng : ∀ a b : Fin 5, (((List.range 5).map fun (n : Nat) => (n : Int)).filter fun n => decide (((a.val : Nat) : Int) <= n /\ n <= ((b.val : Nat) : Int))) = (List.range (b.val + 1 - a.val)).map fun j => ((a.val + j : Nat) : Int) := by decide
theorem hrsF_is {d : Dr} {a b : Nat} (ha : d.mn = a) (hb : d.mx = b) (h4 : b <= 4) (h : a <= b) : hrsF d = (List.range (b + 1 - a)).map fun j => ((a + j : Nat) : Int) := by
 unfold hrsF
 rw [ha, hb]
 exact hrsF_rng ⟨a, by omega⟩ ⟨b, by omega⟩
theorem hrsF_len (d : Dr) : (hrsF d).length <= 5 := by
 unfold hrsF
 exact Nat.le_trans (List.length_filter_le _ _) (by simp)
theorem nxT_len (d : Dr) (L : List (List Int)) : (nxT d L).length <= 5 * L.length := by
 unfold nxT
 induction L with
 | nil => simp
 | cons t L ih =>
  rw [List.flatMap_cons, List.length_append, List.length_map, List.length_cons]
  have := hrsF_len d
  omega
theorem takesN_pow (ds : List Dr) : (Axw ds).length <= 5 ^ ds.length := by
 induction ds with
 | nil => simp [Axw]
 | cons d ds ih =>
  have h1 := hrsF_len d
  have : (Axw (d :: ds)).length = (hrsF d).length * (Axw ds).length := by
   rw [show Axw (d :: ds) = (hrsF d).flatMap fun n => (Axw ds).map (n :: ·) from rfl]
   generalize hrsF d = L
   generalize Axw ds = T
   clear h1
   induction L with
   | nil => simp
   | cons x L ih2 => rw [List.flatMap_cons, List.length_append, List.length_map, ih2, List.length_cons, Nat.add_mul]; omega
  rw [this, List.length_cons, Nat.pow_succ, Nat.mul_comm]
  exact Nat.mul_le_mul ih h1
theorem takesN_many (ds : List Dr) (hl : ds.length <= 6) : (Axw ds).length <= 15625 := Nat.le_trans (takesN_pow ds) (Nat.pow_le_pow_right (n := 5) (by decide) hl)
theorem takesOf_spec (m : Md) (H : Hp) (s : Sm) (dv hv nv : Value) (hs : SmIn H dv hv nv s) (ok : SmOk s) :
  FnX Tryz.prog m 42 #[smV s.places dv hv nv] H fun e H' => ∃ v vs, e = .returned v /\ RowG 22 1 H' v (row1 vs) /\ Rows H' vs (Axw s.doors) /\ H.le H' := by
 obtain ⟨da, dc, ha, kc, na, nc, rfl, rfl, rfl, -, -, -⟩ := hs.forms
 have hd5 := ok.dl
 refine Aql func42 rfl ntmps42 (by simp) ?_
 (refine @unH _ (zA y42_162 ?_); (try clear hK K); intro K hK hc)
 (intro sb hsb; generalize hG : Hp.set _ sb _ = H1; have lH1 := Aqc hG hsb; have vsb := Aqb hG; clear hG)
 refine hK _ _ ?_
 clear hK K
 (try refine @unH _ (zQ ?_))
 (refine @unH _ (zA y42_162 ?_); (try clear hK K); intro K hK hc)
 intro b hb
 generalize hG : Hp.set H1 b _ = H2
 have l12 := Aqc hG hb
 have vb := Aqb hG
 clear hG
 have hs2 := (hs.le lH1).le l12
 have vsb2 := l12 _ _ vsb
 have l02 := Hp.le_trans lH1 l12
 have hr0 : RowG 22 1 H2 (.slice (some ⟨b, 0, none⟩) 1 1) (row1 [.slice none 0 0]) := ⟨⟨(fun _ _ h => by cases h), .inr ⟨b, _, 1, rfl, vb, rfl, rfl, Nat.le_refl _, rfl, fun i u hi => by simpa [row1] using hi⟩⟩, fun r hr => by simp only [row1, List.map_cons, List.map_nil, List.mem_singleton] at hr; rw [hr]; rfl⟩
 replace hr0 : Aqk _ := hr0
 clear hb vb lH1 vsb l12 hs hsb
 (refine @unH _ (zU y42_162 ?_); (try clear hK K); intro K hK hc)
 refine Axc (fun w a' H' => ∃ e v vs, ∃ i : Nat, w = s.doors.length - i /\ i <= s.doors.length /\ a' = act 53 e [] /\ e 1 = .pointer (some ⟨sb, 0, none⟩) /\ e 3 = v /\ e 4 = .int .i64 (i : Nat) /\ H2.le H' /\ Aqk (RowG 22 1 H' v (row1 vs)) /\ Aqk (Rows H' vs (Axw (s.doors.take i)))) (n := s.doors.length) ?_ ?_
 ·exact ⟨_, _, [.slice none 0 0], 0, by omega, by omega, rfl, rfl, rfl, rfl, Hp.le_refl _, hr0, Rows.one' (SlI.nil _ _ _)⟩
 clear hr0
 rintro w a' H5 ⟨e, v, vs, i, rfl, hi, rfl, e1, e3, e4, l25, r5, s5⟩
 obtain ⟨va, vc, hvf⟩ := RowG.form (show RowG _ _ H5 v (row1 vs) from r5)
 rw [show (row1 vs).length = vs.length by simp [row1]] at hvf
 subst hvf
 have vsb5 := l25 _ _ vsb2
 have hvl : vs.length <= 15625 := by
  have h1 := (show Rows H5 vs _ from s5).1
  have h2 := takesN_many (s.doors.take i) (by rw [List.length_take]; omega)
  omega
 by_cases hlt : i < s.doors.length
 ·have hlt' : (i : Int) < s.doors.length := by omega
  have hkd := List.getElem?_eq_getElem hlt
  obtain ⟨db, dof, dp, dcl, dfr, hdae, hdb, hdsz, -, hdext⟩ := SlG.get (hs2.dd.le l25) (i := i) (r := Bj1 s.doors[i]) (by rw [List.getElem?_map, hkd]; rfl)
  have htk : Axw (s.doors.take (i + 1)) = nxT s.doors[i] (Axw (s.doors.take i)) := by rw [List.take_add_one, hkd]; exact takesN_snoc _ _
  have hok := ok.dk _ (List.mem_of_getElem? hkd)
  have hm0 := hok.m0
  have hm1 := hok.m1
  have hm2 := hok.m2
  subst hdae
  clear hkd hok
  generalize s.doors[i] = d at *
  obtain ⟨a, ha⟩ : ∃ a : Nat, d.mn = a := ⟨d.mn.toNat, by omega⟩
  obtain ⟨c, hc2⟩ : ∃ c : Nat, d.mx = c := ⟨d.mx.toNat, by omega⟩
  have hac : a <= c := by omega
  have hc4 : c <= 4 := by omega
  have hh := hrsF_is ha hc2 hc4 hac
  have hd2 : dcl[dof + i * 4 + 2]? = some (.int .i64 d.mn) := Bzb (k := 2) hdext hdsz rfl
  have hd3 : dcl[dof + i * 4 + 3]? = some (.int .i64 d.mx) := Bzb (k := 3) hdext hdsz rfl
  rw [ha] at hd2
  rw [hc2] at hd3
  replace hh : Aqk _ := hh
  replace htk : Aqk _ := htk
  clear hdext ha hc2 hm0 hm1 hm2
  (refine @unH _ (zA y42_162 ?_); (try clear hK K); intro K hK hc)
  refine Axc (fun w a' H' => ∃ e nv ns, ∃ k : Nat, w = vs.length - k /\ k <= vs.length /\ a' = act 53 e [] /\ e 1 = .pointer (some ⟨sb, 0, none⟩) /\ e 3 = .slice va vs.length vc /\ e 4 = .int .i64 (i : Nat) /\ e 5 = nv /\ e 6 = .int .i64 (k : Nat) /\ H5.le H' /\ Aqk (RowG 22 1 H' nv (row1 ns)) /\ Aqk (Rows H' ns (nxT d ((Axw (s.doors.take i)).take k))) /\ Aqk (∀ y, rowB nv = some y -> H5 y = none)) (n := vs.length) ?_ ?_
  ·exact ⟨_, _, [], 0, by omega, by omega, rfl, e1, e3, e4, rfl, rfl, Hp.le_refl _, RowG.nil, ⟨rfl, fun i xs hi => by simp [nxT] at hi⟩, fun y h => by (cases h)⟩
  clear e1 e3 e4 e
  rintro w a' H6 ⟨e, nv, ns, k, rfl, hk, rfl, e1, e3, e4, e5, e6, l56, r6, s6, n6⟩
  have vsb6 := l56 _ _ vsb5
  have hdb6 := l56 _ _ hdb
  by_cases hlk : k < vs.length
  ·have hlk' : (k : Int) < vs.length := by omega
   obtain ⟨lw, hlw⟩ : ∃ lw, vs[k]? = some lw := ⟨_, List.getElem?_eq_getElem hlk⟩
   obtain ⟨lb, lcl, lcap, hlf, vlb5, hlc⟩ := (show RowG _ _ H5 _ _ from r5).at1 hlw
   cases hlf
   have hs5 := (show Rows H5 vs _ from s5)
   have hxs : k < (Axw (s.doors.take i)).length := hs5.1 ▸ hlk
   have hsx := List.getElem?_eq_getElem hxs
   obtain ⟨lw', hqq, hsl⟩ := hs5.2 k _ hsx
   rw [hlw] at hqq
   cases hqq
   have hnt : nxT d ((Axw (s.doors.take i)).take (k + 1)) = nxT d ((Axw (s.doors.take i)).take k) ++ (hrsF d).map fun n => (Axw (s.doors.take i))[k] ++ [n] := by rw [List.take_add_one, hsx, Option.toList_some]; unfold nxT; rw [List.flatMap_append, List.flatMap_cons, List.flatMap_nil, List.append_nil]
   have ht0 : (Axw (s.doors.take i))[k].length <= 6 := by
    rw [Akq (List.mem_of_getElem? hsx), List.length_take]
    omega
   have hnl : (nxT d ((Axw (s.doors.take i)).take k)).length <= 100000 := by
    have h1 := nxT_len d ((Axw (s.doors.take i)).take k)
    rw [List.length_take] at h1
    omega
   rw [show hrsF d = _ from hh, List.map_map] at hnt
   clear hlw hsx hs5
   generalize (Axw (s.doors.take i))[k] = t0 at *
   obtain ⟨lwa, lwc, rfl, _⟩ := id hsl
   replace hnt : Aqk _ := hnt
   replace hsl : Aqk _ := hsl
   (refine @unH _ (zA y42_162 ?_); (try clear hK K); intro K hK hc)
   refine Axc (fun w a' H' => ∃ e nv ns, ∃ x : Nat, w = c + 1 - a - x /\ x <= c + 1 - a /\ a' = act 53 e [] /\ e 1 = .pointer (some ⟨sb, 0, none⟩) /\ e 3 = .slice (some ⟨lb, 0, none⟩) vs.length vc /\ e 4 = .int .i64 (i : Nat) /\ e 5 = nv /\ e 6 = .int .i64 (k : Nat) /\ e 7 = .int .i64 (a + x : Nat) /\ H5.le H' /\ Aqk (RowG 22 1 H' nv (row1 ns)) /\ Aqk (Rows H' ns (nxT d ((Axw (s.doors.take i)).take k) ++ (List.range x).map fun j => t0 ++ [((a + j : Nat) : Int)])) /\ Aqk (∀ y, rowB nv = some y -> H5 y = none)) (n := c + 1 - a) ?_ ?_
   ·exact ⟨_, nv, ns, 0, by omega, by omega, rfl, e1, e3, e4, e5, e6, rfl, l56, r6, (by rw [List.range_zero, List.map_nil, List.append_nil]; exact s6), n6⟩
   clear e1 e3 e4 e5 e6 e r6 s6 n6 l56 vsb6 hdb6
   rintro w a' H7 ⟨e, nv, ns, x, rfl, hx, rfl, e1, e3, e4, e5, e6, e7, l57, r7, s7, n7⟩
   have vsb7 := l57 _ _ vsb5
   have hdb7 := l57 _ _ hdb
   have vlb7 := l57 _ _ vlb5
   by_cases hlx : x < c + 1 - a
   ·have hlx' : ((a + x : Nat) : Int) <= (c : Nat) := by omega
    obtain ⟨nva, nvc, hnf⟩ := RowG.form (show RowG _ _ H7 nv (row1 ns) from r7)
    have hone : one nv = true := by rw [hnf]; rfl
    replace hnf : Aqk _ := hnf
    (refine @unH _ (zA y42_162 ?_); (try clear hK K); intro K hK hc)
    refine (Ckg m H7 _ t0 ((show SlI H5 _ t0 from hsl).le l57) (by omega)).runs.mono ?_
    rintro _ H8 ⟨kv, rfl, hk8⟩
    have l78 : H7.le H8 := hk8.1.toLe
    obtain ⟨kr, kn⟩ := rowX_G hk8
    obtain ⟨_, _, hkf⟩ := kr.form
    have honek : one kv = true := by rw [hkf]; rfl
    replace hkf : Aqk _ := hkf
    replace kr : Aqk _ := kr
    replace kn : Aqk _ := kn
    clear hk8
    (refine @unH _ (zU y42_162 ?_); intro _ _ hc)
    intro g hg
    refine Ayp underlying22 sizeOf3 zeroValue3 rfl typeInfo3 (by decide) (by decide) (show RowG 3 1 H8 kv (int1 t0) from kr) (ws := [.int .i64 ((a + x : Nat) : Int)]) rfl hg (fun w hw => by rw [List.mem_singleton.1 hw]; rfl) (by rw [int1, List.length_map]; omega) _ _ _ _ (fun v9 H9 r9 k9 n9 => ?_)
    have l79 : H7.le H9 := fun y u h => k9 y u (l78 _ _ h) fun h2 => by rw [(show ∀ y, _ from kn) y h2] at h; cases h
    have s9 : SlI H9 v9 (t0 ++ [((a + x : Nat) : Int)]) := SlG.ints1 (by
     have h := r9.slG (by decide)
     rw [show int1 t0 ++ [[Value.int .i64 ((a + x : Nat) : Int)]] = int1 (t0 ++ [((a + x : Nat) : Int)]) by simp [int1]] at h
     exact h)
    clear r9 k9 n9
    obtain ⟨_, _, rfl, _⟩ := id s9
    replace s9 : Aqk _ := s9
    clear kr kn hg l78 hkf
    (refine @unH _ (zU y42_162 ?_); intro _ _ hc)
    intro g2 hg2
    have hbn : (row1 ns).length <= 1000000 := by
     have h1 := (show Rows H7 ns _ from s7).1
     rw [List.length_append, List.length_map, List.length_range] at h1
     rw [row1, List.length_map]
     omega
    refine Ayp underlying81 sizeOf22 zeroValue22 rfl typeInfo22 (by decide) (by decide) ((show RowG _ _ H7 nv (row1 ns) from r7).le l79) rfl hg2 (fun w hw => by rw [List.mem_singleton.1 hw]; rfl) hbn _ _ _ _ (fun v10 H10 r10 k10 n10 => ?_)
    rw [row1_snoc] at r10
    have s10 := Rows.app' ((show Rows H7 ns _ from s7).mono fun _ _ h => SlI.otR ((show RowG _ _ H7 nv (row1 ns) from r7).le l79) (h.le l79) (by decide) k10) (Rows.one' (SlI.otR ((show RowG _ _ H7 nv (row1 ns) from r7).le l79) (show SlI H9 _ _ from s9) (by decide) k10))
    rw [List.append_assoc, <- List.map_singleton (f := fun j : Nat => t0 ++ [((a + j : Nat) : Int)]), <- List.map_append, <- List.range_succ] at s10
    have l510 : H5.le H10 := fun y u h => k10 y u (l79 _ _ (l57 _ _ h)) fun h2 => by rw [(show ∀ y, _ from n7) y h2] at h; cases h
    have n10' : Aqk (∀ y, rowB v10 = some y -> H5 y = none) := fun y h => (n10 y h).elim (fun h => (show ∀ y, _ from n7) y h) fun h => Hp.le_none (Hp.le_trans l57 l79) h
    obtain ⟨_, _, hf10⟩ := r10.form
    have hone10 : one v10 = true := by rw [hf10]; rfl
    replace hf10 : Aqk _ := hf10
    replace s10 : Aqk _ := s10
    replace r10 : Aqk _ := r10
    clear k10 n10 hg2 s9 l79 vlb7 hdb7 vsb7 s7 r7 n7
    (refine @unH _ (zU y42_162 ?_); (try clear hK K); intro K hK hc)
    exact ⟨c + 1 - a - (x + 1), by omega, _, v10, _, x + 1, rfl, by omega, rfl, e1, e3, e4, rfl, e6, rfl, l510, r10, s10, n10'⟩
   ·have hlx' : ¬ ((a + x : Nat) : Int) <= (c : Nat) := by omega
    obtain rfl : x = c + 1 - a := by omega
    have s7' : Aqk (Rows H7 ns (nxT d ((Axw (s.doors.take i)).take (k + 1)))) := by
     rw [show nxT d ((Axw (s.doors.take i)).take (k + 1)) = _ from hnt]
     exact s7
    (refine @unH _ (zA y42_162 ?_); (try clear hK K); intro K hK hc)
    exact ⟨vs.length - (k + 1), by omega, _, _, ns, k + 1, rfl, by omega, rfl, e1, e3, e4, e5, rfl, l57, r7, s7', n7⟩
  ·have hlk' : ¬ (k : Int) < vs.length := by omega
   obtain rfl : k = vs.length := by omega
   have s6' : Aqk (Rows H6 ns (Axw (s.doors.take (i + 1)))) := by
    rw [show Axw (s.doors.take (i + 1)) = _ from htk]
    have h := (show Rows H6 ns _ from s6)
    rw [List.take_of_length_le (by rw [(show Rows H5 vs _ from s5).1]; exact Nat.le_refl _)] at h
    exact h
   have l26 := Hp.le_trans l25 l56
   (refine @unH _ (zA y42_162 ?_); (try clear hK K); intro K hK hc)
   exact ⟨s.doors.length - (i + 1), by omega, _, _, ns, i + 1, rfl, by omega, rfl, e1, rfl, rfl, l26, r6, s6'⟩
 ·obtain rfl : i = s.doors.length := by omega
  have hlt' : ¬ (s.doors.length : Int) < s.doors.length := by omega
  have l05 := Hp.le_trans l02 l25
  rw [List.take_length] at s5
  (refine @unH _ (zA y42_162 ?_); (try clear hK K); intro K hK hc)
  (refine @unH _ ?_; refine z9 results42 ?_)
  exact ⟨_, vs, rfl, r5, s5, l05⟩
def y9_163 := aN @Eq4 (aN @callF42 (aN @Dy8 (aN @Eqv (aN @Dyv (aN @Dyz (aN @Exh (aN @Eqy (aN @Exl (aN @Dj2 (aN @Dy9 (aN @Eqx (aN @Dyx (aN @Exj (aN @Eq6 (aN @Exw (aN @Exe (aN @Eqg (aN @Eqz (aN @Eqe (aN @Eqf (aN @eqG_bool (aN @bld_41_0_1_2_3_0 (fun H => Awe (H := H) underlying31 sizeOf41 zeroValue41 rfl (by decide) (by decide))))))))))))))))))))))))
abbrev EvT := Nat × Nat × List Int × List Int
def fitC (ns : List Ns) (c : List Int) : Bool := ns.all fun n => n.sm == decide (gI c n.pl <= n.hr)
def evP (s : Sm) (i b : Nat) (L : List (List Int)) : List EvT := L.filterMap fun ts => if fitC s.noses (Awf s (s.hampers.getD i 0) b ts) then some (i, b, ts, Awf s (s.hampers.getD i 0) b ts) else none
def evB (s : Sm) (i n : Nat) : List EvT := (List.range n).flatMap fun b => evP s i b (Axw s.doors)
def evA (s : Sm) (n : Nat) : List EvT := (List.range n).flatMap fun i => evB s i 13
def evF (s : Sm) : List EvT := evA s s.hampers.length
theorem evA_succ (s : Sm) (n : Nat) : evA s (n + 1) = evA s n ++ evB s n 13 := by simp [evA, List.range_succ]
theorem evB_succ (s : Sm) (i n : Nat) : evB s i (n + 1) = evB s i n ++ evP s i n (Axw s.doors) := by simp [evB, List.range_succ]
theorem evP_take (s : Sm) (i b : Nat) {L : List (List Int)} {k : Nat} {ts : List Int} (h : L[k]? = some ts) : evP s i b (L.take (k + 1)) = if fitC s.noses (Awf s (s.hampers.getD i 0) b ts) then evP s i b (L.take k) ++ [(i, b, ts, Awf s (s.hampers.getD i 0) b ts)] else evP s i b (L.take k) := by
 unfold evP
 rw [List.take_add_one, h, Option.toList_some, List.filterMap_append]
 split <;> rename_i hf
 ·rw [List.filterMap_cons_some (b := (i, b, ts, Awf s (s.hampers.getD i 0) b ts)) (by rw [if_pos hf]), List.filterMap_nil]
 ·rw [List.filterMap_cons_none (by rw [if_neg hf]), List.filterMap_nil, List.append_nil]
theorem fitC_take {ns : List Ns} {k : Nat} {n : Ns} (h : ns[k]? = some n) (c : List Int) : fitC (ns.take (k + 1)) c = (fitC (ns.take k) c && (n.sm == decide (gI c n.pl <= n.hr))) := by
 unfold fitC
 rw [List.take_add_one, h, Option.toList_some, List.all_append]
 simp
theorem evF_mem {s : Sm} {x : EvT} : x ∈ evF s ↔ x.1 < s.hampers.length /\ x.2.1 < 13 /\ x.2.2.1 ∈ Axw s.doors /\ x.2.2.2 = Awf s (s.hampers.getD x.1 0) x.2.1 x.2.2.1 /\ fitC s.noses x.2.2.2 = true := by
 obtain ⟨i, b, ts, c⟩ := x
 simp only [evF, evA, evB, evP, List.mem_flatMap, List.mem_range, List.mem_filterMap]
 constructor
 ·rintro ⟨i', hi, b', hb, ts', ht, h⟩
  split at h
  ·rename_i hf
   simp only [Option.some.injEq, Prod.mk.injEq] at h
   obtain ⟨rfl, rfl, rfl, rfl⟩ := h
   exact ⟨hi, hb, ht, rfl, hf⟩
  ·cases h
 ·rintro ⟨hi, hb, ht, hc, hf⟩
  subst hc
  exact ⟨i, hi, b, hb, ts, ht, by rw [if_pos hf]⟩
theorem evP_len (s : Sm) (i b : Nat) (L : List (List Int)) : (evP s i b L).length <= L.length := List.length_filterMap_le _ _
theorem evB_len (s : Sm) (i : Nat) {T : Nat} (hT : (Axw s.doors).length <= T) : ∀ n, (evB s i n).length <= n * T
 | 0 => by simp [evB]
 | n + 1 => by
  rw [evB_succ, List.length_append, Nat.add_mul]
  have := evB_len s i hT n
  have := evP_len s i n (Axw s.doors)
  omega
theorem evA_len (s : Sm) {T : Nat} (hT : (Axw s.doors).length <= T) : ∀ n, (evA s n).length <= n * (13 * T)
 | 0 => by simp [evA]
 | n + 1 => by
  rw [evA_succ, List.length_append, Nat.add_mul]
  have := evA_len s hT n
  have := evB_len s n hT 13
  omega
def EvR (H : Hp) (rows : List (List Value)) (es : List EvT) : Prop := rows.length = es.length /\ ∀ (k : Nat) (e : EvT), es[k]? = some e -> ∃ tv cv, rows[k]? = some [.int .i64 (e.1 : Nat), .int .i64 (e.2.1 : Nat), tv, cv] /\ SlI H tv e.2.2.1 /\ SlI H cv e.2.2.2
theorem EvR.mono {H H' : Hp} {rows : List (List Value)} {es : List EvT} (h : EvR H rows es) (hl : ∀ v xs, SlI H v xs -> SlI H' v xs) : EvR H' rows es := ⟨h.1, fun k e he => by
 obtain ⟨tv, cv, h1, h2, h3⟩ := h.2 k e he
 exact ⟨tv, cv, h1, hl _ _ h2, hl _ _ h3⟩⟩
theorem EvR.snoc {H : Hp} {rows : List (List Value)} {es : List EvT} (h : EvR H rows es) {e : EvT} {tv cv : Value} (ht : SlI H tv e.2.2.1) (hc : SlI H cv e.2.2.2) : EvR H (rows ++ [[.int .i64 (e.1 : Nat), .int .i64 (e.2.1 : Nat), tv, cv]]) (es ++ [e]) := ⟨by simp [h.1], fun k x hx => by
 by_cases hk : k < es.length
 ·rw [List.getElem?_append_left hk] at hx
  obtain ⟨tv', cv', h1, h2, h3⟩ := h.2 k x hx
  exact ⟨tv', cv', by rw [List.getElem?_append_left (by rw [h.1]; exact hk)]; exact h1, h2, h3⟩
 ·rw [List.getElem?_append_right (by omega)] at hx
  obtain ⟨hk0, rfl⟩ : k - es.length = 0 /\ e = x := by
   cases hd : k - es.length with
   | zero => rw [hd] at hx; simp only [List.getElem?_cons_zero, Option.some.injEq] at hx; exact ⟨rfl, hx⟩
   | succ j => rw [hd] at hx; simp at hx
  exact ⟨tv, cv, by rw [List.getElem?_append_right (by rw [h.1]; omega), h.1, hk0]; rfl, ht, hc⟩⟩
theorem events_spec (m : Md) (H : Hp) (s : Sm) (dv hv nv : Value) (hs : SmIn H dv hv nv s) (ok : SmOk s) (hd4 : s.doors.length <= 4) :
  FnX Tryz.prog m 9 #[smV s.places dv hv nv] H fun e H' => ∃ v rows, e = .returned v /\ RowG 41 4 H' v rows /\ EvR H' rows (evF s) /\ H.le H' := by
 obtain ⟨da, dc, ha, kc, na, nc, rfl, rfl, rfl, -, -, -⟩ := hs.forms
 refine Aql func9 rfl ntmps9 (by simp) ?_
 (refine @unH _ (zA y9_163 ?_); (try clear hK K); intro K hK hc)
 (intro sb hsb; generalize hG : Hp.set _ sb _ = H1; have lH1 := Aqc hG hsb; have vsb := Aqb hG; clear hG)
 refine hK _ _ ?_
 clear hK K
 (try refine @unH _ (zQ ?_))
 have hs1 := hs.le lH1
 have l01 := lH1
 clear hs hsb lH1
 (refine @unH _ (zA y9_163 ?_); (try clear hK K); intro K hK hc)
 refine (takesOf_spec _ H1 s _ _ _ hs1 ok).runs.mono ?_
 rintro _ H2 ⟨tv, tvs, rfl, rT, sT, l12⟩
 obtain ⟨ta, tc, hlv⟩ := rT.form
 rw [show (row1 tvs).length = (Axw s.doors).length by rw [row1, List.length_map]; exact sT.1] at hlv
 subst hlv
 have hs2 := hs1.le l12
 have vsb2 := l12 _ _ vsb
 have l02 := Hp.le_trans l01 l12
 have hh1 := ok.h1
 have hnl3 := ok.nl
 have hT1 : (Axw s.doors).length <= 625 := Nat.le_trans (takesN_pow _) (Nat.pow_le_pow_right (n := 5) (by decide) hd4)
 replace rT : Aqk _ := rT
 replace sT : Aqk _ := sT
 clear hs1 vsb l01 l12
 (refine @unH _ (zU y9_163 ?_); (try clear hK K); intro K hK hc)
 refine Axc (fun w a' H' => ∃ e v rows, ∃ i : Nat, w = s.hampers.length - i /\ i <= s.hampers.length /\ a' = act 82 e [] /\ e 1 = .pointer (some ⟨sb, 0, none⟩) /\ e 3 = v /\ e 4 = .slice ta (Axw s.doors).length tc /\ e 5 = .int .i64 (i : Nat) /\ H2.le H' /\ Aqk (RowG 41 4 H' v rows) /\ Aqk (EvR H' rows (evA s i)) /\ Aqk (∀ y, rowB v = some y -> H2 y = none)) (n := s.hampers.length) ?_ ?_
 ·exact ⟨_, _, [], 0, by omega, by omega, rfl, rfl, rfl, rfl, rfl, Hp.le_refl _, RowG.nil, ⟨rfl, fun k e hk => by simp [evA] at hk⟩, fun y h => by (cases h)⟩
 rintro w a' H3 ⟨e, v, rows, i, rfl, hi, rfl, e1, e3, e4, e5, l23, r3, s3, n3⟩
 have vsb3 := l23 _ _ vsb2
 by_cases hli : i < s.hampers.length
 ·have hli' : (i : Int) < s.hampers.length := by omega
  (refine @unH _ (zA y9_163 ?_); (try clear hK K); intro K hK hc)
  refine Axc (fun w a' H' => ∃ e v rows, ∃ b : Nat, w = 13 - b /\ b <= 13 /\ a' = act 82 e [] /\ e 1 = .pointer (some ⟨sb, 0, none⟩) /\ e 3 = v /\ e 4 = .slice ta (Axw s.doors).length tc /\ e 5 = .int .i64 (i : Nat) /\ e 6 = .int .i64 (b : Nat) /\ H2.le H' /\ Aqk (RowG 41 4 H' v rows) /\ Aqk (EvR H' rows (evA s i ++ evB s i b)) /\ Aqk (∀ y, rowB v = some y -> H2 y = none)) (n := 13) ?_ ?_
  ·exact ⟨_, v, rows, 0, by omega, by omega, rfl, e1, e3, e4, e5, rfl, l23, r3, (by rw [show evB s i 0 = [] from rfl, List.append_nil]; exact s3), n3⟩
  clear e1 e3 e4 e5 e r3 s3 n3 l23 vsb3
  rintro w a' H4 ⟨e, v, rows, b, rfl, hb, rfl, e1, e3, e4, e5, e6, l24, r4, s4, n4⟩
  by_cases hlb : b < 13
  ·have hlb' : (b : Int) <= 12 := by omega
   (refine @unH _ (zA y9_163 ?_); (try clear hK K); intro K hK hc)
   refine Axc (fun w a' H' => ∃ e v rows, ∃ k : Nat, w = (Axw s.doors).length - k /\ k <= (Axw s.doors).length /\ a' = act 82 e [] /\ e 1 = .pointer (some ⟨sb, 0, none⟩) /\ e 3 = v /\ e 4 = .slice ta (Axw s.doors).length tc /\ e 5 = .int .i64 (i : Nat) /\ e 6 = .int .i64 (b : Nat) /\ e 7 = .int .i64 (k : Nat) /\ H2.le H' /\ Aqk (RowG 41 4 H' v rows) /\ Aqk (EvR H' rows (evA s i ++ evB s i b ++ evP s i b ((Axw s.doors).take k))) /\ Aqk (∀ y, rowB v = some y -> H2 y = none)) (n := (Axw s.doors).length) ?_ ?_
   ·exact ⟨_, v, rows, 0, by omega, by omega, rfl, e1, e3, e4, e5, e6, rfl, l24, r4, (by rw [List.take_zero, show evP s i b [] = [] from rfl, List.append_nil]; exact s4), n4⟩
   clear e1 e3 e4 e5 e6 e r4 s4 n4 l24
   rintro w a' H5 ⟨e, v, rows, k, rfl, hk, rfl, e1, e3, e4, e5, e6, e7, l25, r5, s5, n5⟩
   have vsb5 := l25 _ _ vsb2
   by_cases hlk : k < (Axw s.doors).length
   ·have hlk' : (k : Int) < (Axw s.doors).length := by omega
    have hkx := List.getElem?_eq_getElem hlk
    obtain ⟨lw, hlw⟩ : ∃ lw, tvs[k]? = some lw := ⟨_, List.getElem?_eq_getElem (by rw [(show Rows H2 tvs _ from sT).1]; exact hlk)⟩
    obtain ⟨qb, qcl, qcap, hqf, vqb2, hqc⟩ := (show RowG _ _ H2 _ _ from rT).at1 hlw
    simp only [Value.slice.injEq] at hqf
    obtain ⟨rfl, -, rfl⟩ := hqf
    obtain ⟨lw', hqq, hsl⟩ := (show Rows H2 tvs _ from sT).2 k _ hkx
    rw [hlw] at hqq
    cases hqq
    have hstep := evP_take s i b hkx
    have htm := List.mem_of_getElem? hkx
    obtain ⟨hb', ho, hcap, hp, hcl, hfr, hvf, -, hhb2, hcell⟩ := hs2.hh.cons (fun e => by rw [e] at hli; exact absurd hli (by simp))
    cases hvf
    have hkh := List.getElem?_eq_getElem hli
    have hx := hcell i _ hkh
    have hxk := ok.hk _ (List.mem_of_getElem? hkh)
    have hxD : s.hampers.getD i 0 = s.hampers[i] := by rw [List.getD_eq_getElem?_getD, hkh]; rfl
    rw [hxD] at hstep
    have hCo := fun H' (l : H2.le H') => Bw4 m H' s _ _ _ (hs2.le l) ok _ b hxk.1 hxk.2 (by omega) (by omega) _ _ (hsl.le l) htm
    have hvqb := l25 _ _ vqb2
    have hvhb := l25 _ _ hhb2
    obtain ⟨lwa, lwn, lwc, rfl⟩ := hsl.isSlice
    replace hxk : Aqk _ := hxk
    replace hxD : Aqk _ := hxD
    clear hkx hlw hkh hcell
    generalize s.hampers[i] = x at *
    generalize (Axw s.doors)[k] = ts at *
    replace hsl : Aqk _ := hsl
    replace hstep : Aqk _ := hstep
    replace hCo : Aqk _ := hCo
    replace htm : Aqk _ := htm
    (refine @unH _ (zA y9_163 ?_); (try clear hK K); intro K hK hc)
    refine Axn (fun HX => HX sb = some (true, smO s.places (.slice da s.doors.length dc) (.slice (some ⟨hb', ho, none⟩) s.hampers.length kc) (.slice na s.noses.length nc)) /\ HX hb' = some (hp, .cells hcl 3 hfr) /\ HX qb = some (true, .cells qcl 22 (0, 0))) [11] (.take 0 (.free 1 (.take 2 (.free 3 (.free 4 (.take 5 (.free 6 (.free 7 (.free 8 (.free 9 (.take 10 (.one 11 (.free 12 .nil))))))))))))) (by kernel_rfl) (by kernel_rfl) (by decide) (by kernel_rfl) ?_; intro K hK
    refine Ax5 fun ops hOz => ?_
    have hSS := And.intro vsb5 (And.intro hvhb hvqb)
    (refine @unH _ ?_; refine zK (aN y9_163 @exists_eq_left'.{1}) ?_)
    (refine @unH _ ?_; refine zF y9_163 ?_)
    (refine @unH _ ?_; refine zK (aN y9_163 @exists_eq_left'.{1}) ?_)
    (iterate 2 (refine @unH _ ?_; refine zF y9_163 ?_))
    (refine @unH _ ?_; refine zK (aN y9_163 @exists_eq_left'.{1}) ?_)
    (iterate 4 (refine @unH _ ?_; refine zF y9_163 ?_))
    (refine @unH _ ?_; refine zK (aN y9_163 @exists_eq_left'.{1}) ?_)
    clear hSS
    (refine @unH _ ?_; refine zM y9_163 ?_)
    refine ((show ∀ H', _ -> _ from hCo) H5 l25).runs.mono ?_
    rintro _ H6 ⟨cv, rfl, hcv, l56⟩
    have hcl' := Bzt s x b ts
    obtain ⟨ca, cc, rfl, _⟩ := id hcv
    have l26 := Hp.le_trans l25 l56
    have vsb6 := l56 _ _ vsb5
    have r6 : RowG 41 4 H6 v rows := (show RowG _ _ H5 v rows from r5).le l56
    have s6 : EvR H6 rows (evA s i ++ evB s i b ++ evP s i b ((Axw s.doors).take k)) := (show EvR H5 rows _ from s5).mono fun _ _ h => h.le l56
    have hgt : ∀ p : Int, 0 <= p -> p < s.places -> (Awf s x b ts)[p.toNat]? = some (gI (Awf s x b ts) p) := fun p p0 p1 => Awg p0 (by rw [hcl']; omega)
    clear hCo vsb5 hvqb hvhb
    replace r6 : Aqk _ := r6
    replace s6 : Aqk _ := s6
    replace hgt : Aqk _ := hgt
    replace hcl' : Aqk _ := hcl'
    replace r5 : Aqk _ := r5
    clear r5 s5
    simp -implicitDefEqProofs (disch := omega) only [Azs, Aq3, Aqm]
    refine ⟨.inl (by decide), ?_⟩
    (refine @unH _ ?_; refine zF y9_163 ?_)
    (refine Aja (hK _ _ ?_); clear hK K; (try simp only [nq, ↓reduceIte, Nat.reduceEqDiff]))
    generalize hcf : Awf s x b ts = c at *
    replace hcf : Aqk _ := hcf
    replace hcv : Aqk _ := hcv
    (refine @unH _ (zA y9_163 ?_); (try clear hK K); intro K hK hc)
    refine Axc (fun w a' H' => ∃ e, ∃ q : Nat, w = s.noses.length - q /\ q <= s.noses.length /\ a' = act 82 e [] /\ e 1 = .pointer (some ⟨sb, 0, none⟩) /\ e 3 = v /\ e 4 = .slice (some ⟨qb, 0, none⟩) (Axw s.doors).length tc /\ e 5 = .int .i64 (i : Nat) /\ e 6 = .int .i64 (b : Nat) /\ e 7 = .int .i64 (k : Nat) /\ e 8 = .slice ca c.length cc /\ e 9 = .bool (fitC (s.noses.take q) c) /\ e 10 = .int .i64 (q : Nat) /\ H6.le H') (n := s.noses.length) ?_ ?_
    ·exact ⟨_, 0, by omega, by omega, rfl, e1, e3, e4, e5, e6, e7, rfl, rfl, rfl, Hp.le_refl _⟩
    clear e1 e3 e4 e5 e6 e7 e
    rintro w a' H7 ⟨e, q, rfl, hq, rfl, e1, e3, e4, e5, e6, e7, e8, e9, e10, l67⟩
    have vsb7 := l67 _ _ vsb6
    by_cases hlq : q < s.noses.length
    ·have hlq' : (q : Int) < s.noses.length := by omega
     have hkn := List.getElem?_eq_getElem hlq
     obtain ⟨db, dof, dp, dcl, dfr, hdae, hdb, hdsz, -, hdext⟩ := SlG.get (hs2.nn.le (Hp.le_trans l26 l67)) (i := q) (r := Bj5 s.noses[q]) (by rw [List.getElem?_map, hkn]; rfl)
     have hst := fitC_take hkn c
     have hnk := ok.nk _ (List.mem_of_getElem? hkn)
     subst hdae
     clear hkn
     generalize s.noses[q] = n at *
     unfold Bj5 at hdext
     replace hst : Aqk _ := hst
     (refine @unH _ (zA y9_163 ?_); (try clear hK K); intro K hK hc)
     (intro nb hnb; generalize hG : Hp.set _ nb _ = H8; have lH8 := Aqc hG hnb; have vnb := Aqb hG; clear hG)
     have hcv7 := (show SlI H6 _ c from hcv).le l67
     have hp0 := hnk.p0
     have hp1 := hnk.p1
     have hcl2 : c.length = s.places.toNat := hcl'
     obtain ⟨cb, co, ccap, cp, ccl, cfr, hcvf, -, hcb7, hccell⟩ := hcv7.cons (fun e => by rw [e] at hcl2; simp at hcl2; omega)
     cases hcvf
     have hpl : n.pl < c.length := by omega
     have hcg := hccell _ _ ((show ∀ p : Int, _ from hgt) n.pl hp0 hp1)
     have hcb8 := lH8 _ _ hcb7
     have l68 := Hp.le_trans l67 lH8
     clear hcv7 hccell hcl2 hcb7 vsb7 hnb lH8 hdb hdext
     refine hK _ _ ?_
     clear hK K
     (try refine @unH _ (zQ ?_))
     generalize hF : fitC (s.noses.take q) c = fq at *
     cases fq with
     | false =>
      refine Axn (fun HX => HX nb = some (true, .cells #[.int .i64 n.pl, .int .i64 n.hr, .bool n.sm] 46 (0, 0)) /\ HX cb = some (cp, .cells ccl 3 cfr)) [] (.free 0 (.free 1 (.free 2 (.free 3 (.free 4 (.free 5 (.free 6 (.free 7 (.free 8 (.free 9 (.free 10 (.free 11 (.free 12 (.free 13 (.free 14 .nil))))))))))))))) (by kernel_rfl) (by kernel_rfl) (by decide) (by kernel_rfl) ?_; intro K hK
      refine Ax5 fun ops hOz => ?_
      (iterate 2 (refine @unH _ ?_; refine zF y9_163 ?_))
      (iterate 11 (refine planZ_skip (w := .bool false) hOz rfl rfl rfl ?_ rfl ?_; (focus (simp -implicitDefEqProofs (disch := omega) only [act_get?, Axh, Aq3, Aqm, Nat.reduceEqDiff, ↓reduceIte, beq_self_eq_true, Bool.and_self]; done)); simp -implicitDefEqProofs (disch := first | omega | (simp only [qd] <;> omega)) only [Aq3, Aqm]))
      (iterate 2 (refine @unH _ ?_; refine zF y9_163 ?_))
      (refine Aja (hK _ _ ?_); clear hK K; (try simp only [nq, ↓reduceIte, Nat.reduceEqDiff]))
      have hst' : fitC (s.noses.take (q + 1)) c = false := hst
      (refine @unH _ (zA y9_163 ?_); (try clear hK K); intro K hK hc)
      exact ⟨s.noses.length - (q + 1), by omega, _, q + 1, rfl, by omega, rfl, e1, e3, e4, e5, e6, e7, e8, by rw [hst']; rfl, rfl, l68⟩
     | true =>
      refine Axn (fun HX => HX nb = some (true, .cells #[.int .i64 n.pl, .int .i64 n.hr, .bool n.sm] 46 (0, 0)) /\ HX cb = some (cp, .cells ccl 3 cfr)) [] (.free 0 (.free 1 (.free 2 (.take 3 (.free 4 (.free 5 (.take 6 (.free 7 (.take 8 (.free 9 (.take 10 (.free 11 (.free 12 (.free 13 (.free 14 .nil))))))))))))))) (by kernel_rfl) (by kernel_rfl) (by decide) (by kernel_rfl) ?_; intro K hK
      refine Ax5 fun ops hOz => ?_
      have hSS := And.intro vnb hcb8
      (iterate 2 (refine @unH _ ?_; refine zF y9_163 ?_))
      (refine @unH _ ?_; refine zG y9_163 ?_)
      (apply Ay1 hOz rfl rfl rfl rfl (by simp -implicitDefEqProofs (disch := omega) only [act_get?, Axh, Nat.reduceEqDiff, ↓reduceIte, beq_self_eq_true, Bool.and_self, *]) ‹_›; (focus (intro HX hHX; simp -implicitDefEqProofs (disch := first | omega | (simp only [qd] <;> omega)) only [xq, ↓xp, qc, Nat.reduceAdd, List.range, List.range.loop, fine, Nat.reduceEqDiff, ↓reduceIte, yielded, reduceCtorEq, Nat.reduceLT, Nat.reduceMul, Nat.reduceSub, one, Nat.reduceLeDiff, Aqg, y9_163, aq, ↓ap, qe0, qe1, qe2, *, -hK, Axa, exists_eq_left'] <;> (first | exact rfl | exact ⟨rfl, rfl⟩ | exact ⟨rfl, trivial⟩))); simp -implicitDefEqProofs (disch := first | omega | (simp only [qd] <;> omega)) only [Aq3, Aqm])
      (refine @unH _ ?_; refine zG y9_163 ?_)
      (refine @unH _ ?_; refine zG y9_163 ?_)
      (apply Ay1 hOz rfl rfl rfl rfl (by simp -implicitDefEqProofs (disch := omega) only [act_get?, Axh, Nat.reduceEqDiff, ↓reduceIte, beq_self_eq_true, Bool.and_self, *]) ‹_›; (focus (intro HX hHX; simp -implicitDefEqProofs (disch := first | omega | (simp only [qd] <;> omega)) only [xq, ↓xp, qc, Nat.reduceAdd, List.range, List.range.loop, fine, Nat.reduceEqDiff, ↓reduceIte, yielded, reduceCtorEq, Nat.reduceLT, Nat.reduceMul, Nat.reduceSub, one, Nat.reduceLeDiff, Aqg, y9_163, aq, ↓ap, qe0, qe1, qe2, *, -hK, Axa, exists_eq_left'] <;> (first | exact rfl | exact ⟨rfl, rfl⟩ | exact ⟨rfl, trivial⟩))); simp -implicitDefEqProofs (disch := first | omega | (simp only [qd] <;> omega)) only [Aq3, Aqm])
      (refine @unH _ ?_; refine zG y9_163 ?_)
      (apply Ay1 hOz rfl rfl rfl rfl (by simp -implicitDefEqProofs (disch := omega) only [act_get?, Axh, Nat.reduceEqDiff, ↓reduceIte, beq_self_eq_true, Bool.and_self, *]) ‹_›; (focus (intro HX hHX; simp -implicitDefEqProofs (disch := first | omega | (simp only [qd] <;> omega)) only [xq, ↓xp, qc, Nat.reduceAdd, List.range, List.range.loop, fine, Nat.reduceEqDiff, ↓reduceIte, yielded, reduceCtorEq, Nat.reduceLT, Nat.reduceMul, Nat.reduceSub, one, Nat.reduceLeDiff, Aqg, y9_163, aq, ↓ap, qe0, qe1, qe2, *, -hK, Axa, exists_eq_left'] <;> (first | exact rfl | exact ⟨rfl, rfl⟩ | exact ⟨rfl, trivial⟩))); simp -implicitDefEqProofs (disch := first | omega | (simp only [qd] <;> omega)) only [Aq3, Aqm])
      (refine @unH _ ?_; refine zG y9_163 ?_)
      (apply Ay1 hOz rfl rfl rfl rfl (by simp -implicitDefEqProofs (disch := omega) only [act_get?, Axh, Nat.reduceEqDiff, ↓reduceIte, beq_self_eq_true, Bool.and_self, *]) ‹_›; (focus (intro HX hHX; simp -implicitDefEqProofs (disch := first | omega | (simp only [qd] <;> omega)) only [xq, ↓xp, qc, Nat.reduceAdd, List.range, List.range.loop, fine, Nat.reduceEqDiff, ↓reduceIte, yielded, reduceCtorEq, Nat.reduceLT, Nat.reduceMul, Nat.reduceSub, one, Nat.reduceLeDiff, Aqg, y9_163, aq, ↓ap, qe0, qe1, qe2, *, -hK, Axa, exists_eq_left'] <;> (first | exact rfl | exact ⟨rfl, rfl⟩ | exact ⟨rfl, trivial⟩))); simp -implicitDefEqProofs (disch := first | omega | (simp only [qd] <;> omega)) only [Aq3, Aqm])
      (refine @unH _ ?_; refine zG y9_163 ?_)
      (refine @unH _ ?_; refine zG y9_163 ?_)
      (iterate 2 (refine @unH _ ?_; refine zF y9_163 ?_))
      (refine Aja (hK _ _ ?_); clear hK K; (try simp only [nq, ↓reduceIte, Nat.reduceEqDiff]))
      have hst' : fitC (s.noses.take (q + 1)) c = (n.sm == decide (gI c n.pl <= n.hr)) := hst
      clear hSS
      (refine @unH _ (zA y9_163 ?_); (try clear hK K); intro K hK hc)
      exact ⟨s.noses.length - (q + 1), by omega, _, q + 1, rfl, by omega, rfl, e1, e3, e4, e5, e6, e7, e8, by rw [hst']; rfl, rfl, l68⟩
    ·have hlq' : ¬ (q : Int) < s.noses.length := by omega
     obtain rfl : q = s.noses.length := by omega
     rw [List.take_length] at e9
     have hst' : evP s i b ((Axw s.doors).take (k + 1)) = if fitC s.noses c then evP s i b ((Axw s.doors).take k) ++ [(i, b, ts, c)] else evP s i b ((Axw s.doors).take k) := by
      exact (show evP s i b ((Axw s.doors).take (k + 1)) = _ from hstep)
     have l27 := Hp.le_trans l26 l67
     generalize hF : fitC s.noses c = fq at *
     cases fq with
     | false =>
      have s7 : Aqk (EvR H7 rows (evA s i ++ evB s i b ++ evP s i b ((Axw s.doors).take (k + 1)))) := by
       rw [hst', if_neg (by simp)]
       exact (show EvR H6 rows _ from s6).mono fun _ _ h => h.le l67
      have r7 : Aqk (RowG 41 4 H7 v rows) := (show RowG _ _ H6 v rows from r6).le l67
      clear hst'
      (refine @unH _ (zA y9_163 ?_); (try clear hK K); intro K hK hc)
      exact ⟨(Axw s.doors).length - (k + 1), by omega, _, v, rows, k + 1, rfl, by omega, rfl, e1, e3, e4, e5, e6, rfl, l27, r7, s7, n5⟩
     | true =>
      have vqb7 := l27 _ _ vqb2
      obtain ⟨va, vc, hvf⟩ := RowG.form (show RowG _ _ H6 v rows from r6)
      have hone : one v = true := by rw [hvf]; rfl
      replace hvf : Aqk _ := hvf
      have r7 : Aqk (RowG 41 4 H7 v rows) := (show RowG _ _ H6 v rows from r6).le l67
      (refine @unH _ (zA y9_163 ?_); (try clear hK K); intro K hK hc)
      intro g hg
      have hbn : rows.length <= 1000000 := by
       have h1 := (show EvR H6 rows _ from s6).1
       have h2 := evA_len s hT1 i
       have h3 := evB_len s i hT1 b
       have h4 := evP_len s i b ((Axw s.doors).take k)
       rw [List.length_append, List.length_append] at h1
       rw [List.length_take] at h4
       omega
      refine Ayp underlying31 sizeOf41 zeroValue41 rfl typeInfo41 (by decide) (by decide) (show RowG _ _ H7 v rows from r7) (ws := [.int .i64 (i : Nat), .int .i64 (b : Nat), .slice lwa lwn lwc, .slice ca c.length cc]) rfl hg (fun w hw => by simp only [List.mem_cons, List.not_mem_nil, or_false] at hw; rcases hw with rfl | rfl | rfl | rfl <;> rfl) hbn _ _ _ _ (fun v9 H9 r9 k9 n9 => ?_)
      have s9 : Aqk (EvR H9 (rows ++ [[.int .i64 (i : Nat), .int .i64 (b : Nat), .slice lwa lwn lwc, .slice ca c.length cc]]) (evA s i ++ evB s i b ++ evP s i b ((Axw s.doors).take (k + 1)))) := by
       rw [hst', if_pos rfl, <- List.append_assoc]
       exact ((show EvR H6 rows _ from s6).mono fun _ _ h => SlI.otR (show RowG _ _ H7 v rows from r7) (h.le l67) (by decide) k9).snoc (e := (i, b, ts, c)) (SlI.otR (show RowG _ _ H7 v rows from r7) ((show SlI H2 _ ts from hsl).le l27) (by decide) k9) (SlI.otR (show RowG _ _ H7 v rows from r7) ((show SlI H6 _ c from hcv).le l67) (by decide) k9)
      have l29 : H2.le H9 := fun y u h => k9 y u (l27 _ _ h) fun h2 => by rw [(show ∀ y, _ from n5) y h2] at h; cases h
      have n9' : Aqk (∀ y, rowB v9 = some y -> H2 y = none) := fun y h => (n9 y h).elim (fun h => (show ∀ y, _ from n5) y h) fun h => Hp.le_none l27 h
      obtain ⟨_, _, hf9⟩ := r9.form
      have hone9 : one v9 = true := by rw [hf9]; rfl
      replace hf9 : Aqk _ := hf9
      replace r9 : Aqk _ := r9
      clear k9 n9 hg hst' r7 s6 r6 vqb7 l67 l27 vsb7
      (refine @unH _ (zU y9_163 ?_); (try clear hK K); intro K hK hc)
      exact ⟨(Axw s.doors).length - (k + 1), by omega, _, v9, _, k + 1, rfl, by omega, rfl, e1, rfl, e4, e5, e6, rfl, l29, r9, s9, n9'⟩
   ·have hlk' : ¬ (k : Int) < (Axw s.doors).length := by omega
    obtain rfl : k = (Axw s.doors).length := by omega
    have s5' : Aqk (EvR H5 rows (evA s i ++ evB s i (b + 1))) := by
     rw [List.take_length] at s5
     rw [evB_succ, <- List.append_assoc]
     exact s5
    (refine @unH _ (zA y9_163 ?_); (try clear hK K); intro K hK hc)
    exact ⟨13 - (b + 1), by omega, _, _, rows, b + 1, rfl, by omega, rfl, e1, e3, e4, e5, rfl, l25, r5, s5', n5⟩
  ·have hlb' : ¬ (b : Int) <= 12 := by omega
   obtain rfl : b = 13 := by omega
   have s4' : Aqk (EvR H4 rows (evA s (i + 1))) := by
    rw [evA_succ]
    exact s4
   (refine @unH _ (zA y9_163 ?_); (try clear hK K); intro K hK hc)
   exact ⟨s.hampers.length - (i + 1), by omega, _, _, rows, i + 1, rfl, by omega, rfl, e1, e3, e4, rfl, l24, r4, s4', n4⟩
 ·have hli' : ¬ (i : Int) < s.hampers.length := by omega
  obtain rfl : i = s.hampers.length := by omega
  obtain ⟨va, vc, rfl⟩ := RowG.form (show RowG _ _ H3 v rows from r3)
  have l03 := Hp.le_trans l02 l23
  (refine @unH _ (zA y9_163 ?_); (try clear hK K); intro K hK hc)
  (refine @unH _ ?_; refine z9 results9 ?_)
  exact ⟨_, rows, rfl, r3, s3, l03⟩
end Go.Proofs.YtnfnaehonkbknaaGreatDoor
end
section
namespace Go.Proofs.YtnfnaehonkbknaaGreatDoor
open Go Go.X
theorem ev_tr {s : Sm} {x : EvT} : x ∈ evF s ↔ Tr s x.1 x.2.1 x.2.2.1 /\ x.2.2.2 = Awf s (s.hampers.getD x.1 0) x.2.1 x.2.2.1 := by
 rw [evF_mem]
 constructor
 ·rintro ⟨h1, h2, h3, h4, h5⟩
  refine ⟨⟨h1, h2, h3, fun n hn => ?_⟩, h4⟩
  have := List.all_eq_true.1 h5 n hn
  rw [h4] at this
  exact eq_of_beq this
 ·rintro ⟨h, h4⟩
  refine ⟨h.i, h.b, h.t, h4, ?_⟩
  unfold fitC
  rw [List.all_eq_true, h4]
  intro n hn
  rw [h.n n hn]
  exact beq_self_eq_true _
theorem Tr.ev {s : Sm} {i b : Nat} {ts : List Int} (h : Tr s i b ts) : (i, b, ts, Awf s (s.hampers.getD i 0) b ts) ∈ evF s := ev_tr.2 ⟨h, rfl⟩
def evLe (x y : EvT) : Prop := x.1 < y.1 ∨ (x.1 = y.1 /\ x.2.1 <= y.2.1)
theorem evP_key {s : Sm} {i b : Nat} {L : List (List Int)} {x : EvT} (h : x ∈ evP s i b L) : x.1 = i /\ x.2.1 = b := by
 unfold evP at h
 obtain ⟨ts, -, h⟩ := List.mem_filterMap.1 h
 split at h
 ·cases h; exact ⟨rfl, rfl⟩
 ·cases h
theorem evB_key {s : Sm} {i n : Nat} {x : EvT} (h : x ∈ evB s i n) : x.1 = i := by
 unfold evB at h
 obtain ⟨b, -, h⟩ := List.mem_flatMap.1 h
 exact (evP_key h).1
theorem evF_pw (s : Sm) : (evF s).Pairwise evLe := by
 unfold evF evA
 rw [List.pairwise_flatMap]
 refine ⟨fun i _ => ?_, List.pairwise_lt_range.imp fun h x hx y hy => .inl (by rw [evB_key hx, evB_key hy]; exact h)⟩
 unfold evB
 rw [List.pairwise_flatMap]
 refine ⟨fun b _ => ?_, List.pairwise_lt_range.imp fun h x hx y hy => .inr (by rw [(evP_key hx).1, (evP_key hy).1, (evP_key hx).2, (evP_key hy).2]; exact ⟨rfl, Nat.le_of_lt h⟩)⟩
 rw [List.pairwise_iff_getElem]
 intro j k hj hk _
 have h1 := evP_key (List.getElem_mem hj)
 have h2 := evP_key (List.getElem_mem hk)
 exact .inr ⟨by rw [h1.1, h2.1], by rw [h1.2, h2.2]; exact Nat.le_refl _⟩
def evK (l : List EvT) (k : Nat) : Nat × Nat := ((l.getD k (0, 0, [], [])).1, (l.getD k (0, 0, [], [])).2.1)
theorem evK_get {l : List EvT} {k : Nat} {x : EvT} (h : l[k]? = some x) : evK l k = (x.1, x.2.1) := by
 unfold evK
 rw [List.getD_eq_getElem?_getD, h]
 rfl
def prN (l : List EvT) : Nat -> Nat
 | 0 => 0
 | k + 1 => if 0 < k /\ evK l k = evK l (k - 1) then prN l k else prN l k + 1
theorem prN_le (l : List EvT) : ∀ k, prN l k <= k
 | 0 => Nat.le_refl _
 | k + 1 => by
  have := prN_le l k
  unfold prN
  split <;> omega
theorem evK_le {l : List EvT} (h : l.Pairwise evLe) {j k : Nat} (hj : j <= k) (hk : k < l.length) : (evK l j).1 < (evK l k).1 ∨ ((evK l j).1 = (evK l k).1 /\ (evK l j).2 <= (evK l k).2) := by
 by_cases e : j = k
 ·subst e
  exact .inr ⟨rfl, Nat.le_refl _⟩
 ·have hj' : j < l.length := by omega
  have := List.pairwise_iff_getElem.1 h j k hj' hk (by omega)
  rw [evK_get (List.getElem?_eq_getElem hk), evK_get (List.getElem?_eq_getElem hj')]
  exact this
theorem pr_ex {l : List EvT} (h : l.Pairwise evLe) : ∀ k, k <= l.length -> ∃ D : List (Int × Int), D.length = prN l k /\ D.Nodup /\ ∀ a, a ∈ D ↔ ∃ j, j < k /\ a = (((evK l j).1 : Int), ((evK l j).2 : Int))
 | 0, _ => ⟨[], rfl, List.nodup_nil, by simp⟩
 | k + 1, hk => by
  obtain ⟨D, d1, d2, d3⟩ := pr_ex h k (by omega)
  unfold prN
  split
  ·rename_i hc
   refine ⟨D, d1, d2, fun a => ?_⟩
   rw [d3]
   constructor
   ·rintro ⟨j, hj, e⟩
    exact ⟨j, by omega, e⟩
   ·rintro ⟨j, hj, e⟩
    by_cases hjk : j < k
    ·exact ⟨j, hjk, e⟩
    ·obtain rfl : j = k := by omega
     exact ⟨j - 1, by omega, by rw [e, hc.2]⟩
  ·rename_i hc
   refine ⟨D ++ [(((evK l k).1 : Int), ((evK l k).2 : Int))], by simp [d1], ?_, fun a => ?_⟩
   ·rw [List.nodup_append]
    refine ⟨d2, by simp, fun a ha b hb e => ?_⟩
    rw [List.mem_singleton] at hb
    obtain ⟨j, hj, e'⟩ := (d3 a).1 ha
    rw [e', hb, Prod.mk.injEq] at e
    have a1 := evK_le h (j := j) (k := k - 1) (by omega) (by omega)
    have a2 := evK_le h (j := k - 1) (k := k) (by omega) (by omega)
    exact hc ⟨by omega, Prod.ext (by omega) (by omega)⟩
   ·rw [List.mem_append, List.mem_singleton, d3]
    constructor
    ·rintro (⟨j, hj, e⟩ | e)
     ·exact ⟨j, by omega, e⟩
     ·exact ⟨k, by omega, e⟩
    ·rintro ⟨j, hj, e⟩
     by_cases hjk : j < k
     ·exact .inl ⟨j, hjk, e⟩
     ·obtain rfl : j = k := by omega
      exact .inr e
theorem pr_all {s : Sm} (ok : SmOk s) : prN (evF s) (evF s).length = Azi s := by
 obtain ⟨D, d1, d2, d3⟩ := pr_ex (evF_pw s) _ (Nat.le_refl _)
 rw [<- d1, <- suP_len]
 refine Nat.le_antisymm (Ck1 d2 fun x hx => ?_) (Ck1 (suP_nodup s) fun x hx => ?_)
 ·obtain ⟨j, hj, rfl⟩ := (d3 _).1 hx
  have hg := List.getElem?_eq_getElem hj
  have ht := (ev_tr.1 (List.mem_of_getElem? hg)).1
  rw [evK_get hg]
  exact (suP_mem ok).2 ⟨by omega, by omega, _, by simpa using ht⟩
 ·obtain ⟨i, b⟩ := x
  obtain ⟨h0, h1, ts, ht⟩ := (suP_mem ok).1 hx
  obtain ⟨j, hj⟩ := List.getElem?_of_mem ht.ev
  obtain ⟨hj', -⟩ := List.getElem?_eq_some_iff.1 hj
  refine (d3 _).2 ⟨j, hj', ?_⟩
  rw [evK_get hj, Prod.mk.injEq]
  exact ⟨by simp only; omega, by simp only; omega⟩
theorem filter_range {α : Type} (f : Nat -> List α) (p : α -> Bool) (i : Nat) (h : ∀ j x, j ≠ i -> x ∈ f j -> p x = false) : ∀ n, i < n -> ((List.range n).flatMap f).filter p = (f i).filter p := by
 have z : ∀ n, n <= i -> ((List.range n).flatMap f).filter p = [] := fun n hn => by
  rw [List.filter_eq_nil_iff]
  intro x hx
  obtain ⟨j, hj, hx⟩ := List.mem_flatMap.1 hx
  have := List.mem_range.1 hj
  rw [h j x (by omega) hx]
  decide
 intro n hn
 induction n with
 | zero => omega
 | succ n ih =>
  rw [List.range_succ, List.flatMap_append, List.filter_append, List.flatMap_cons, List.flatMap_nil, List.append_nil]
  by_cases e : i = n
  ·subst e
   rw [z _ (Nat.le_refl _), List.nil_append]
  ·have zn : (f n).filter p = [] := List.filter_eq_nil_iff.2 fun x hx => by rw [h n x (by omega) hx]; decide
   rw [ih (by omega), zn, List.append_nil]
theorem evF_filter (s : Sm) {i b : Nat} (hi : i < s.hampers.length) (hb : b < 13) : (evF s).filter (fun x => decide (x.1 = i /\ x.2.1 = b)) = evP s i b (Axw s.doors) := by
 unfold evF evA
 rw [filter_range (fun i => evB s i 13) _ i (fun j x hj hx => by rw [decide_eq_false_iff_not, evB_key hx]; omega) _ hi]
 unfold evB
 rw [filter_range (fun b => evP s i b (Axw s.doors)) _ b (fun j x hj hx => by rw [decide_eq_false_iff_not, (evP_key hx).2]; omega) _ hb]
 rw [List.filter_eq_self]
 intro x hx
 exact decide_eq_true (evP_key hx)
theorem evP_head (s : Sm) (i b : Nat) : ∀ L : List (List Int), (evP s i b L).head?.map (fun x => x.2.2.1) = (L.filter fun ts => fitC s.noses (Awf s (s.hampers.getD i 0) b ts)).head?
 | [] => rfl
 | ts :: L => by
  have ih := evP_head s i b L
  unfold evP at ih ⊢
  by_cases h : fitC s.noses (Awf s (s.hampers.getD i 0) b ts) = true
  ·rw [List.filterMap_cons_some (b := (i, b, ts, Awf s (s.hampers.getD i 0) b ts)) (by rw [if_pos h]), List.filter_cons_of_pos (p := fun ts => fitC s.noses (Awf s (s.hampers.getD i 0) b ts)) h]
   rfl
  ·rw [List.filterMap_cons_none (by rw [if_neg h]), List.filter_cons_of_neg (p := fun ts => fitC s.noses (Awf s (s.hampers.getD i 0) b ts)) h]
   exact ih
theorem hint_first (pl b : Int) : ∀ (L : List (List Int × List Int)) (x : Hint), (L.foldl (Azd pl b) x).first = if x.some then x.first else (L.head?.map fun tc => tc.1).getD x.first
 | [], x => by simp
 | tc :: L, x => by
  rw [List.foldl_cons, hint_first pl b L]
  simp only [Azd, if_true, List.head?_cons, Option.map_some, Option.getD_some]
theorem fit_same {s : Sm} (ok : SmOk s) {i b : Nat} (hi : i < s.hampers.length) (hb : b < 13) {ts : List Int} (ht : ts ∈ Axw s.doors) : fitB s.noses (Aq4 s.doors (s.hampers.getD i 0) (pad6 ts)) (b : Int) = fitC s.noses (Awf s (s.hampers.getD i 0) b ts) := by
 rw [Bool.eq_iff_iff]
 constructor
 ·intro h
  have hm : (i, b, pad6 ts, Aq4 s.doors (s.hampers.getD i 0) (pad6 ts)) ∈ allT s := (Ajl s i b _ _).2 ⟨hi, hb, List.mem_filter.2 ⟨List.mem_map.2 ⟨ts, ht, rfl⟩, h⟩⟩
  obtain ⟨ts', h1, h2, -⟩ := Bqz ok hm
  obtain rfl : ts = ts' := (List.append_inj h2 (by rw [Akq ht, Akq h1.t])).1
  exact (evF_mem.1 h1.ev).2.2.2.2
 ·intro h
  have hm := ((ev_tr.1 (evF_mem.2 ⟨hi, hb, ht, rfl, h⟩ : (i, b, ts, _) ∈ evF s)).1).mem ok
  exact (List.mem_filter.1 ((Ajl s i b _ _).1 hm).2.2).2
theorem first_ev {s : Sm} (ok : SmOk s) {x : EvT} {L : List EvT} (h : evF s = x :: L) : fstE s = ((x.1 : Int), (x.2.1 : Int), x.2.2.1, 0) := by
 have hx : x ∈ evF s := by rw [h]; exact List.mem_cons_self
 have htx := (ev_tr.1 hx).1
 obtain ⟨a, hr, l, hf, hle, ts', ht'⟩ := first_some ok htx
 have h2 : (a, hr, ts', Awf s (s.hampers.getD a 0) hr ts') ∈ x :: L := h ▸ ht'.ev
 have hpw := evF_pw s
 rw [h] at hpw
 have hk : a = x.1 /\ hr = x.2.1 := by
  rcases List.mem_cons.1 h2 with e | e
  ·rw [<- e]
   exact ⟨rfl, rfl⟩
  ·rcases (List.pairwise_cons.1 hpw).1 _ e with h3 | ⟨h3, h4⟩
   ·simp only at h3
    omega
   ·simp only at h3 h4
    omega
 unfold fstE at hf ⊢
 cases hs : susp s with
 | nil => rw [hs] at hf; simp at hf
 | cons y M =>
  rw [hs] at hf
  obtain ⟨i0, b0, hi0, hb0, hne, rfl⟩ := (Ajb s y).1 (by rw [hs]; exact List.mem_cons_self)
  simp only [Prod.mk.injEq, and_true] at hf ⊢
  obtain ⟨e1, e2, -⟩ := hf
  obtain rfl : i0 = x.1 := by omega
  obtain rfl : b0 = x.2.1 := by omega
  refine ⟨rfl, rfl, ?_⟩
  have hd := congrArg List.head? (evF_filter s hi0 hb0)
  rw [h, List.filter_cons_of_pos (by simp), List.head?_cons] at hd
  have hp := evP_head s x.1 x.2.1 (Axw s.doors)
  rw [<- hd, Option.map_some] at hp
  have hq : (Axw s.doors).filter (fun ts => fitB s.noses (Aq4 s.doors (s.hampers.getD x.1 0) (pad6 ts)) (x.2.1 : Int)) = (Axw s.doors).filter (fun ts => fitC s.noses (Awf s (s.hampers.getD x.1 0) x.2.1 ts)) := List.filter_congr fun ts ht => fit_same ok hi0 hb0 ht
  unfold Ayh trL
  rw [hint_first, List.filter_map]
  rw [show ((fun tc : List Int × List Int => fitB s.noses tc.2 (x.2.1 : Int)) ∘ fun t => (pad6 t, Aq4 s.doors (s.hampers.getD x.1 0) (pad6 t))) = fun ts => fitB s.noses (Aq4 s.doors (s.hampers.getD x.1 0) (pad6 ts)) (x.2.1 : Int) from rfl, hq, List.head?_map, <- hp]
  simp only [Bye, Option.map_some, Option.getD_some, Bool.false_eq_true, if_false]
  unfold pad6
  exact List.take_left' (Akq htx.t)
def widF (b : Int × Int) (n : Int) : Int × Int := if b.2 < b.1 then (n, n) else (min b.1 n, max b.2 n)
def WidOf (P : Int -> Prop) (b : Int × Int) : Prop := (b = (1, 0) /\ ∀ x, ¬ P x) ∨ (b.1 <= b.2 /\ P b.1 /\ P b.2 /\ ∀ x, P x -> b.1 <= x /\ x <= b.2)
theorem WidOf.nil {P : Int -> Prop} (h : ∀ x, ¬ P x) : WidOf P (1, 0) := .inl ⟨rfl, h⟩
theorem WidOf.same {P Q : Int -> Prop} {b : Int × Int} (h : WidOf P b) (hQ : ∀ x, Q x ↔ P x) : WidOf Q b := by
 obtain rfl : Q = P := funext fun x => propext (hQ x)
 exact h
theorem WidOf.add {P Q : Int -> Prop} {b : Int × Int} {n : Int} (h : WidOf P b) (hQ : ∀ x, Q x ↔ P x ∨ x = n) : WidOf Q (widF b n) := by
 obtain ⟨b1, b2⟩ := b
 unfold widF
 rcases h with ⟨h, hn⟩ | ⟨hle, hl, hh, hall⟩
 ·cases h
  rw [if_pos (by decide)]
  refine .inr ⟨Int.le_refl _, (hQ _).2 (.inr rfl), (hQ _).2 (.inr rfl), fun x hx => ?_⟩
  rcases (hQ x).1 hx with h | rfl
  ·exact absurd h (hn x)
  ·exact ⟨Int.le_refl _, Int.le_refl _⟩
 ·simp only at hle hl hh hall
  rw [if_neg (by simp only; omega)]
  refine .inr ⟨by simp only; omega, ?_, ?_, fun x hx => ?_⟩
  ·simp only
   rcases Int.le_total b1 n with h | h
   ·rw [Int.min_eq_left h]; exact (hQ _).2 (.inl hl)
   ·rw [Int.min_eq_right h]; exact (hQ _).2 (.inr rfl)
  ·simp only
   rcases Int.le_total b2 n with h | h
   ·rw [Int.max_eq_right h]; exact (hQ _).2 (.inr rfl)
   ·rw [Int.max_eq_left h]; exact (hQ _).2 (.inl hh)
  ·simp only
   rcases (hQ x).1 hx with h | rfl
   ·have := hall x h; omega
   ·omega
theorem since_wid {s : Sm} (ok : SmOk s) {i : Nat} (hi : i < s.hampers.length) {b : Int × Int} (h : WidOf (fun x => ∃ y ∈ evF s, y.1 = i /\ x = (y.2.1 : Int)) b) : (b = (1, 0) /\ sinE s i = (0, 0, 11) /\ ¬ ∃ b ts, Tr s i b ts) ∨ (b.1 <= b.2 /\ sinE s i = (b.1, b.2, 0) /\ ∃ b ts, Tr s i b ts) := by
 rcases h with ⟨rfl, h⟩ | ⟨hle, ⟨y, hy, e1, e2⟩, ⟨z, hz, e3, e4⟩, hall⟩
 ·have hn : ¬ ∃ b ts, Tr s i b ts := fun ⟨b, ts, ht⟩ => h b ⟨_, ht.ev, rfl, rfl⟩
  exact .inl ⟨rfl, since_none ok hi hn, hn⟩
 ·have hy' := (ev_tr.1 hy).1
  have hz' := (ev_tr.1 hz).1
  rw [e1] at hy'
  rw [e3] at hz'
  obtain ⟨lo, hi', hs, h1, ⟨t1, h2⟩, t2, h3⟩ := since_some ok ⟨_, _, hy'⟩
  have b1 := h1 _ _ hy'
  have b2 := h1 _ _ hz'
  have b3 := hall lo ⟨_, h2.ev, rfl, rfl⟩
  have b4 := hall hi' ⟨_, h3.ev, rfl, rfl⟩
  refine .inr ⟨hle, ?_, _, _, hy'⟩
  rw [hs, Prod.mk.injEq, Prod.mk.injEq]
  exact ⟨by omega, by omega, rfl⟩
theorem comes_wid {s : Sm} (ok : SmOk s) {p : Int} (h0 : 0 <= p) (h1 : p < s.places) {i₀ b₀ : Nat} {t₀ : List Int} (ht₀ : Tr s i₀ b₀ t₀) {b : Int × Int} (h : WidOf (fun x => ∃ y ∈ evF s, gI y.2.2.2 p < 1000 /\ x = gI y.2.2.2 p) b) : (b = (1, 0) /\ comE s p = (0, 0, 11)) ∨ (b.1 <= b.2 /\ comE s p = (b.1, b.2, 0)) := by
 have come : ∀ y ∈ evF s, gI y.2.2.2 p = Avi s y.1 y.2.1 y.2.2.1 p := fun y hy => by rw [(ev_tr.1 hy).2]; rfl
 rcases h with ⟨rfl, h⟩ | ⟨hle, ⟨y, hy, e1, e2⟩, ⟨z, hz, e3, e4⟩, hall⟩
 ·exact .inl ⟨rfl, come_none ok h0 h1 ht₀ fun ⟨i, b, ts, ht, hc⟩ => h _ ⟨_, ht.ev, hc, rfl⟩⟩
 ·rw [come y hy] at e1 e2
  rw [come z hz] at e3 e4
  obtain ⟨lo, hi, hc, l0, l1, hb, ⟨i1, b1, t1, g1, g2⟩, i2, b2, t2, g3, g4⟩ := come_some ok h0 h1 ⟨_, _, _, (ev_tr.1 hy).1, e1⟩
  have q1 := hb _ _ _ (ev_tr.1 hy).1 e1
  have q2 := hb _ _ _ (ev_tr.1 hz).1 e3
  have q3 := hall lo ⟨_, g1.ev, (show Avi s i1 b1 t1 p < 1000 by omega), g2.symm⟩
  have q4 := hall hi ⟨_, g3.ev, (show Avi s i2 b2 t2 p < 1000 by omega), g4.symm⟩
  refine .inr ⟨hle, ?_⟩
  rw [hc, Prod.mk.injEq, Prod.mk.injEq]
  exact ⟨by omega, by omega, rfl⟩
def dueF (n len : Nat) : Int := if n = 0 then 2 else if n = len then 1 else 3
def someN (s : Sm) (p a : Int) (k : Nat) : Nat := (((evF s).take k).filter fun y => decide (gI y.2.2.2 p <= a)).length
theorem someN_le (s : Sm) (p a : Int) (k : Nat) : someN s p a k <= k := by
 have h1 := List.length_filter_le (fun y : EvT => decide (gI y.2.2.2 p <= a)) ((evF s).take k)
 rw [List.length_take] at h1
 unfold someN
 omega
theorem someN_succ {s : Sm} {p a : Int} {k : Nat} {y : EvT} (h : (evF s)[k]? = some y) : someN s p a (k + 1) = if gI y.2.2.2 p <= a then someN s p a k + 1 else someN s p a k := by
 unfold someN
 rw [List.take_add_one, h, Option.toList_some, List.filter_append, List.length_append]
 split <;> rename_i hc
 ·rw [List.filter_cons_of_pos (by simpa using hc)]
  rfl
 ·rw [List.filter_cons_of_neg (by simpa using hc)]
  rfl
theorem verd_due {s : Sm} (ok : SmOk s) {p a : Int} (h0 : 0 <= p) (h1 : p < s.places) (ha0 : 0 <= a) (ha : a <= 12) {i₀ b₀ : Nat} {t₀ : List Int} (ht₀ : Tr s i₀ b₀ t₀) : Cy0 s p a = dueF (someN s p a (evF s).length) (evF s).length /\ (Av1 (arrL (susp s) p) a = 1 ↔ someN s p a (evF s).length = (evF s).length) := by
 have come : ∀ y ∈ evF s, gI y.2.2.2 p = Avi s y.1 y.2.1 y.2.2.1 p := fun y hy => by rw [(ev_tr.1 hy).2]; rfl
 have hne : ∃ i b ts, Tr s i b ts := ⟨_, _, _, ht₀⟩
 have hl : (evF s).length ≠ 0 := fun e => by
  have := ht₀.ev
  rw [List.length_eq_zero_iff.1 e] at this
  cases this
 have a1 : Av1 (arrL (susp s) p) a = 1 ↔ someN s p a (evF s).length = (evF s).length := by
  rw [verd_always ok h0 h1 hne ha]
  unfold someN
  rw [List.take_length, List.length_filter_eq_length_iff]
  constructor
  ·intro h y hy
   rw [decide_eq_true_eq, come y hy]
   exact h _ _ _ (ev_tr.1 hy).1
  ·intro h i b ts ht
   exact of_decide_eq_true (h _ ht.ev)
 have a2 : Av1 (arrL (susp s) p) a = 2 ↔ someN s p a (evF s).length = 0 := by
  rw [verd_never ok h0 h1 hne ha]
  unfold someN
  rw [List.take_length, List.length_eq_zero_iff, List.filter_eq_nil_iff]
  constructor
  ·intro h y hy
   rw [decide_eq_true_eq, come y hy]
   have := h _ _ _ (ev_tr.1 hy).1
   omega
  ·intro h i b ts ht
   have h2 := h _ ht.ev
   rw [decide_eq_true_eq] at h2
   have h3 : ¬ Avi s i b ts p <= a := h2
   omega
 refine ⟨?_, a1⟩
 unfold Cy0 dueF
 rw [if_pos (Dzr ok ht₀ h0 h1 ha0 ha)]
 split
 ·exact a2.2 (by assumption)
 ·split
  ·exact a1.2 (by assumption)
  ·rcases verd_in (arrL (susp s) p) a with h | h | h
   ·exact absurd (a1.1 h) (by assumption)
   ·exact absurd (a2.1 h) (by assumption)
   ·exact h
theorem asc_same : ∀ {l l' : List Int}, l.Pairwise (· < ·) -> l'.Pairwise (· < ·) -> (∀ x, x ∈ l ↔ x ∈ l') -> l = l'
 | [], [], _, _, _ => rfl
 | [], y :: l', _, _, h => by have := (h y).2 List.mem_cons_self; cases this
 | x :: l, [], _, _, h => by have := (h x).1 List.mem_cons_self; cases this
 | x :: l, y :: l', h1, h2, h => by
  rw [List.pairwise_cons] at h1 h2
  have hxy : x = y := by
   rcases List.mem_cons.1 ((h x).1 List.mem_cons_self) with e | e
   ·exact e
   ·have := h2.1 _ e
    rcases List.mem_cons.1 ((h y).2 List.mem_cons_self) with e' | e'
    ·exact e'.symm
    ·have := h1.1 _ e'
     omega
  subst hxy
  rw [asc_same h1.2 h2.2 fun z => ?_]
  have hz := h z
  rw [List.mem_cons, List.mem_cons] at hz
  constructor
  ·intro hm
   rcases hz.1 (.inr hm) with e | e
   ·have := h1.1 _ hm
    omega
   ·exact e
  ·intro hm
   rcases hz.2 (.inr hm) with e | e
   ·have := h2.1 _ hm
    omega
   ·exact e
theorem oList_asc (m : Nat) : (Bq8 m).Pairwise (· < ·) := by
 unfold Bq8 Awk
 rw [List.pairwise_map]
 exact (List.Pairwise.filter _ List.pairwise_lt_range).imp fun h => by omega
def AscOf (P : Nat -> Prop) (k : Nat) (l : List Int) : Prop := l.Pairwise (· < ·) /\ ∀ x : Int, x ∈ l ↔ 0 <= x /\ x < k /\ P x.toNat
theorem AscOf.nil (P : Nat -> Prop) : AscOf P 0 [] := ⟨List.Pairwise.nil, fun x => ⟨fun h => (by cases h), fun h => (by omega)⟩⟩
theorem AscOf.yes {P : Nat -> Prop} {k : Nat} {l : List Int} (h : AscOf P k l) (hP : P k) : AscOf P (k + 1) (l ++ [(k : Int)]) := by
 refine ⟨List.pairwise_append.2 ⟨h.1, by simp, fun x hx y hy => ?_⟩, fun x => ?_⟩
 ·rw [List.mem_singleton] at hy
  have := ((h.2 x).1 hx).2.1
  omega
 ·rw [List.mem_append, List.mem_singleton, h.2]
  constructor
  ·rintro (⟨a, b, c⟩ | rfl)
   ·exact ⟨a, by omega, c⟩
   ·exact ⟨by omega, by omega, by simpa using hP⟩
  ·rintro ⟨a, b, c⟩
   by_cases e : x = k
   ·exact .inr e
   ·exact .inl ⟨a, by omega, c⟩
theorem AscOf.no {P : Nat -> Prop} {k : Nat} {l : List Int} (h : AscOf P k l) (hP : ¬ P k) : AscOf P (k + 1) l := by
 refine ⟨h.1, fun x => ?_⟩
 rw [h.2]
 constructor
 ·rintro ⟨a, b, c⟩
  exact ⟨a, by omega, c⟩
 ·rintro ⟨a, b, c⟩
  refine ⟨a, ?_, c⟩
  by_cases e : x.toNat = k
  ·rw [e] at c
   exact absurd c hP
  ·omega
theorem AscOf.len {P : Nat -> Prop} : ∀ {k : Nat} {l : List Int}, AscOf P k l -> l.length <= k := fun {k l} h => by
 have h1 : l.Nodup := h.1.imp fun h e => by omega
 have := Ck1 (l' := (List.range k).map fun n : Nat => (n : Int)) h1 fun x hx => by
  have := (h.2 x).1 hx
  exact List.mem_map.2 ⟨x.toNat, List.mem_range.2 (by omega), by omega⟩
 simpa using this
theorem asc_suspects {s : Sm} (ok : SmOk s) {l : List Int} (h : AscOf (fun i => ∃ b ts, Tr s i b ts) s.hampers.length l) : l = Bq8 (Cka (susp s)) :=
 asc_same h.1 (oList_asc _) fun x => by
  rw [h.2, suspects_mem ok]
  exact ⟨fun ⟨a, _, c⟩ => ⟨a, c⟩, fun ⟨a, b, ts, c⟩ => ⟨a, by have := c.i; omega, b, ts, c⟩⟩
theorem asc_surely {s : Sm} (ok : SmOk s) {a : Int} {l : List Int} (h : AscOf (fun p => Av1 (arrL (susp s) (p : Nat)) a = 1) s.places.toNat l) : l = Bq8 (surM (susp s) a s.places.toNat) :=
 asc_same h.1 (oList_asc _) fun x => by
  rw [h.2, sure_mem ok]
  constructor
  ·rintro ⟨a, b, c⟩
   rw [Int.toNat_of_nonneg a] at c
   exact ⟨a, by omega, c⟩
  ·rintro ⟨a, b, c⟩
   refine ⟨a, by omega, ?_⟩
   show Av1 (arrL (susp s) ((x.toNat : Nat) : Int)) _ = 1
   rw [Int.toNat_of_nonneg a]
   exact c
end Go.Proofs.YtnfnaehonkbknaaGreatDoor
end
