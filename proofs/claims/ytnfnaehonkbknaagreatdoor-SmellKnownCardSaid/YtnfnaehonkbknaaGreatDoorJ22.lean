/- Texts SmSn SmKw PlanG SmKs SmKl. -/
import Derived.Test.YtnfnaehonkbknaaGreatDoorJ21
set_option linter.defProp false
set_option linter.unusedSimpArgs false
set_option linter.unusedVariables false
set_option maxRecDepth 100000
set_option maxHeartbeats 2000000
section
namespace Go.Proofs.YtnfnaehonkbknaaGreatDoor
open Go Go.X
def withS (s : Sm) (n : Ns) : Sm := ⟨s.places, s.doors, s.hampers, s.noses ++ [n]⟩
theorem withS_ok {s : Sm} (ok : SmOk s) {n : Ns} (hn : NsOk s.places n) (hl : s.noses.length < 4) : SmOk (withS s n) :=
 ⟨ok.p0, ok.p1, ok.dl, ok.dk, ok.h0, ok.h1, ok.hk, ok.hd, by simp [withS]; omega, fun m hm => by
  rcases List.mem_append.1 hm with h | h
  ·exact ok.nk m h
  ·simp only [List.mem_cons, List.not_mem_nil, or_false] at h
   subst h
   exact hn⟩
end Go.Proofs.YtnfnaehonkbknaaGreatDoor
end
section
namespace Go.Proofs.YtnfnaehonkbknaaGreatDoor
open Go Go.X Go.Proofs.Tryz
def y17_150 := aN @Dw1 (aN @Dvq (aN @Dwb (aN @Dwl (aN (fun H => buildSlice_agg1 (H := H) underlying24 sizeOf46 zeroValue46 rfl (by decide) (by decide)) (aN @Dva (aN @Dwj @Dwr))))))
theorem append_RowGs {P : Program} {tt e : TypeId} {sz : Nat} {z : Value} {inf : TypeInfo} (hsz : 0 < sz) (hu : P.underlying tt = some (.slice e)) (hs : ∀ w, (sizeOf e).run P w = .ok sz w) (hz : ∀ w, (zeroValue e).run P w = .ok z w) (hzc : z.cells.size = sz)
  (hi : ∀ w, (typeInfo e).run P w = .ok inf w) (hby : inf.bytes <= 1024) (hby0 : 0 < inf.bytes)
  {H : Hp} {v : Value} {rows rows2 : List (List Value)} (h : RowG e sz H v rows) {g : Option Addr} {m cap : Nat} (h2 : SlG e sz H (.slice g m cap) rows2) (hsep : rows2 ≠ [] -> ∀ x o, g = some ⟨x, o, none⟩ -> rowB v ≠ some x) (hone : ∀ r ∈ rows2, ∀ u ∈ r, one u = true) (hn : rows.length + rows2.length <= 1000000) (ty : TypeId) (cb : Array Bool) (K : Next -> Hp -> Prop) (E : Value -> Hp -> Prop)
  (h' : ∀ v' H', RowG e sz H' v' (rows ++ rows2) -> (∀ x u, H x = some u -> rowB v ≠ some x -> H' x = some u) -> (∀ x, rowB v' = some x -> rowB v = some x ∨ H x = none) -> K (.value v') H') :
  wpS P (builtin .append #[tt, tt] ty cb #[v, .slice g m cap]) H K E := by
 have hl2 := h2.len.1
 have hr2 : ∀ r ∈ rows2, (id r : List Value).length = sz := fun r hr => by
  obtain ⟨i, hi⟩ := List.getElem?_of_mem hr
  obtain ⟨_, _, _, _, _, _, _, _, h4, _⟩ := h2.get hi
  exact h4
 have hfl : (rows ++ rows2).flatMap id = rows.flatMap id ++ rows2.flatMap id := by simp
 have hro : ∀ r ∈ rows ++ rows2, r.length = sz := fun r hr => (List.mem_append.1 hr).elim (h.2 r) (hr2 r)
 have hcap := h.slG hsz
 by_cases hm : m = 0
 ·subst hm
  have h0 : rows2 = [] := List.eq_nil_of_length_eq_zero hl2.symm
  subst h0
  obtain ⟨a, cp, rfl⟩ := h.form
  exact Bxe hu hs _ _ _ _ _ _ _ hcap.len.2 _ _ (h' _ H (by rw [List.append_nil]; exact h) (fun _ _ hx _ => hx) fun x hx => .inl hx)
 obtain ⟨⟨gb, go, rfl⟩⟩ : Nonempty (∃ gb go, g = some ⟨gb, go, none⟩) := by
  cases hx : rows2 with
  | nil => rw [hx] at hl2; exact absurd hl2 hm
  | cons r l =>
   obtain ⟨b, o, _, _, _, hh, _⟩ := h2.get (i := 0) (r := r) (by rw [hx]; rfl)
   exact ⟨b, o, hh⟩
 have hfn : (rows2.flatMap id).length = m * sz := by rw [Ak9 id sz rows2 hr2, hl2]
 have hcell := SlG.cells hsz h2
 have hw : ∀ u ∈ rows2.flatMap id, one u = true := fun u hm' => by
  obtain ⟨r, hr, hu'⟩ := List.mem_flatMap.1 hm'
  exact hone r hr u hu'
 have hlen : rows.length + m = (rows ++ rows2).length := by rw [List.length_append, hl2]
 obtain ⟨_, hrow⟩ := h.1
 rcases hrow with ⟨rfl, hz0, hc0⟩ | ⟨b, c, cap', hb0, hb, rfl, hcs, hcap', hlen', hget⟩
 ·obtain rfl : rows = [] := List.eq_nil_of_length_eq_zero hz0
  refine Ayu (P := P) hu hs hz hzc hi hby hby0 (Aku.nil H e sz) (Hp.le_refl H) (m := m) hfn id hcell hw (by simp at hn; omega) ty cb K E (fun v' H1 H2 hr hl => ?_)
  have hle : H.le H2 := fun x u hx => hl _ _ (hr.le _ _ hx)
  rcases hr with ⟨_, hn0, _⟩ | ⟨b', c', cap'', hb', rfl, rfl, hs', hl', hn', hg'⟩
  ·simp at hn0; exact absurd hn0 hm
  ·refine h' _ H2 ⟨⟨fun _ _ h => (by cases h), .inr ⟨b', c', cap'', rfl, hl _ _ (by rw [Azr, if_pos rfl]), ?_, hs', ?_, ?_, ?_⟩⟩, hro⟩ (fun x u hx _ => hle _ _ hx) fun x hx => ?_
   ·simp only [List.nil_append, Nat.zero_add]; rw [hl2]
   ·simpa [hl2] using hn'
   ·simpa [hl2] using hl'
   ·intro i u hi; exact hg' i u (by simpa using hi)
   ·simp only [rowB, Option.some.injEq] at hx
    subst hx
    exact .inr hb'
 ·have hgb : gb ≠ b := fun e => hsep (fun h => by rw [h] at hl2; exact hm hl2) gb go rfl (by rw [e]; rfl)
  have hD : (fun x => if x = b then none else H x : Hp) b = none := by simp
  have hH : H = Hp.set (fun x => if x = b then none else H x) b (.cells c e (0, 0)) := by
   funext x
   unfold Hp.set
   by_cases e : x = b
   ·subst e; simp [hb]
   ·simp [e]
  refine Ayu (P := P) hu hs hz hzc hi hby hby0 (H₀ := fun x => if x = b then none else H x) (H := H) (n := rows.length) (cs := rows.flatMap id) (.inr ⟨b, c, cap', hD, hH, rfl, hcs, hlen', hcap', hget⟩) (Hp.le_refl H) (m := m) hfn (fun hx => by simpa [hgb] using hx) hcell hw (by omega) ty cb K E (fun v' H1 H2 hr hl => ?_)
  have hkeep : ∀ x u, x ≠ b -> H x = some u -> H2 x = some u := fun x u hn hx => hl _ _ (hr.le _ _ (by simp only [hn, if_false]; exact hx))
  rcases hr with ⟨_, hn0, _⟩ | ⟨b', c', cap'', hb', rfl, rfl, hs', hl', hn', hg'⟩
  ·exact absurd hn0 (by omega)
  ·refine h' _ H2 ⟨⟨fun _ _ h => (by cases h), .inr ⟨b', c', cap'', rfl, hl _ _ (by rw [Azr, if_pos rfl]), by rw [hlen], hs', by rw [<- hlen]; exact hn', by rw [hfl, <- hlen]; exact hl', fun i u hi => hg' i u (by rw [<- hfl]; exact hi)⟩⟩, hro⟩ (fun x u hx ho => hkeep x _ (fun e => ho (by rw [e]; rfl)) hx) fun x hx => ?_
   simp only [rowB, Option.some.injEq] at hx
   subst hx
   by_cases e : b' = b
   ·exact .inl (by rw [e]; rfl)
   ·simp only [e, if_false] at hb'; exact .inr hb'
theorem range0 (f : Nat -> Value) (k : Nat) : (Array.range (0 * k)).map f = #[] := by simp
theorem RowG.new0 {e : TypeId} {sz : Nat} {H : Hp} {b : Nat} (h : H b = some (true, .cells #[] e (0, 0))) : RowG e sz H (.slice (some ⟨b, 0, none⟩) 0 0) [] :=
 ⟨⟨(fun _ _ h => by cases h), .inr ⟨b, #[], 0, rfl, h, rfl, by simp, Nat.le_refl _, by simp, fun i u hi => by simp at hi⟩⟩, (fun _ h => by cases h)⟩
theorem slG_one {e : TypeId} {sz : Nat} {H : Hp} {g : Nat} {ws : List Value} (hw : ws.length = sz) (h : H g = some (true, .cells ws.toArray e (0, 0))) : SlG e sz H (.slice (some ⟨g, 0, none⟩) 1 1) [ws] := by
 refine ⟨_, 1, rfl, Nat.le_refl _, fun i r hi => ?_⟩
 have hi0 : i = 0 := by have := (List.getElem?_eq_some_iff.1 hi).1; simp only [List.length_singleton] at this; omega
 subst hi0
 simp only [List.getElem?_cons_zero, Option.some.injEq] at hi
 subst hi
 refine ⟨g, 0, true, _, _, rfl, h, by simp [hw], hw, ?_⟩
 simp [List.take_of_length_le (Nat.le_of_eq hw)]
theorem SlN.one {ns : List Ns} : ∀ r ∈ ns.map Ck9, ∀ u ∈ r, one u = true := fun r hr u hu => by
 obtain ⟨d, _, rfl⟩ := List.mem_map.1 hr
 simp only [Ck9, List.mem_cons, List.not_mem_nil, or_false] at hu
 rcases hu with rfl | rfl | rfl <;> rfl
theorem swith_spec (m : Md) (H : Hp) (s : Sm) (dv hv nv : Value) (hs : SmIn H dv hv nv s) (n : Ns) (hl : s.noses.length <= 1000) :
  FnX Tryz.prog m 17 #[smV s.places dv hv nv, .agg #[.int .i64 n.pl, .int .i64 n.hr, .bool n.sm]] H fun e H' => ∃ nv', e = .returned (smV s.places dv hv nv') /\ SmIn H' dv hv nv' (withS s n) /\ H.le H' := by
 obtain ⟨da, dc, ha, kc, na, nc, rfl, rfl, rfl, l1, l2, l3⟩ := hs.forms
 refine Aql func17 rfl ntmps17 (by simp) ?_
 (refine @unH _ (zA y17_150 ?_); (try clear hK K); intro K hK hc)
 (intro sb hsb nb hnb rb hrb; replace hrb : (Hp.set (Hp.set _ sb _) nb _) rb = none := hrb; replace hnb : (Hp.set _ sb _) nb = none := hnb; generalize hG : Hp.set _ sb _ = H1 at hnb hrb ⊢; have lH1 := Aqc hG hsb; have wsb := Aqb hG; clear hG; generalize hG : Hp.set _ nb _ = H2 at hrb ⊢; have lH2 := Aqc hG hnb; have wnb := Aqb hG; have nsbnb := Aqq wsb hnb; replace wsb := lH2 _ _ wsb; clear hG; generalize hG : Hp.set _ rb _ = H3; have lH3 := Aqc hG hrb; have vrb := Aqb hG; have vsb := lH3 _ _ wsb; have vnb := lH3 _ _ wnb; have nsbrb := Aqq wsb hrb; have nnbrb := Aqq wnb hrb; clear hG wsb wnb)
 have w1H3 := vsb
 have w2H3 := vnb
 have wrH3 := vrb
 have lbH3 := Hp.le_trans lH1 (Hp.le_trans lH2 lH3)
 have hrb0 : H rb = none := Hp.le_none (Hp.le_trans lH1 lH2) hrb
 have hsb0 : H sb = none := hsb
 have hsrc : s.noses.map Ck9 ≠ [] -> ∀ x o, na = some ⟨x, o, none⟩ -> ∃ u, H x = some u := fun hne x o hx => by
  obtain ⟨r, hr⟩ : ∃ r, (s.noses.map Ck9)[0]? = some r := by
   cases hm : s.noses.map Ck9 with
   | nil => exact absurd hm hne
   | cons r l => exact ⟨r, rfl⟩
  obtain ⟨b, o', q, c, fr, g1, g2, _⟩ := SlG.get hs.nn hr
  rw [hx] at g1
  cases g1
  exact ⟨_, g2⟩
 have hns0 : SlG 46 3 H (.slice na s.noses.length nc) (s.noses.map Ck9) := hs.nn
 have hone := SlN.one (ns := s.noses)
 clear lH1 lH2 lH3 vsb vnb vrb hsb hnb hrb
 refine hK _ _ ?_
 clear hK K
 (try refine @unH _ (zQ ?_))
 refine Bwn (fun HX => HX sb = some (true, .cells #[.int .i64 s.places, .slice da s.doors.length dc, .slice ha s.hampers.length kc, .slice na s.noses.length nc] 26 (0, 0)) /\ HX nb = some (true, .cells #[.int .i64 n.pl, .int .i64 n.hr, .bool n.sm] 46 (0, 0))) [6, 8] (.free 1 (.take 2 (.take 4 (.two 0 (.two 3 (.one 5 (.one 6 (.free 7 (.one 8 .nil)))) 5 (.one 3 (.one 6 (.free 7 (.one 8 .nil))))) 5 (.one 0 (.one 3 (.one 6 (.free 7 (.one 8 .nil))))))))) (by kernel_rfl) (by kernel_rfl) (by decide) (by kernel_rfl) ?_; intro K hK
 refine Byy fun ops hOz => ?_
 have hSS := And.intro w1H3 w2H3
 have htail : ∀ (e : Nat -> Value) (Hc : Hp) (v : Value), e 2 = .pointer (some ⟨sb, 0, none⟩) -> e 4 = .pointer (some ⟨rb, 0, none⟩) -> e 11 = v -> Hc sb = some (true, .cells #[.int .i64 s.places, .slice da s.doors.length dc, .slice ha s.hampers.length kc, .slice na s.noses.length nc] 26 (0, 0)) -> Hc rb = some (true, .cells #[.int .i64 0, .slice none 0 0, .slice none 0 0, .slice none 0 0] 26 (0, 0)) -> RowG 46 3 Hc v (s.noses.map Ck9 ++ [Ck9 n]) -> H.le Hc -> Azd Tryz.prog m none ops.toArray (only K) (fun HX => HX sb = some (true, .cells #[.int .i64 s.places, .slice da s.doors.length dc, .slice ha s.hampers.length kc, .slice na s.noses.length nc] 26 (0, 0)) /\ HX nb = some (true, .cells #[.int .i64 n.pl, .int .i64 n.hr, .bool n.sm] 46 (0, 0))) [6, 8] (.free 7 (.one 8 .nil)) (act 14 e []) Hc := by
  clear hSS w1H3 w2H3 wrH3 lbH3
  intro e Hc v e2 e4 e11 w1 wr r7 lb
  have ho : one v = true := by obtain ⟨_, _, rfl⟩ := r7.form; rfl
  (refine @unH _ ?_; refine zF y17_150 ?_)
  (refine Cvi hOz rfl rfl ?_; simp -implicitDefEqProofs (disch := first | omega | (simp only [qd] <;> omega)) only [xq, ↓xp, qc, Nat.reduceAdd, List.range, List.range.loop, fine, Nat.reduceEqDiff, ↓reduceIte, yielded, reduceCtorEq, Nat.reduceLT, Nat.reduceMul, Nat.reduceSub, one, Nat.reduceLeDiff, Aqj, y17_150, aq, ↓ap, qe0, qe1, qe2, *, -hK, Az3 sizeOf24 ho, Bkl w1, ho])
  refine ⟨.inl (by decide), ?_⟩
  (refine planZ_nil (hK _ _ ?_); clear hK K; (try simp only [nq, ↓reduceIte, Nat.reduceEqDiff]))
  have r8 : RowG 46 3 (Hc.set sb (smO s.places (.slice da s.doors.length dc) (.slice ha s.hampers.length kc) v)) v (s.noses.map Ck9 ++ [Ck9 n]) := r7.keep fun x u hx hu => by
   rw [Aqv (r7.bound hx w1 (fun c hc => by simp only [Obj.cells.injEq] at hc; exact absurd hc.2.1 (by decide)))]
   exact hu
  have w8 : (Hc.set sb (smO s.places (.slice da s.doors.length dc) (.slice ha s.hampers.length kc) v)) sb = _ := Axp
  have wr8 : (Hc.set sb (smO s.places (.slice da s.doors.length dc) (.slice ha s.hampers.length kc) v)) rb = _ := (Aqv (Ne.symm nsbrb)).trans wr
  have lb8 := Azx (o := smO s.places (.slice da s.doors.length dc) (.slice ha s.hampers.length kc) v) lb hsb0
  generalize hG : Hp.set Hc sb _ = H8 at *
  clear hG r7 w1 wr lb ho e11 hOz
  obtain ⟨va, vc, rfl⟩ := r8.form
  (refine @unH _ (zA y17_150 ?_); (try clear hK K); intro K hK hc)
  (refine Axt ?_; (try simp only [nq, ↓reduceIte, Nat.reduceEqDiff]); rw [Aq7, Ax2 results17 (by decide) (b := rb) (o := 0) ?hcell underlying26 rfl sizeOf26]; (case hcell => exact e4); simp -implicitDefEqProofs (disch := first | omega | (simp only [qd] <;> omega)) only [xq, ↓xp, qc, Nat.reduceAdd, List.range, List.range.loop, fine, Nat.reduceEqDiff, ↓reduceIte, yielded, reduceCtorEq, Nat.reduceLT, Nat.reduceMul, Nat.reduceSub, one, Nat.reduceLeDiff, Aqj, y17_150, Axj, List.extract_toArray])
  have hnn := r8.slG (by decide)
  refine ⟨_, rfl, ⟨SlG.put (SlG.le hs.dd lb8) wr8 (by decide) _, SlI.put (SlI.le hs.hh lb8) wr8 (by decide) _, ?_⟩, Azx lb8 hrb0⟩
  show SlG _ _ _ _ ((s.noses ++ [n]).map Ck9)
  rw [List.map_append]
  exact SlG.put hnn wr8 (by decide) _
 replace hsrc : Aqo _ := hsrc
 replace hone : Aqo _ := hone
 replace hns0 : Aqo _ := hns0
 replace htail : Aqo _ := htail
 (refine @unH _ ?_; refine zF y17_150 ?_)
 (refine @unH _ ?_; refine zK (aN y17_150 @exists_eq_left'.{1}) ?_)
 (refine @unH _ ?_; refine zK y17_150 ?_)
 refine planZ_two hOz rfl rfl rfl rfl ?_ ?_
 ·(refine @unH _ ?_; refine zX y17_150 ?_)
  intro b0 hb0
  generalize hG : Hp.set H3 b0 _ = H4
  have lH4 := Aqc hG hb0
  have vbH4 := Aqb hG
  rw [range0] at vbH4
  have rH4 := RowG.new0 (sz := 3) vbH4
  clear hG
  have b0s := Aqq w1H3 hb0
  have b0n := Aqq w2H3 hb0
  have b0r := Aqq wrH3 hb0
  have b00 := Hp.le_none lbH3 hb0
  have w1H4 := lH4 _ _ w1H3
  have w2H4 := lH4 _ _ w2H3
  have wrH4 := lH4 _ _ wrH3
  have lbH4 := Hp.le_trans lbH3 lH4
  refine ⟨.inr fun _ => (by first | trivial | exact ⟨by first | exact w1H4 | rw [if_neg (by first | exact Aqq w1H3 hg | exact Aqq w1H3 hb0)], by first | exact w2H4 | rw [if_neg (by first | exact Aqq w2H3 hg | exact Aqq w2H3 hb0)]⟩), ?_⟩
  clear hSS
  refine planZ_two hOz rfl rfl rfl rfl ?_ ?_
  ·(refine @unH _ ?_; refine zX y17_150 ?_)
   refine append_RowGs (by decide) underlying24 sizeOf46 zeroValue46 rfl typeInfo46 (by decide) (by decide) rH4 (SlG.le hns0 lbH4) (fun hne x o hx h => ?_) hone (by simp only [List.length_nil, List.length_map]; omega) _ _ _ _ (fun v3 H5 rH5 kH5 nH5 => ?_)
   ·obtain ⟨u, hu⟩ := (show s.noses.map Ck9 ≠ [] -> ∀ x o, na = some ⟨x, o, none⟩ -> ∃ u, H x = some u from hsrc) hne x o hx
    simp only [rowB, Option.some.injEq] at h
    rw [<- h, b00] at hu
    cases hu
   have w1H5 := kH5 _ _ w1H4 (fun h => b0s (Option.some.inj h).symm)
   have w2H5 := kH5 _ _ w2H4 (fun h => b0n (Option.some.inj h).symm)
   have wrH5 := kH5 _ _ wrH4 (fun h => b0r (Option.some.inj h).symm)
   have lbH5 : H.le H5 := fun x u hx => kH5 x u (lbH4 _ _ hx) (fun h => by rw [<- Option.some.inj h, b00] at hx; cases hx)
   have nbH5 : ∀ x, rowB v3 = some x -> H x = none := fun x hx => (nH5 x hx).elim (fun h => by rw [<- Option.some.inj h]; exact b00) fun h => Hp.le_none lbH4 h
   rw [List.nil_append] at rH5
   (refine @unH _ ?_; refine zX y17_150 ?_)
   refine ⟨.inr fun _ => (by first | trivial | exact ⟨by first | exact w1H5 | rw [if_neg (by first | exact Aqq w1H4 hg | exact Aqq w1H4 hb0)], by first | exact w2H5 | rw [if_neg (by first | exact Aqq w2H4 hg | exact Aqq w2H4 hb0)]⟩), ?_⟩
   (refine @unH _ ?_; refine zM y17_150 ?_)
   intro g hg
   generalize hG : Hp.set H5 g _ = H6
   have lH6 := Aqc hG hg
   have vgH6 := Aqb hG
   clear hG
   have w1H6 := lH6 _ _ w1H5
   have w2H6 := lH6 _ _ w2H5
   have wrH6 := lH6 _ _ wrH5
   have lbH6 := Hp.le_trans lbH5 lH6
   have r36 : RowG 46 3 H6 v3 (s.noses.map Ck9) := rH5.keep fun x u _ hu => lH6 _ _ hu
   refine ⟨.inr fun _ => (by first | trivial | exact ⟨by first | exact w1H6 | rw [if_neg (by first | exact Aqq w1H5 hg | exact Aqq w1H5 hb0)], by first | exact w2H6 | rw [if_neg (by first | exact Aqq w2H5 hg | exact Aqq w2H5 hb0)]⟩), ?_⟩
   (refine @unH _ ?_; refine zM y17_150 ?_)
   refine append_RowGs (by decide) underlying24 sizeOf46 zeroValue46 rfl typeInfo46 (by decide) (by decide) r36 (slG_one (ws := [.int .i64 n.pl, .int .i64 n.hr, .bool n.sm]) rfl vgH6) (fun _ x o hx h => ?_) (SlN.one (ns := [n])) (by simp only [List.length_cons, List.length_nil, List.length_map]; omega) _ _ _ _ (fun v6 H7 rH7 kH7 nH7 => ?_)
   ·simp only [Option.some.injEq, Addr.mk.injEq] at hx
    rw [<- hx.1] at h
    obtain ⟨c, hc⟩ := rH5.cell h
    rw [hg] at hc
    cases hc
   have w1H7 := kH7 _ _ w1H6 (fun h => RowG.bound r36 h w1H6 (fun c hc => by simp only [Obj.cells.injEq] at hc; exact absurd hc.2.1 (by decide)) rfl)
   have wrH7 := kH7 _ _ wrH6 (fun h => RowG.bound r36 h wrH6 (fun c hc => by simp only [Obj.cells.injEq] at hc; exact absurd hc.2.1 (by decide)) rfl)
   have lbH7 : H.le H7 := fun x u hx => kH7 x u (lbH6 _ _ hx) (fun h => by rw [nbH5 x h] at hx; cases hx)
   (refine @unH _ ?_; refine zX y17_150 ?_)
   refine ⟨.inl (by decide), ?_⟩
   exact (show ∀ (e : Nat -> Value) (Hc : Hp) (v : Value), _ -> _ -> _ -> _ -> _ -> _ -> _ -> _ from htail) _ _ _ rfl rfl rfl w1H7 wrH7 rH7 lbH7
  ·(refine @unH _ ?_; refine zX y17_150 ?_)
   intro g hg
   generalize hG : Hp.set H4 g _ = H5
   have lH5 := Aqc hG hg
   have vgH5 := Aqb hG
   clear hG
   have w1H5 := lH5 _ _ w1H4
   have w2H5 := lH5 _ _ w2H4
   have wrH5 := lH5 _ _ wrH4
   have lbH5 := Hp.le_trans lbH4 lH5
   have r35 : RowG 46 3 H5 (.slice (some ⟨b0, 0, none⟩) 0 0) [] := rH4.keep fun x u _ hu => lH5 _ _ hu
   have b0g : b0 ≠ g := fun e => by obtain ⟨c, hc⟩ := rH4.cell (x := b0) rfl; rw [e, hg] at hc; cases hc
   refine ⟨.inr fun _ => (by first | trivial | exact ⟨by first | exact w1H5 | rw [if_neg (by first | exact Aqq w1H4 hg | exact Aqq w1H4 hb0)], by first | exact w2H5 | rw [if_neg (by first | exact Aqq w2H4 hg | exact Aqq w2H4 hb0)]⟩), ?_⟩
   (refine @unH _ ?_; refine zM y17_150 ?_)
   refine append_RowGs (by decide) underlying24 sizeOf46 zeroValue46 rfl typeInfo46 (by decide) (by decide) r35 (SlG.le hns0 lbH5) (fun hne x o hx h => ?_) hone (by simp only [List.length_nil, List.length_map]; omega) _ _ _ _ (fun v3 H6 rH6 kH6 nH6 => ?_)
   ·obtain ⟨u, hu⟩ := (show s.noses.map Ck9 ≠ [] -> ∀ x o, na = some ⟨x, o, none⟩ -> ∃ u, H x = some u from hsrc) hne x o hx
    simp only [rowB, Option.some.injEq] at h
    rw [<- h, b00] at hu
    cases hu
   have w1H6 := kH6 _ _ w1H5 (fun h => b0s (Option.some.inj h).symm)
   have w2H6 := kH6 _ _ w2H5 (fun h => b0n (Option.some.inj h).symm)
   have wrH6 := kH6 _ _ wrH5 (fun h => b0r (Option.some.inj h).symm)
   have lbH6 : H.le H6 := fun x u hx => kH6 x u (lbH5 _ _ hx) (fun h => by rw [<- Option.some.inj h, b00] at hx; cases hx)
   have nbH6 : ∀ x, rowB v3 = some x -> H x = none := fun x hx => (nH6 x hx).elim (fun h => by rw [<- Option.some.inj h]; exact b00) fun h => Hp.le_none lbH5 h
   rw [List.nil_append] at rH6
   have vg6 := kH6 _ _ vgH5 (fun h => b0g (Option.some.inj h))
   (refine @unH _ ?_; refine zX y17_150 ?_)
   refine ⟨.inr fun _ => (by first | trivial | exact ⟨by first | exact w1H6 | rw [if_neg (by first | exact Aqq w1H5 hg | exact Aqq w1H5 hb0)], by first | exact w2H6 | rw [if_neg (by first | exact Aqq w2H5 hg | exact Aqq w2H5 hb0)]⟩), ?_⟩
   (refine @unH _ ?_; refine zM y17_150 ?_)
   refine append_RowGs (by decide) underlying24 sizeOf46 zeroValue46 rfl typeInfo46 (by decide) (by decide) rH6 (slG_one (ws := [.int .i64 n.pl, .int .i64 n.hr, .bool n.sm]) rfl vg6) (fun _ x o hx h => ?_) (SlN.one (ns := [n])) (by simp only [List.length_cons, List.length_nil, List.length_map]; omega) _ _ _ _ (fun v6 H7 rH7 kH7 nH7 => ?_)
   ·simp only [Option.some.injEq, Addr.mk.injEq] at hx
    rw [<- hx.1] at h
    exact (nH6 _ h).elim (fun h => b0g (Option.some.inj h)) fun h => by rw [vgH5] at h; cases h
   have w1H7 := kH7 _ _ w1H6 (fun h => RowG.bound rH6 h w1H6 (fun c hc => by simp only [Obj.cells.injEq] at hc; exact absurd hc.2.1 (by decide)) rfl)
   have wrH7 := kH7 _ _ wrH6 (fun h => RowG.bound rH6 h wrH6 (fun c hc => by simp only [Obj.cells.injEq] at hc; exact absurd hc.2.1 (by decide)) rfl)
   have lbH7 : H.le H7 := fun x u hx => kH7 x u (lbH6 _ _ hx) (fun h => by rw [nbH6 x h] at hx; cases hx)
   (refine @unH _ ?_; refine zX y17_150 ?_)
   refine ⟨.inl (by decide), ?_⟩
   exact (show ∀ (e : Nat -> Value) (Hc : Hp) (v : Value), _ -> _ -> _ -> _ -> _ -> _ -> _ -> _ from htail) _ _ _ rfl rfl rfl w1H7 wrH7 rH7 lbH7
 ·(refine @unH _ ?_; refine zX y17_150 ?_)
  intro g hg
  generalize hG : Hp.set H3 g _ = H4
  have lH4 := Aqc hG hg
  have vgH4 := Aqb hG
  clear hG
  have w1H4 := lH4 _ _ w1H3
  have w2H4 := lH4 _ _ w2H3
  have wrH4 := lH4 _ _ wrH3
  have lbH4 := Hp.le_trans lbH3 lH4
  refine ⟨.inr fun _ => (by first | trivial | exact ⟨by first | exact w1H4 | rw [if_neg (by first | exact Aqq w1H3 hg | exact Aqq w1H3 hb0)], by first | exact w2H4 | rw [if_neg (by first | exact Aqq w2H3 hg | exact Aqq w2H3 hb0)]⟩), ?_⟩
  clear hSS
  (refine @unH _ ?_; refine zM y17_150 ?_)
  intro b0 hb0
  generalize hG : Hp.set H4 b0 _ = H5
  have lH5 := Aqc hG hb0
  have vbH5 := Aqb hG
  rw [range0] at vbH5
  have rH5 := RowG.new0 (sz := 3) vbH5
  clear hG
  have b0s := Aqq w1H4 hb0
  have b0n := Aqq w2H4 hb0
  have b0r := Aqq wrH4 hb0
  have b00 := Hp.le_none lbH4 hb0
  have w1H5 := lH5 _ _ w1H4
  have w2H5 := lH5 _ _ w2H4
  have wrH5 := lH5 _ _ wrH4
  have lbH5 := Hp.le_trans lbH4 lH5
  have vg5 := lH5 _ _ vgH4
  have b0g := Ne.symm (Aqq vgH4 hb0)
  refine ⟨.inr fun _ => (by first | trivial | exact ⟨by first | exact w1H5 | rw [if_neg (by first | exact Aqq w1H4 hg | exact Aqq w1H4 hb0)], by first | exact w2H5 | rw [if_neg (by first | exact Aqq w2H4 hg | exact Aqq w2H4 hb0)]⟩), ?_⟩
  (refine @unH _ ?_; refine zM y17_150 ?_)
  refine append_RowGs (by decide) underlying24 sizeOf46 zeroValue46 rfl typeInfo46 (by decide) (by decide) rH5 (SlG.le hns0 lbH5) (fun hne x o hx h => ?_) hone (by simp only [List.length_nil, List.length_map]; omega) _ _ _ _ (fun v3 H6 rH6 kH6 nH6 => ?_)
  ·obtain ⟨u, hu⟩ := (show s.noses.map Ck9 ≠ [] -> ∀ x o, na = some ⟨x, o, none⟩ -> ∃ u, H x = some u from hsrc) hne x o hx
   simp only [rowB, Option.some.injEq] at h
   rw [<- h, b00] at hu
   cases hu
  have w1H6 := kH6 _ _ w1H5 (fun h => b0s (Option.some.inj h).symm)
  have w2H6 := kH6 _ _ w2H5 (fun h => b0n (Option.some.inj h).symm)
  have wrH6 := kH6 _ _ wrH5 (fun h => b0r (Option.some.inj h).symm)
  have lbH6 : H.le H6 := fun x u hx => kH6 x u (lbH5 _ _ hx) (fun h => by rw [<- Option.some.inj h, b00] at hx; cases hx)
  have nbH6 : ∀ x, rowB v3 = some x -> H x = none := fun x hx => (nH6 x hx).elim (fun h => by rw [<- Option.some.inj h]; exact b00) fun h => Hp.le_none lbH5 h
  rw [List.nil_append] at rH6
  have vg6 := kH6 _ _ vg5 (fun h => b0g (Option.some.inj h))
  (refine @unH _ ?_; refine zX y17_150 ?_)
  refine ⟨.inr fun _ => (by first | trivial | exact ⟨by first | exact w1H6 | rw [if_neg (by first | exact Aqq w1H5 hg | exact Aqq w1H5 hb0)], by first | exact w2H6 | rw [if_neg (by first | exact Aqq w2H5 hg | exact Aqq w2H5 hb0)]⟩), ?_⟩
  (refine @unH _ ?_; refine zM y17_150 ?_)
  refine append_RowGs (by decide) underlying24 sizeOf46 zeroValue46 rfl typeInfo46 (by decide) (by decide) rH6 (slG_one (ws := [.int .i64 n.pl, .int .i64 n.hr, .bool n.sm]) rfl vg6) (fun _ x o hx h => ?_) (SlN.one (ns := [n])) (by simp only [List.length_cons, List.length_nil, List.length_map]; omega) _ _ _ _ (fun v6 H7 rH7 kH7 nH7 => ?_)
  ·simp only [Option.some.injEq, Addr.mk.injEq] at hx
   rw [<- hx.1] at h
   exact (nH6 _ h).elim (fun h => b0g (Option.some.inj h)) fun h => by rw [vg5] at h; cases h
  have w1H7 := kH7 _ _ w1H6 (fun h => RowG.bound rH6 h w1H6 (fun c hc => by simp only [Obj.cells.injEq] at hc; exact absurd hc.2.1 (by decide)) rfl)
  have wrH7 := kH7 _ _ wrH6 (fun h => RowG.bound rH6 h wrH6 (fun c hc => by simp only [Obj.cells.injEq] at hc; exact absurd hc.2.1 (by decide)) rfl)
  have lbH7 : H.le H7 := fun x u hx => kH7 x u (lbH6 _ _ hx) (fun h => by rw [nbH6 x h] at hx; cases hx)
  (refine @unH _ ?_; refine zX y17_150 ?_)
  refine ⟨.inl (by decide), ?_⟩
  exact (show ∀ (e : Nat -> Value) (Hc : Hp) (v : Value), _ -> _ -> _ -> _ -> _ -> _ -> _ -> _ from htail) _ _ _ rfl rfl rfl w1H7 wrH7 rH7 lbH7
end Go.Proofs.YtnfnaehonkbknaaGreatDoor
end
section
namespace Go.X
open Go
section
variable {P : Program} {main : Md} {lp : Option Nat} {Q : Exit -> Act -> Hp -> Prop} {l : List Oper} {n : Nat} {e0 : Nat -> Value} {ds : List Deferred} {Φ : Nat -> Value -> Hp -> Prop} {H0 : Hp}
def depB (l : List Oper) (i k t : Nat) : Bool := match l[k]? with
 | none => false
 | some o => o.dst == some t && k != i && (waitsFor l.toArray i).getD k false
def nodB (l : List Oper) (t : Nat) : Bool := l.all fun o => o.dst != some t
def growG (P : Program) (main : Md) (lp : Option Nat) (Q : Exit -> Act -> Hp -> Prop) (l : List Oper) (n : Nat) (e0 : Nat -> Value) (ds : List Deferred) (Φ : Nat -> Value -> Hp -> Prop) (H0 : Hp) (i : Nat) (o : Oper) (K : (Nat -> Value) -> Hp -> Act -> Hp -> Prop) : Prop :=
 ∀ e H, H0.le H -> (∀ t, nodB l t = true -> e t = e0 t) -> (∀ k t, depB l i k t = true -> Φ k (e t) H) -> fine lp o = true /\ opX P main lp o (act n e ds) H (K e H) Q
def growOK (l : List Oper) (n : Nat) : Bool :=
 (l.length != 0) && (List.range l.length).all fun i => match l[i]? with
 | none => true
 | some o => o.guard.isNone && (match o.dst with | none => true | some t => decide (t < n)) && (o.after.all fun e => !(Region.binds .any e) || decide (e.on < i)) && (i + 1 == l.length || (waitsFor l.toArray (l.length - 1)).getD i false) &&
  (List.range l.length).all fun k => k == i || (match l[k]? with | none => true | some o' => o.dst.isNone || o'.dst != o.dst)
structure GrowOK (l : List Oper) (n : Nat) : Prop where
 ne : l.length ≠ 0
 guard : ∀ (i : Nat) (o : Oper), l[i]? = some o -> o.guard = none
 dst : ∀ (i : Nat) (o : Oper) (t : Tmp), l[i]? = some o -> o.dst = some t -> t < n
 aft : ∀ (i : Nat) (o : Oper), l[i]? = some o -> ∀ e ∈ o.after, Region.binds .any e = true -> e.on < i
 last : ∀ i, i + 1 < l.length -> (waitsFor l.toArray (l.length - 1)).getD i false = true
 apart : ∀ (i k : Nat) (o o' : Oper) (t : Tmp), l[i]? = some o -> l[k]? = some o' -> k ≠ i -> o.dst = some t -> o'.dst ≠ some t
theorem growOK_spec (h : growOK l n = true) : GrowOK l n := by
 unfold growOK at h
 simp only [Bool.and_eq_true, bne_iff_ne, ne_eq] at h
 obtain ⟨h0, h⟩ := h
 have h1 : ∀ (i : Nat) (o : Oper), l[i]? = some o -> _ := fun i o hi => by
  have := List.all_eq_true.1 h i (List.mem_range.2 (List.getElem?_eq_some_iff.1 hi).1)
  rw [hi] at this
  simp only [Bool.and_eq_true] at this
  exact this
 refine ⟨h0, fun i o hi => by simpa using (h1 i o hi).1.1.1.1, fun i o t hi hd => ?_, fun i o hi e he hb => ?_, fun i hi => ?_, fun i k o o' t hi hk hne hd hd' => ?_⟩
 ·have := (h1 i o hi).1.1.1.2
  rw [hd] at this
  simpa using this
 ·have := (h1 i o hi).1.1.2
  rw [Array.all_eq_true_iff_forall_mem] at this
  have := this e he
  rw [hb] at this
  simpa using this
 ·have := (h1 i _ (List.getElem?_eq_getElem (by omega))).1.2
  simp only [Bool.or_eq_true, beq_iff_eq] at this
  exact this.resolve_left (by omega)
 ·have := List.all_eq_true.1 (h1 i o hi).2 k (List.mem_range.2 (List.getElem?_eq_some_iff.1 hk).1)
  rw [hk, hd] at this
  simp [hne, hd'] at this
structure GrowI (l : List Oper) (n : Nat) (e0 : Nat -> Value) (ds : List Deferred) (Φ : Nat -> Value -> Hp -> Prop) (H0 : Hp) (listed : Array Bool) (a : Act) (H : Hp) : Prop where
 le : H0.le H
 env : ∃ e, a = act n e ds /\ (∀ t, nodB l t = true -> e t = e0 t) /\ ∀ (k : Nat) (o : Oper) (t : Tmp), l[k]? = some o -> o.dst = some t -> listed.getD k false = true -> Φ k (e t) H
theorem growG.num {i : Nat} {o : Oper} {K : (Nat -> Value) -> Hp -> Act -> Hp -> Prop} (h : growG P main lp Q l n e0 ds Φ H0 i o K) (hi : l[i]? = some o) (hg : o.guard = none) {listed : Array Bool} (hc : Closed l.toArray listed) (hr : i ∈ Region.ready .any l.toArray listed) {e : Nat -> Value} {H : Hp} (hle : H0.le H) (he : ∀ t, nodB l t = true -> e t = e0 t) (hf : ∀ (k : Nat) (o : Oper) (t : Tmp), l[k]? = some o -> o.dst = some t -> listed.getD k false = true -> Φ k (e t) H) :
  numX P main lp l.toArray i Q (K e H) (act n e ds) H := by
 rw [Avr]
 have hw : Region.wanted o (yielded l.toArray (act n e ds).tmps) = true := by unfold Region.wanted; rw [hg]
 simp only [List.getElem?_toArray, hi, hw, if_true]
 refine h e H hle he fun k t hk => ?_
 unfold depB at hk
 cases ho : l[k]? with
 | none => rw [ho] at hk; cases hk
 | some ok =>
  rw [ho] at hk
  simp only [Bool.and_eq_true, beq_iff_eq, bne_iff_ne, ne_eq] at hk
  exact hf k ok t ho hk.1.1 (((Bqo hk.2).resolve_left hk.1.2).listed hc hr)
theorem grow_any (hst : ∀ k v H H', Φ k v H -> H.le H' -> Φ k v H') (ok : GrowOK l n)
  (hs : ∀ (i : Nat) (o : Oper), l[i]? = some o -> i + 1 < l.length -> growG P main lp Q l n e0 ds Φ H0 i o fun e H a' H' => H.le H' /\ ∃ v, a' = (act n e ds).put o.dst v /\ Φ i v H')
  (hl : ∀ o, l[l.length - 1]? = some o -> growG P main lp Q l n e0 ds Φ H0 (l.length - 1) o fun _ _ a' H' => Q .normal a' H') :
  ∀ (fuel : Nat) (listed : Array Bool) (a : Act) (H : Hp), listed.size = l.length -> listed.toList.count false <= fuel -> Closed l.toArray listed ->
   ((listed.getD (l.length - 1) false = false /\ GrowI l n e0 ds Φ H0 listed a H) ∨ ((∀ k, k < l.length -> listed.getD k false = true) /\ Q .normal a H)) -> anyX P main lp l.toArray Q (fun _ => True) fuel listed a H := by
 have hall : ∀ listed : Array Bool, (∀ k, k < l.length -> listed.getD k false = true) -> listed.size = l.length -> Region.ready .any l.toArray listed = [] := fun listed h hsz => by
  cases hr : Region.ready .any l.toArray listed with
  | nil => rfl
  | cons i r =>
   obtain ⟨h1, o, ho, _⟩ := mem_ready.1 (show i ∈ Region.ready .any l.toArray listed by rw [hr]; exact List.mem_cons_self)
   rw [List.getElem?_toArray] at ho
   have hlt := (List.getElem?_eq_some_iff.1 ho).1
   have := h i hlt
   simp [Array.getD, hsz, hlt] at h1 this
   rw [this] at h1
   cases h1
 have hlive : ∀ listed : Array Bool, listed.size = l.length -> listed.getD (l.length - 1) false = false -> Region.ready .any l.toArray listed ≠ [] := fun listed hsz hlast => by
  have key : ∀ m i, i < m -> i < l.length -> listed.getD i false = false -> ∃ j, j ∈ Region.ready .any l.toArray listed := by
   intro m
   induction m with
   | zero => intro i hi; omega
   | succ m ih =>
    intro i hi hil hun
    by_cases hex : ∃ j, j < i /\ listed.getD j false = false
    ·obtain ⟨j, hj, hju⟩ := hex
     exact ih j (by omega) (by omega) hju
    ·refine ⟨i, mem_ready.2 ⟨?_, l[i], by simp [hil], fun e he hb => ?_⟩⟩
     ·simpa [Array.getD, hsz, hil] using hun
     ·have := ok.aft i _ (List.getElem?_eq_getElem hil) e he hb
      cases hq : listed.getD e.on false with
      | true => rfl
      | false => exact absurd ⟨_, this, hq⟩ hex
  obtain ⟨j, hj⟩ := key l.length (l.length - 1) (by have := ok.ne; omega) (by have := ok.ne; omega) hlast
  intro h0
  rw [h0] at hj
  cases hj
 intro fuel
 induction fuel with
 | zero =>
  intro listed a H hsz hcnt hcl hI
  rcases hI with ⟨hlast, _⟩ | ⟨h, hq⟩
  ·exfalso
   have h0 : l.length - 1 < listed.toList.length := by have := ok.ne; simp [hsz]; omega
   have h1 : false ∈ listed.toList := by
    have h2 : listed.toList[l.length - 1] = false := by
     have h3 : l.length - 1 < listed.size := by simpa using h0
     simpa [Array.getD, h3] using hlast
    rw [<- h2]
    exact List.getElem_mem h0
   have := List.count_pos_iff.2 h1
   omega
  ·exact ⟨hall listed h hsz, hq⟩
 | succ fuel ih =>
  intro listed a H hsz hcnt hcl hI
  rcases hI with ⟨hlast, hG⟩ | ⟨h, hq⟩
  ·refine ⟨fun h0 => absurd h0 (hlive listed hsz hlast), fun i hi => ?_⟩
   obtain ⟨h1, o, ho, hdeps⟩ := mem_ready.1 hi
   rw [List.getElem?_toArray] at ho
   have hlt := (List.getElem?_eq_some_iff.1 ho).1
   have hsz' : (listed.setIfInBounds i true).size = l.length := by simp [hsz]
   have hcnt' : (listed.setIfInBounds i true).toList.count false <= fuel := by
    have h2 : i < listed.toList.length := by simpa [hsz] using hlt
    have h3 : listed.toList[i] = false := by
     have h4 : i < listed.size := by simpa using h2
     simpa [Array.getD, h4] using h1
    rw [Array.toList_setIfInBounds, List.count_set h2, h3]
    simp only [beq_self_eq_true, if_true]
    have := List.count_pos_iff.2 (show false ∈ listed.toList by rw [<- h3]; exact List.getElem_mem h2)
    simp only [Bool.true_eq_false, beq_iff_eq, if_false, Nat.add_zero]
    omega
   obtain ⟨hle, e, rfl, he, hf⟩ := hG
   by_cases hil : i + 1 < l.length
   ·refine Axq (fun a' H' h' => ⟨trivial, ih _ a' H' hsz' hcnt' (hcl.set hi) (.inl ⟨?_, ?_⟩)⟩) ((hs i o ho hil).num ho (ok.guard i o ho) hcl hi hle he hf)
    ·rw [getD_set_ne false (by omega)]
     exact hlast
    ·obtain ⟨hle', v, rfl, hv⟩ := h'
     refine ⟨fun x u hx => hle' _ _ (hle _ _ hx), ?_⟩
     cases hd : o.dst with
     | none =>
      refine ⟨e, rfl, he, fun k ok' t hk hdk hlk => ?_⟩
      by_cases hki : k = i
      ·subst hki
       rw [ho] at hk
       cases hk
       rw [hd] at hdk
       cases hdk
      ·rw [getD_set_ne false (Ne.symm hki)] at hlk
       exact hst _ _ _ _ (hf k ok' t hk hdk hlk) hle'
     | some t0 =>
      refine ⟨upd e t0 v, by rw [Aq0 (ok.dst i o t0 ho hd)], fun t ht => ?_, fun k ok' t hk hdk hlk => ?_⟩
      ·have hne : t ≠ t0 := by
        rintro rfl
        have := List.all_eq_true.1 ht o (List.mem_of_getElem? ho)
        simp [hd] at this
       rw [Axg, if_neg hne]
       exact he t ht
      ·by_cases hki : k = i
       ·subst hki
        rw [ho] at hk
        cases hk
        rw [hd] at hdk
        cases hdk
        rw [Axg, if_pos rfl]
        exact hv
       ·rw [getD_set_ne false (Ne.symm hki)] at hlk
        have hne : t ≠ t0 := by
         rintro rfl
         exact ok.apart i k o ok' t ho hk hki hd hdk
        rw [Axg, if_neg hne]
        exact hst _ _ _ _ (hf k ok' t hk hdk hlk) hle'
   ·obtain rfl : i = l.length - 1 := by omega
    refine Axq (fun a' H' h' => ⟨trivial, ih _ a' H' hsz' hcnt' (hcl.set hi) (.inr ⟨fun k hk => ?_, h'⟩)⟩) ((hl o ho).num ho (ok.guard _ o ho) hcl hi hle he hf)
    by_cases hkl : k = l.length - 1
    ·subst hkl
     simp [Array.getD, hsz, hk]
    ·rw [getD_set_ne false (Ne.symm hkl)]
     exact ((Bqo (ok.last k (by omega))).resolve_left hkl).listed hcl hi
  ·refine ⟨fun _ => hq, fun i hi => ?_⟩
   rw [hall listed h hsz] at hi
   cases hi
def growAll (P : Program) (main : Md) (lp : Option Nat) (Q : Exit -> Act -> Hp -> Prop) (l : List Oper) (n : Nat) (e0 : Nat -> Value) (ds : List Deferred) (Φ : Nat -> Value -> Hp -> Prop) (H0 : Hp) : List Oper -> Nat -> Prop
 | [], _ => True
 | [o], i => growG P main lp Q l n e0 ds Φ H0 i o fun _ _ a' H' => Q .normal a' H'
 | o :: o' :: r, i => growG P main lp Q l n e0 ds Φ H0 i o (fun e H a' H' => H.le H' /\ ∃ v, a' = (act n e ds).put o.dst v /\ Φ i v H') /\ growAll P main lp Q l n e0 ds Φ H0 (o' :: r) (i + 1)
theorem growAll_cons {o o' : Oper} {r : List Oper} {i : Nat} (h : growG P main lp Q l n e0 ds Φ H0 i o (fun e H a' H' => H.le H' /\ ∃ v, a' = (act n e ds).put o.dst v /\ Φ i v H')) (h' : growAll P main lp Q l n e0 ds Φ H0 (o' :: r) (i + 1)) : growAll P main lp Q l n e0 ds Φ H0 (o :: o' :: r) i := ⟨h, h'⟩
theorem growAll_one {o : Oper} {i : Nat} (h : growG P main lp Q l n e0 ds Φ H0 i o fun _ _ a' H' => Q .normal a' H') : growAll P main lp Q l n e0 ds Φ H0 [o] i := h
theorem growAll_get : ∀ (r : List Oper) (s : Nat), growAll P main lp Q l n e0 ds Φ H0 r s -> (∀ (i : Nat) (o : Oper), r[i]? = some o -> i + 1 < r.length -> growG P main lp Q l n e0 ds Φ H0 (s + i) o fun e H a' H' => H.le H' /\ ∃ v, a' = (act n e ds).put o.dst v /\ Φ (s + i) v H') /\
  ∀ o, r[r.length - 1]? = some o -> growG P main lp Q l n e0 ds Φ H0 (s + (r.length - 1)) o fun _ _ a' H' => Q .normal a' H'
 | [], _, _ => ⟨fun i o hi => by simp at hi, fun o hi => by simp at hi⟩
 | [o], s, h => ⟨fun i o hi hl => by simp at hl, fun o' ho => by
   simp at ho
   subst ho
   exact h⟩
 | o :: o' :: r, s, h => by
  have ih := growAll_get (o' :: r) (s + 1) h.2
  refine ⟨fun i x hi hl => ?_, fun x hx => ?_⟩
  ·cases i with
   | zero =>
    simp only [List.getElem?_cons_zero, Option.some.injEq] at hi
    subst hi
    exact h.1
   | succ i =>
    have := ih.1 i x (by simpa using hi) (by simpa using hl)
    rw [show s + (i + 1) = s + 1 + i by omega]
    exact this
  ·have := ih.2 x (by simpa using hx)
   rw [show s + ((o :: o' :: r).length - 1) = s + 1 + ((o' :: r).length - 1) by simp; omega]
   exact this
theorem wpX_grow {id : Nat} (Φ : Nat -> Value -> Hp -> Prop) (hm : P.follows .mixedOrders = true) (hok : growOK l n = true) (hst : ∀ k v H H', Φ k v H -> H.le H' -> Φ k v H')
  (h : growAll P main lp Q l n e0 ds Φ H0 l 0) : wpX P main lp (.region id l.toArray true) Q (act n e0 ds) H0 := by
 have ok := growOK_spec hok
 have hg := growAll_get l 0 h
 refine Bkq (fun _ => True) hm (grow_any hst ok (fun i o hi hl => by simpa using hg.1 i o hi hl) (fun o ho => by simpa using hg.2 o ho) _ _ _ _ ?_ ?_ .start (.inl ⟨?_, Hp.le_refl _, e0, rfl, fun _ _ => rfl, fun k o t hk hd hl => ?_⟩))
 ·simp
 ·simp
 ·simp [Array.getD]
 ·exfalso
  by_cases hk2 : k < l.length <;> simp [Array.getD, hk2] at hl
theorem wpX_glast {id : Nat} (Φ : Nat -> Value -> Hp -> Prop) (hm : P.follows .mixedOrders = true) (hok : growOK l n = true) (hst : ∀ k v H H', Φ k v H -> H.le H' -> Φ k v H')
  (h : ∀ K : Act -> Hp -> Prop, (∀ a' H', Q .normal a' H' -> K a' H') -> growAll P main lp (only K) l n e0 ds Φ H0 l 0) : wpX P main lp (.region id l.toArray true) Q (act n e0 ds) H0 := by
 refine Az1 (Q := only fun a' H' => Q .normal a' H') (wpX_grow Φ hm hok hst (h _ fun _ _ h => h)) fun e a H q => ?_
 cases e <;> first | exact q | exact q.elim
end
end Go.X
end
section
namespace Go.Proofs.YtnfnaehonkbknaaGreatDoor
open Go Go.X
theorem rowX_G {H0 H : Hp} {v : Value} {xs : List Int} (h : RowX none H0 H v 3 (ints xs)) : RowG 3 1 H v (int1 xs) /\ ∀ x, rowB v = some x -> H0 x = none := by
 have hf : (int1 xs).flatMap id = ints xs := by
  unfold int1 ints
  clear h
  induction xs with
  | nil => rfl
  | cons x xs ih => simp_all [List.flatMap_cons]
 have hl : (int1 xs).length = xs.length := by simp [int1]
 have hr : ∀ r ∈ int1 xs, r.length = 1 := fun r hr => by
  obtain ⟨x, _, rfl⟩ := List.mem_map.1 hr
  rfl
 rcases h.2 with ⟨rfl, h0⟩ | ⟨b, c, cap, h0, hb, rfl, h1, h2, h3⟩
 ·have : xs = [] := by cases xs with | nil => rfl | cons x l => simp [ints] at h0
  subst this
  exact ⟨RowG.nil, fun x hx => by cases hx⟩
 ·have hi : (ints xs).length = xs.length := Aq1 xs
  rw [hi] at h2 ⊢
  refine ⟨⟨⟨(fun _ _ h => by cases h), .inr ⟨b, c, cap, rfl, hb, by rw [hl], by omega, by omega, by rw [hf, hi, hl, Nat.mul_one], by rw [hf]; exact h3⟩⟩, hr⟩, fun x hx => ?_⟩
  simp only [rowB, Option.some.injEq] at hx
  rw [<- hx]
  exact h0
theorem SmIn.put {H : Hp} {dv hv nv : Value} {s : Sm} (h : SmIn H dv hv nv s) {b : Nat} {q : Bool} {c : Array Value} {fr : Nat × Nat} (hb : H b = some (q, .cells c 26 fr)) (o : Array Value) : SmIn (H.set b (.cells o 26 (0, 0))) dv hv nv s := ⟨SlG.put h.dd hb (by decide) _, SlI.put h.hh hb (by decide) _, SlG.put h.nn hb (by decide) _⟩
end Go.Proofs.YtnfnaehonkbknaaGreatDoor
end
section
namespace Go.Proofs.YtnfnaehonkbknaaGreatDoor
open Go Go.X Go.Proofs.Tryz
def y20_156 := aN @Dvn (aN @Dwc (aN @Dvo (aN @Dwa (aN @Dye (aN @Dvq (aN @Dwb (aN @Dyf (aN @Dvp (aN @Dv9 (aN @Dxh (aN @Dw9 (aN @Dwm (aN @Dya @Dwl)))))))))))))
end Go.Proofs.YtnfnaehonkbknaaGreatDoor
namespace Go.X
open Go
def SelfEq (P : Program) (d : Nat) (t : TypeId) (v : Value) : Prop := ∀ (H : Hp) (K : Bool -> Hp -> Prop) (E : Value -> Hp -> Prop), wpS P (Op.equalIn d t v v) H K E = K true H
theorem selfEq_int {P : Program} {t : TypeId} {k : IntKind} (hu : P.underlying t = some (.int k)) (d : Nat) (j : IntKind) (a : Int) : SelfEq P (d + 1) t (.int j a) := fun H K E => by
 rw [Az9 hu, beq_self_eq_true]
theorem selfEq_bool {P : Program} {t : TypeId} (hu : P.underlying t = some .bool) (d : Nat) (b : Bool) : SelfEq P (d + 1) t (.bool b) := fun H K E => by
 unfold Op.equalIn
 simp only [Aqa, Aqh hu, Aqd, beq_self_eq_true]
theorem selfEq_struct2 {P : Program} {d : Nat} {t : TypeId} {f1 f2 : Field} (hu : P.underlying t = some (.struct #[f1, f2])) (hh : P.stoodInHeld t = false) (n1 : f1.name ≠ "_") (n2 : f2.name ≠ "_") {xs : Array Value} {v1 v2 : Value}
  (p1 : ∀ (H : Hp) (K : Value -> Hp -> Prop) (E : Value -> Hp -> Prop), wpS P (part f1.type xs f1.offset) H K E = K v1 H) (p2 : ∀ (H : Hp) (K : Value -> Hp -> Prop) (E : Value -> Hp -> Prop), wpS P (part f2.type xs f2.offset) H K E = K v2 H)
  (s1 : SelfEq P d f1.type v1) (s2 : SelfEq P d f2.type v2) : SelfEq P (d + 1) t (.agg xs) := fun H K E => by
 unfold Op.equalIn
 simp only [Aqa, Aqh hu, Ajl, hh, Bool.false_eq_true, if_false, Aqd, List.forIn_toArray, List.forIn_cons, List.forIn_nil, n1, n2, ne_eq, not_false_eq_true, if_true]
 rw [p1, p1, s1]
 simp only [Bool.not_true, Bool.false_eq_true, if_false, Aqd, Aqa]
 rw [p2, p2, s2]
 simp only [Bool.not_true, Bool.false_eq_true, if_false, Aqd]
theorem selfEq_struct3 {P : Program} {d : Nat} {t : TypeId} {f1 f2 f3 : Field} (hu : P.underlying t = some (.struct #[f1, f2, f3])) (hh : P.stoodInHeld t = false) (n1 : f1.name ≠ "_") (n2 : f2.name ≠ "_") (n3 : f3.name ≠ "_") {xs : Array Value} {v1 v2 v3 : Value}
  (p1 : ∀ (H : Hp) (K : Value -> Hp -> Prop) (E : Value -> Hp -> Prop), wpS P (part f1.type xs f1.offset) H K E = K v1 H) (p2 : ∀ (H : Hp) (K : Value -> Hp -> Prop) (E : Value -> Hp -> Prop), wpS P (part f2.type xs f2.offset) H K E = K v2 H) (p3 : ∀ (H : Hp) (K : Value -> Hp -> Prop) (E : Value -> Hp -> Prop), wpS P (part f3.type xs f3.offset) H K E = K v3 H)
  (s1 : SelfEq P d f1.type v1) (s2 : SelfEq P d f2.type v2) (s3 : SelfEq P d f3.type v3) : SelfEq P (d + 1) t (.agg xs) := fun H K E => by
 unfold Op.equalIn
 simp only [Aqa, Aqh hu, Ajl, hh, Bool.false_eq_true, if_false, Aqd, List.forIn_toArray, List.forIn_cons, List.forIn_nil, n1, n2, n3, ne_eq, not_false_eq_true, if_true]
 rw [p1, p1, s1]
 simp only [Bool.not_true, Bool.false_eq_true, if_false, Aqd, Aqa]
 rw [p2, p2, s2]
 simp only [Bool.not_true, Bool.false_eq_true, if_false, Aqd, Aqa]
 rw [p3, p3, s3]
 simp only [Bool.not_true, Bool.false_eq_true, if_false, Aqd]
theorem neq_self {P : Program} {H : Hp} {t : TypeId} {xs : Array Value} (h : SelfEq P 10000 t (.agg xs)) (K : Value -> Hp -> Prop) (E : Value -> Hp -> Prop) : wpS P (binOp .neq t (.agg xs) (.agg xs)) H K E = K (.bool false) H := by
 simp only [binOp]
 rw [Aqa]
 unfold Op.equal Op.maxDepth
 rw [h]
 rfl
end Go.X
namespace Go.Proofs.YtnfnaehonkbknaaGreatDoor
open Go Go.X Go.Proofs.Tryz
theorem selfBand (d : Nat) (a b : Int) : SelfEq Tryz.prog (d + 2) 34 (.agg #[.int .i64 a, .int .i64 b]) :=
 selfEq_struct2 underlying34 (by kernel_rfl) (by decide) (by decide) (fun _ K E => Aqk underlying3 rfl _ _ rfl K E) (fun _ K E => Aqk underlying3 rfl _ _ rfl K E) (selfEq_int underlying3 d _ _) (selfEq_int underlying3 d _ _)
theorem selfDoor (d : Nat) (a b x y : Int) : SelfEq Tryz.prog (d + 3) 66 (.agg #[.int .i64 a, .int .i64 b, .int .i64 x, .int .i64 y]) :=
 selfEq_struct3 underlying66 (by kernel_rfl) (by decide) (by decide) (by decide) (fun _ K E => Aqk underlying3 rfl _ _ rfl K E) (fun _ K E => Aqk underlying3 rfl _ _ rfl K E) (fun _ K E => Bq7 underlying34 rfl sizeOf34 _ _ K E) (selfEq_int underlying3 (d + 1) _ _) (selfEq_int underlying3 (d + 1) _ _) (selfBand d x y)
theorem selfNose (d : Nat) (p h : Int) (b : Bool) : SelfEq Tryz.prog (d + 2) 46 (.agg #[.int .i64 p, .int .i64 h, .bool b]) :=
 selfEq_struct3 underlying46 (by kernel_rfl) (by decide) (by decide) (by decide) (fun _ K E => Aqk underlying3 rfl _ _ rfl K E) (fun _ K E => Aqk underlying3 rfl _ _ rfl K E) (fun _ K E => Aqk underlying4 rfl _ _ rfl K E) (selfEq_int underlying3 d _ _) (selfEq_int underlying3 d _ _) (selfEq_bool underlying4 d _)
theorem snDoor {H : Hp} (a b x y : Int) (K : Value -> Hp -> Prop) (E : Value -> Hp -> Prop) : wpS Tryz.prog (binOp .neq 66 (.agg #[.int .i64 a, .int .i64 b, .int .i64 x, .int .i64 y]) (.agg #[.int .i64 a, .int .i64 b, .int .i64 x, .int .i64 y])) H K E = K (.bool false) H := neq_self (selfDoor 9997 a b x y) K E
theorem snNose {H : Hp} (p h : Int) (b : Bool) (K : Value -> Hp -> Prop) (E : Value -> Hp -> Prop) : wpS Tryz.prog (binOp .neq 46 (.agg #[.int .i64 p, .int .i64 h, .bool b]) (.agg #[.int .i64 p, .int .i64 h, .bool b])) H K E = K (.bool false) H := neq_self (selfNose 9998 p h b) K E
theorem sguardDoor : Program.eqGuardType Tryz.prog (Program.depth Tryz.prog) 66 = false := by kernel_rfl
theorem sguardNose : Program.eqGuardType Tryz.prog (Program.depth Tryz.prog) 46 = false := by kernel_rfl
theorem sgDoor {H : Hp} (op : BinOp) (x y : Operand) (p q : Array Value) (K : Unit -> Hp -> Prop) (E : Value -> Hp -> Prop) : wpS Tryz.prog (eqGuard op 66 x y (.agg p) (.agg q)) H K E = K () H := Cvn sguardDoor op x y p q K E
theorem sgNose {H : Hp} (op : BinOp) (x y : Operand) (p q : Array Value) (K : Unit -> Hp -> Prop) (E : Value -> Hp -> Prop) : wpS Tryz.prog (eqGuard op 46 x y (.agg p) (.agg q)) H K E = K () H := Cvn sguardNose op x y p q K E
theorem likeSmells_yes (m : Md) (H : Hp) (s : Sm) (dv hv nv dv' hv' nv' : Value) (hs : SmIn H dv hv nv s) (hs' : SmIn H dv' hv' nv' s) (hl1 : s.doors.length <= 1000) (hl2 : s.hampers.length <= 1000) (hl3 : s.noses.length <= 1000) :
  FnX Tryz.prog m 20 #[smV s.places dv hv nv, smV s.places dv' hv' nv'] H fun e H' => e = .returned (.bool true) /\ H.le H' := by
 obtain ⟨da, dc, ha, kc, na, nc, rfl, rfl, rfl, -, -, -⟩ := hs.forms
 obtain ⟨da', dc', ha', kc', na', nc', rfl, rfl, rfl, -, -, -⟩ := hs'.forms
 refine Aql func20 rfl ntmps20 (by simp) ?_
 (refine @unH _ (zA y20_156 ?_); (try clear hK K); intro K hK hc)
 (intro ab hab bb hbb; replace hbb : (Hp.set _ ab _) bb = none := hbb; generalize hG : Hp.set _ ab _ = H1 at hbb ⊢; have lH1 := Aqc hG hab; have wab := Aqb hG; clear hG; generalize hG : Hp.set _ bb _ = H2; have lH2 := Aqc hG hbb; have vbb := Aqb hG; have vab := lH2 _ _ wab; have nabbb := Aqq wab hbb; clear hG wab)
 have l2 := Hp.le_trans lH1 lH2
 have hLik := Ayd m H2 _ _ _ _ (hs.hh.le l2) (hs'.hh.le l2) (by omega) (by omega)
 rw [show decide (s.hampers = s.hampers) = true from decide_eq_true rfl] at hLik
 have hd := SlG.le hs.dd l2
 have hd' := SlG.le hs'.dd l2
 have hn := SlG.le hs.nn l2
 have hn' := SlG.le hs'.nn l2
 clear hs hs' lH1 lH2 hab hbb nabbb
 replace hLik : Aqo _ := hLik
 replace hd : Aqo _ := hd
 replace hd' : Aqo _ := hd'
 replace hn : Aqo _ := hn
 replace hn' : Aqo _ := hn'
 have hq1 : ∀ o, Hp.cell H2 ⟨ab, o, none⟩ = (#[.int .i64 s.places, .slice da s.doors.length dc, .slice ha s.hampers.length kc, .slice na s.noses.length nc] : Array Value)[o]? := fun o => cell_of vab
 have hq2 : ∀ o, Hp.cell H2 ⟨bb, o, none⟩ = (#[.int .i64 s.places, .slice da' s.doors.length dc', .slice ha' s.hampers.length kc', .slice na' s.noses.length nc'] : Array Value)[o]? := fun o => cell_of vbb
 refine hK _ _ ?_
 clear hK K
 (try refine @unH _ (zQ ?_))
 refine Axy (Axy (wpX_rz 31 (by rfl) ?_))
 intro K hK ops hOz
 (iterate 29 (refine @unH _ ?_; refine zR y20_156 ?_))
 refine (show FnX _ _ _ _ _ _ from hLik).runs.mono ?_
 rintro _ HQ ⟨rfl, hHQ⟩
 rw [hHQ]
 clear hHQ HQ hLik
 simp -implicitDefEqProofs (disch := omega) only [Ak0, Aq0, Aqp]
 (iterate 2 (refine @unH _ ?_; refine zR y20_156 ?_))
 (refine RZ_nil ?_; refine hK _ _ ?_; clear hK K; (try simp only [nq, ↓reduceIte, Nat.reduceEqDiff]))
 refine Bjl (fun e => e 2 = .pointer (some ⟨ab, 0, none⟩) /\ e 3 = .pointer (some ⟨bb, 0, none⟩) /\ e 37 = .bool false) ⟨rfl, rfl, rfl⟩ ?_
 rintro e ⟨e2, e3, e37⟩
 (refine @unH _ (zA y20_156 ?_); (try clear hK K); intro K hK hc)
 clear e37
 refine Axh (fun w a' H' => ∃ e, ∃ j : Nat, w = s.doors.length - j /\ j <= s.doors.length /\ a' = act 74 e [] /\ e 2 = .pointer (some ⟨ab, 0, none⟩) /\ e 3 = .pointer (some ⟨bb, 0, none⟩) /\ e 5 = .int .i64 (j : Nat) /\ H' = H2) (n := s.doors.length) ?_ ?_
 ·exact ⟨_, 0, by omega, by omega, rfl, e2, e3, rfl, rfl⟩
 clear e2 e3 e
 rintro w a' H' ⟨e, j, rfl, hj, rfl, e2, e3, e5, hHQ⟩
 rw [hHQ]
 clear hHQ H'
 by_cases hlj : j < s.doors.length
 ·have hlj' : (j : Int) < s.doors.length := by omega
  have hkd := List.getElem?_eq_getElem hlj
  obtain ⟨db, dof, dp, dcl, dfr, rfl, hdb2, hdsz, _, hdext⟩ := SlG.get (show SlG _ _ H2 _ _ from hd) (i := j) (r := Ckc s.doors[j]) (by rw [List.getElem?_map, hkd]; rfl)
  obtain ⟨db', dof', dp', dcl', dfr', rfl, hdb2', hdsz', _, hdext'⟩ := SlG.get (show SlG _ _ H2 _ _ from hd') (i := j) (r := Ckc s.doors[j]) (by rw [List.getElem?_map, hkd]; rfl)
  generalize s.doors[j] = d at *
  unfold Ckc at hdext hdext'
  clear hkd hd hd'
  (refine @unH _ (zA y20_156 ?_); (try clear hK K); intro K hK hc)
  refine Azl (fun HX => HX = H2) [] (.free 0 (.take 1 (.free 2 (.free 3 (.take 4 (.free 5 (.take 6 (.free 7 (.free 8 (.take 9 (.free 10 .nil))))))))))) (by kernel_rfl) (by kernel_rfl) (by decide) (by kernel_rfl) ?_; intro K hK
  refine Byy fun ops hOz => ?_
  (refine @unH _ ?_; refine zF y20_156 ?_)
  (refine @unH _ ?_; refine zL y20_156 ?_)
  (iterate 2 (refine @unH _ ?_; refine zF y20_156 ?_))
  (refine @unH _ ?_; refine zL y20_156 ?_)
  (refine @unH _ ?_; refine zF y20_156 ?_)
  (refine @unH _ ?_; refine zL y20_156 ?_)
  (iterate 2 (refine @unH _ ?_; refine zF y20_156 ?_))
  (refine @unH _ ?_; refine zL y20_156 ?_)
  (refine @unH _ ?_; refine zF (aN y20_156 (aN @sgDoor @snDoor)) ?_)
  (refine planZ_nil (hK _ _ ?_); clear hK K; (try simp only [nq, ↓reduceIte, Nat.reduceEqDiff]))
  (refine @unH _ (zA y20_156 ?_); (try clear hK K); intro K hK hc)
  exact ⟨s.doors.length - (j + 1), by omega, _, j + 1, rfl, by omega, rfl, e2, e3, rfl, trivial⟩
 have hlj' : ¬ (j : Int) < s.doors.length := by omega
 (refine @unH _ (zA y20_156 ?_); (try clear hK K); intro K hK hc)
 clear e5 hd hd' hlj hlj'
 refine Axh (fun w a' H' => ∃ e, ∃ j : Nat, w = s.noses.length - j /\ j <= s.noses.length /\ a' = act 74 e [] /\ e 2 = .pointer (some ⟨ab, 0, none⟩) /\ e 3 = .pointer (some ⟨bb, 0, none⟩) /\ e 6 = .int .i64 (j : Nat) /\ H' = H2) (n := s.noses.length) ?_ ?_
 ·exact ⟨_, 0, by omega, by omega, rfl, e2, e3, rfl, rfl⟩
 clear e2 e3 e
 rintro w a' H' ⟨e, j, rfl, hj, rfl, e2, e3, e6, hHQ⟩
 rw [hHQ]
 clear hHQ H'
 by_cases hlj : j < s.noses.length
 ·have hlj' : (j : Int) < s.noses.length := by omega
  have hkd := List.getElem?_eq_getElem hlj
  obtain ⟨db, dof, dp, dcl, dfr, rfl, hdb2, hdsz, _, hdext⟩ := SlG.get (show SlG _ _ H2 _ _ from hn) (i := j) (r := Ck9 s.noses[j]) (by rw [List.getElem?_map, hkd]; rfl)
  obtain ⟨db', dof', dp', dcl', dfr', rfl, hdb2', hdsz', _, hdext'⟩ := SlG.get (show SlG _ _ H2 _ _ from hn') (i := j) (r := Ck9 s.noses[j]) (by rw [List.getElem?_map, hkd]; rfl)
  generalize s.noses[j] = d at *
  unfold Ck9 at hdext hdext'
  clear hkd hn hn'
  (refine @unH _ (zA y20_156 ?_); (try clear hK K); intro K hK hc)
  refine Azl (fun HX => HX = H2) [] (.free 0 (.take 1 (.free 2 (.free 3 (.take 4 (.free 5 (.take 6 (.free 7 (.free 8 (.take 9 (.free 10 .nil))))))))))) (by kernel_rfl) (by kernel_rfl) (by decide) (by kernel_rfl) ?_; intro K hK
  refine Byy fun ops hOz => ?_
  (refine @unH _ ?_; refine zF y20_156 ?_)
  (refine @unH _ ?_; refine zL y20_156 ?_)
  (iterate 2 (refine @unH _ ?_; refine zF y20_156 ?_))
  (refine @unH _ ?_; refine zL y20_156 ?_)
  (refine @unH _ ?_; refine zF y20_156 ?_)
  (refine @unH _ ?_; refine zL y20_156 ?_)
  (iterate 2 (refine @unH _ ?_; refine zF y20_156 ?_))
  (refine @unH _ ?_; refine zL y20_156 ?_)
  (refine @unH _ ?_; refine zF (aN y20_156 (aN @sgNose @snNose)) ?_)
  (refine planZ_nil (hK _ _ ?_); clear hK K; (try simp only [nq, ↓reduceIte, Nat.reduceEqDiff]))
  (refine @unH _ (zA y20_156 ?_); (try clear hK K); intro K hK hc)
  exact ⟨s.noses.length - (j + 1), by omega, _, j + 1, rfl, by omega, rfl, e2, e3, rfl, trivial⟩
 have hlj' : ¬ (j : Int) < s.noses.length := by omega
 (refine @unH _ (zA y20_156 ?_); (try clear hK K); intro K hK hc)
 (refine @unH _ ?_; refine z9 results20 ?_)
 exact ⟨trivial, l2⟩
end Go.Proofs.YtnfnaehonkbknaaGreatDoor
end
